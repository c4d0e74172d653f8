/- Proved: the ways through patchbaylaw3_SegSays that return true, as a walk of its code. Condition: the printed function says true. -/
import Derived.Test.YtjiiejeldgkdiaaZP1
import Derived.Test.YtjiiejeldgkdiaaZSegE
import Derived.Test.YtjiiejeldgkdiaaZSegF
import Derived.Test.YtjiiejeldgkdiaaZSegG
namespace Go.Proofs.Ytjiiejeldgkdiaa.PSegSays
open Go.RowKit Go.Proofs.YtjiiejeldgkdiaaW.PrintWords Go.Proofs.YtjiiejeldgkdiaaW.PrintLast Go.Proofs.YtjiiejeldgkdiaaW.PrintMore
attribute [local go_sem] max2_int min2_int max_two min_two max_three min_three max_four min_four   -- for this text's walks alone
set_option linter.unusedVariables false
set_option linter.unusedSimpArgs false

mutual
def patchbaylaw3_SegSays.j0 : Nat → Int → Int → ByteArray → Int → ByteArray → Int → Int → Int → Int → Int → Int → List (S77) → ByteArray → Option (Bool)
  | 0, _, _, _, _, _, _, _, _, _, _, _, _, _ => none
  | k + 1, x0, x1, x3, x9, x10, x279000, x279001, x279002, x279003, x279004, x279005, x279006, x279007 => (seg_Encode.f k x0 x1 x279000 x279001 x279002 x279003 x279004 x279005 x279006 x279007).bind fun bt282 => ((seg_Decode.f k x0 x1 x3).bind fun bt284 => ((patchbayref3_SegOf.f k x0 x1 x3).bind fun bt296 => (if x279004 < 0 then ((seg_Length.f x279000 x279001 x279002 x279003 x279004 x279005 x279006 x279007).bind fun t308 => (patchbaylaw3_SegSays.j1 k x3 x9 x10 bt282.1 bt282.2 bt284.2.2.2.2.2.2.2.2 bt296.2.2.2.2.2.2.2.2 t308 x279000 x279001 x279002 x279003 x279004 x279005 x279006 x279007 bt284.1 bt284.2.1 bt284.2.2.1 bt284.2.2.2.1 bt284.2.2.2.2.1 bt284.2.2.2.2.2.1 bt284.2.2.2.2.2.2.1 bt284.2.2.2.2.2.2.2.1 bt296.1 bt296.2.1 bt296.2.2.1 bt296.2.2.2.1 bt296.2.2.2.2.1 bt296.2.2.2.2.2.1 bt296.2.2.2.2.2.2.1 bt296.2.2.2.2.2.2.2.1)) else (patchbaylaw3_SegSays.j1 k x3 x9 x10 bt282.1 bt282.2 bt284.2.2.2.2.2.2.2.2 bt296.2.2.2.2.2.2.2.2 (wrap64 ((wrap64 ((x279007.size : Int) + (Int.tmod x279004 2))) + (Int.tmod (wrap64 (Int.tdiv x279004 2)) 2))) x279000 x279001 x279002 x279003 x279004 x279005 x279006 x279007 bt284.1 bt284.2.1 bt284.2.2.1 bt284.2.2.2.1 bt284.2.2.2.2.1 bt284.2.2.2.2.2.1 bt284.2.2.2.2.2.2.1 bt284.2.2.2.2.2.2.2.1 bt296.1 bt296.2.1 bt296.2.2.1 bt296.2.2.2.1 bt296.2.2.2.2.1 bt296.2.2.2.2.2.1 bt296.2.2.2.2.2.2.1 bt296.2.2.2.2.2.2.2.1))))
def patchbaylaw3_SegSays.j1 : Nat → ByteArray → Int → ByteArray → ByteArray → Int → Int → Int → Int → Int → Int → Int → Int → Int → Int → List (S77) → ByteArray → Int → Int → Int → Int → Int → Int → List (S77) → ByteArray → Int → Int → Int → Int → Int → Int → List (S77) → ByteArray → Option (Bool)
  | 0, _, _, _, _, _, _, _, _, _, _, _, _, _, _, _, _, _, _, _, _, _, _, _, _, _, _, _, _, _, _, _, _ => none
  | k + 1, x3, x9, x10, x11, x12, x14, x16, x17, x279000, x279001, x279002, x279003, x279004, x279005, x279006, x279007, x296000, x296001, x296002, x296003, x296004, x296005, x296006, x296007, x308000, x308001, x308002, x308003, x308004, x308005, x308006, x308007 => (seg_Check.f k x279000 x279001 x279002 x279003 x279004 x279005 x279006 x279007).bind fun t309 => (if t309 = x9 then (if x11.toList = x10.toList then (if x12 = x9 then ((patchbayref3_SameSeg.f k x296000 x296001 x296002 x296003 x296004 x296005 x296006 x296007 x308000 x308001 x308002 x308003 x308004 x308005 x308006 x308007).bind fun t310 => (if t310 = true then (if x14 = x16 then ((seg_Length.f x279000 x279001 x279002 x279003 x279004 x279005 x279006 x279007).bind fun t311 => (if t311 = x17 then ((seg_Sum.f k x3).bind fun t312 => ((patchbayref3_Sum.f k x3).bind fun t313 => (some (t312 == t313)))) else (some false))) else (some false)) else (some false))) else (some false)) else (some false)) else (some false))
end
def patchbaylaw3_SegSays.f (k : Nat) (a0 : Int) (a1 : Int) (a2_0 : Int) (a2_1 : Int) (a2_2 : Int) (a2_3 : Int) (a2_4 : Int) (a2_5 : Int) (l2_6 : List (S77)) (a2_7 : ByteArray) (a3 : ByteArray) : Option (Bool) := (patchbaylaw3_segFact.f k).bind fun t279 => (if t279 = true then ((patchbayref3_SegFault.f k a2_0 a2_1 a2_2 a2_3 a2_4 a2_5 l2_6 a2_7).bind fun t280 => (if t280 = 0 then ((patchbayref3_SegBytes.f k a0 a1 a2_0 a2_1 a2_2 a2_3 a2_4 a2_5 l2_6 a2_7).bind fun t281 => (patchbaylaw3_SegSays.j0 k a0 a1 a3 t280 t281 a2_0 a2_1 a2_2 a2_3 a2_4 a2_5 l2_6 a2_7)) else (patchbaylaw3_SegSays.j0 k a0 a1 a3 t280 (⟨#[]⟩ : ByteArray) a2_0 a2_1 a2_2 a2_3 a2_4 a2_5 l2_6 a2_7))) else (some false))
set_option maxHeartbeats 8000000 in
set_option maxRecDepth 100000 in
theorem patchbaylaw3_SegSays.calls (k : Nat) (a0 : Int) (a1 : Int) (a2_0 : Int) (a2_1 : Int) (a2_2 : Int) (a2_3 : Int) (a2_4 : Int) (a2_5 : Int) (A2_6 : Option Addr) (c2_6 : Nat) (l2_6 : List (S77)) (a2_7 : ByteArray) (a3 : ByteArray) (r : Bool) (w : World) (hr2_6 : Kd.C k77 w A2_6 l2_6.length l2_6) (hc2_6 : l2_6.length ≤ c2_6) (h : patchbaylaw3_SegSays.f k a0 a1 a2_0 a2_1 a2_2 a2_3 a2_4 a2_5 l2_6 a2_7 a3 = some r) (hr : r = true) :
    Calls Try.prog 8 #[.int .u32 a0, .int .u32 a1, .agg #[.int .i64 a2_0, .int .i64 a2_1, .int .u32 a2_2, .int .u32 a2_3, .int .i64 a2_4, .int .i64 a2_5, .slice A2_6 l2_6.length c2_6, .string a2_7], .string a3] w fun e w' => e = .returned (.bool r) ∧ Below w.heap.size w w' := by
  have HR := Aside0.mk hr
  clear hr
  have hu35 := Try.underlying35
  have HR2_6 := Aside0.mk hr2_6
  have HC2_6 := Aside0.mk hc2_6
  clear hr2_6 hc2_6
  have HB := Aside0.mk (Below.refl w.heap.size w)
  have H : ((patchbaylaw3_segFact.f k).bind fun t279 => (if t279 = true then ((patchbayref3_SegFault.f k a2_0 a2_1 a2_2 a2_3 a2_4 a2_5 l2_6 a2_7).bind fun t280 => (if t280 = 0 then ((patchbayref3_SegBytes.f k a0 a1 a2_0 a2_1 a2_2 a2_3 a2_4 a2_5 l2_6 a2_7).bind fun t281 => (patchbaylaw3_SegSays.j0 k a0 a1 a3 t280 t281 a2_0 a2_1 a2_2 a2_3 a2_4 a2_5 l2_6 a2_7)) else (patchbaylaw3_SegSays.j0 k a0 a1 a3 t280 (⟨#[]⟩ : ByteArray) a2_0 a2_1 a2_2 a2_3 a2_4 a2_5 l2_6 a2_7))) else (some false))) = some r := h
  clear h
  replace H := Option.bind_eq_some_iff.mp H
  obtain ⟨t279, A50, H⟩ := H
  replace H : (if t279 = true then ((patchbayref3_SegFault.f k a2_0 a2_1 a2_2 a2_3 a2_4 a2_5 l2_6 a2_7).bind fun t280 => (if t280 = 0 then ((patchbayref3_SegBytes.f k a0 a1 a2_0 a2_1 a2_2 a2_3 a2_4 a2_5 l2_6 a2_7).bind fun t281 => (patchbaylaw3_SegSays.j0 k a0 a1 a3 t280 t281 a2_0 a2_1 a2_2 a2_3 a2_4 a2_5 l2_6 a2_7)) else (patchbaylaw3_SegSays.j0 k a0 a1 a3 t280 (⟨#[]⟩ : ByteArray) a2_0 a2_1 a2_2 a2_3 a2_4 a2_5 l2_6 a2_7))) else (some false)) = some r := H
  have A5 := Aside0.mk A50
  clear A50
  by_cases c6 : t279 = true
  · subst c6
    have H1 : ((patchbayref3_SegFault.f k a2_0 a2_1 a2_2 a2_3 a2_4 a2_5 l2_6 a2_7).bind fun t280 => (if t280 = 0 then ((patchbayref3_SegBytes.f k a0 a1 a2_0 a2_1 a2_2 a2_3 a2_4 a2_5 l2_6 a2_7).bind fun t281 => (patchbaylaw3_SegSays.j0 k a0 a1 a3 t280 t281 a2_0 a2_1 a2_2 a2_3 a2_4 a2_5 l2_6 a2_7)) else (patchbaylaw3_SegSays.j0 k a0 a1 a3 t280 (⟨#[]⟩ : ByteArray) a2_0 a2_1 a2_2 a2_3 a2_4 a2_5 l2_6 a2_7))) = some r := by rw [if_pos rfl] at H; exact H
    clear H
    have H := H1
    clear H1
    replace H := Option.bind_eq_some_iff.mp H
    obtain ⟨t280, A70, H⟩ := H
    replace H : (if t280 = 0 then ((patchbayref3_SegBytes.f k a0 a1 a2_0 a2_1 a2_2 a2_3 a2_4 a2_5 l2_6 a2_7).bind fun t281 => (patchbaylaw3_SegSays.j0 k a0 a1 a3 t280 t281 a2_0 a2_1 a2_2 a2_3 a2_4 a2_5 l2_6 a2_7)) else (patchbaylaw3_SegSays.j0 k a0 a1 a3 t280 (⟨#[]⟩ : ByteArray) a2_0 a2_1 a2_2 a2_3 a2_4 a2_5 l2_6 a2_7)) = some r := H
    have A7 := Aside0.mk A70
    clear A70
    have HC8 := Aside0.mk H
    clear H
    go_enter Try.func8, Try.ntmps8
    go_upto_if 23 with (first | ((with_reducible refine gate_dst (N := 6) rfl ?_); refine box_event ?hg (N := 6) ?hd (cs := #[.int .i64 a2_0, .int .i64 a2_1, .int .u32 a2_2, .int .u32 a2_3, .int .i64 a2_4, .int .i64 a2_5, .slice A2_6 l2_6.length c2_6, .string a2_7]) (t := 35) ?hr ?_; (case hd => rfl); (case hg => rfl); (case hr => first | (go_simp; done) | (go_simp; rfl)); intro gb278 hg w9 hbox hb; have n0_ := Aside0.mk (below_step (by repeat (first | (with_reducible first | exact HB.out | apply below_alloc | apply pw_below_drewN | apply below_drew1) | exact HB.out)) hb); have n1_ := Aside0.mk (hbox); have n2_ := Aside0.mk ((by rw [hg]; exact (below_size (by repeat (first | (with_reducible first | exact HB.out | apply below_alloc | apply pw_below_drewN | apply below_drew1) | exact HB.out))) : w.heap.size ≤ gb278)); have n3_ := Aside0.mk ((by rw [hg]; exact (below_size (by repeat (first | (with_reducible first | exact HB.out | apply below_alloc | apply pw_below_drewN | apply below_drew1) | exact HB.out))) : w.heap.size ≤ gb278)); clear HB; have HB := n0_; have BK278 := n1_; have GW278 := n2_; have GE278 := n3_; clear n0_ n1_ n2_ n3_; clear hb hbox hg) | ((with_reducible refine gate_callee (f := 55) rfl ?_); refine goesL_ (some 18) rfl rfl Try.func55 (by kernel_rfl) rfl #[] rfl (by (try simp only [List.map_toArray, List.map_cons, List.map_nil]); first | done | rfl | (simp only [List.length_drop, List.length_take]; rfl)) ?_; (with_reducible refine (patchbaylaw3_segFact.calls k  true _ A5.out).mono ?_); rintro e w' ⟨rfl, ⟨nd, rfl⟩⟩; refine ⟨_, rfl, ?_⟩; have hcz10_0 : w9.cell? ⟨gb278, 0, none⟩ = some (.int .i64 a2_0) := (blk_cell BK278.out 0).trans rfl; have hcz10_1 : w9.cell? ⟨gb278, 1, none⟩ = some (.int .i64 a2_1) := (blk_cell BK278.out 1).trans rfl; have hcz10_2 : w9.cell? ⟨gb278, 2, none⟩ = some (.int .u32 a2_2) := (blk_cell BK278.out 2).trans rfl; have hcz10_3 : w9.cell? ⟨gb278, 3, none⟩ = some (.int .u32 a2_3) := (blk_cell BK278.out 3).trans rfl; have hcz10_4 : w9.cell? ⟨gb278, 4, none⟩ = some (.int .i64 a2_4) := (blk_cell BK278.out 4).trans rfl; have hcz10_5 : w9.cell? ⟨gb278, 5, none⟩ = some (.int .i64 a2_5) := (blk_cell BK278.out 5).trans rfl; have hcz10_6 : w9.cell? ⟨gb278, 6, none⟩ = some (.slice A2_6 l2_6.length c2_6) := (blk_cell BK278.out 6).trans rfl; have hcz10_7 : w9.cell? ⟨gb278, 7, none⟩ = some (.string a2_7) := (blk_cell BK278.out 7).trans rfl; have hfz10_0 := blk_frozen BK278.out 0; have hfz10_1 := blk_frozen BK278.out 1; have hfz10_2 := blk_frozen BK278.out 2; have hfz10_3 := blk_frozen BK278.out 3; have hfz10_4 := blk_frozen BK278.out 4; have hfz10_5 := blk_frozen BK278.out 5; have hfz10_6 := blk_frozen BK278.out 6; have hfz10_7 := blk_frozen BK278.out 7) | ((with_reducible refine gate_callee (f := 21) rfl ?_); refine goesL_ (some 21) rfl rfl Try.func21 (by kernel_rfl) rfl #[.agg #[.int .i64 a2_0, .int .i64 a2_1, .int .u32 a2_2, .int .u32 a2_3, .int .i64 a2_4, .int .i64 a2_5, .slice A2_6 l2_6.length c2_6, .string a2_7]] rfl (by (try simp only [List.map_toArray, List.map_cons, List.map_nil]); first | done | rfl | (simp only [List.length_drop, List.length_take]; rfl)) ?_; (with_reducible refine (patchbayref3_SegFault.calls k a2_0 a2_1 a2_2 a2_3 a2_4 a2_5 _ _ l2_6 a2_7 t280 _ ?side1 ?side2 A7.out).mono ?_); (case side1 => repeat (first | exact (Kd.C_below HR2_6.out (by repeat (first | (with_reducible first | exact HB.out | apply below_alloc | apply pw_below_drewN | apply below_drew1 | refine below_set ?_ GE278.out) | exact HB.out))) | (with_reducible refine Kd.C_alloc ?_ _) | (with_reducible refine Kd.C_drewN ?_ _) | (with_reducible refine Kd.C_drew ?_))); (case side2 => exact HC2_6.out); rintro e w11 ⟨rfl, hb⟩; refine ⟨_, rfl, ?_⟩; have n0_ := Aside0.mk (blk_below (g := gb278) (o := .cells #[.int .i64 a2_0, .int .i64 a2_1, .int .u32 a2_2, .int .u32 a2_3, .int .i64 a2_4, .int .i64 a2_5, .slice A2_6 l2_6.length c2_6, .string a2_7] 35 (0, 0)) (by (with_reducible repeat (first | refine blk_drewN ?_ _ | refine blk_drew ?_ | refine blk_alloc ?_ _)); exact BK278.out) hb); have n1_ := Aside0.mk (below_step (by repeat (first | (with_reducible first | exact HB.out | apply below_alloc | apply pw_below_drewN | apply below_drew1 | refine below_set ?_ GE278.out) | exact HB.out)) hb); clear BK278; clear HB; have BK278 := n0_; have HB := n1_; clear n0_ n1_; (try clear hb); (try clear hb2); (try clear hk); (try clear hi)))
    (try simp only [Act.put, List.setIfInBounds_toArray, List.set_cons_zero, List.set_cons_succ])
    go_cut [10] (fun v10 wc => ∃ (kq : Nat) (x10_7 : ByteArray), v10 = .string x10_7 ∧ Aside0 (patchbaylaw3_SegSays.j0 kq a0 a1 a3 t280 x10_7 a2_0 a2_1 a2_2 a2_3 a2_4 a2_5 l2_6 a2_7 = some r) ∧ Aside0 (kq ≤ k) ∧ Aside0 (wc.heap[gb278]? = some (.cells #[.int .i64 a2_0, .int .i64 a2_1, .int .u32 a2_2, .int .u32 a2_3, .int .i64 a2_4, .int .i64 a2_5, (.slice A2_6 l2_6.length c2_6), .string a2_7] 35 (0, 0))) ∧ Aside0 (Below w.heap.size w wc))
    case first =>
      have H := HC8.out
      clear HC8
      by_cases c12 : t280 = 0
      · rw [if_pos c12] at H
        have c12b0 : (t280 == 0) = true := beq_iff_eq.mpr c12
        have c12b1 : (t280 != 0) = false := bne_eq_false_iff_eq.mpr c12
        clear c12
        (first | rw [c12b0] | (simp only [i64_w, i32_w]; rw [c12b0]) | skip)
        replace H := Option.bind_eq_some_iff.mp H
        obtain ⟨t281, A130, H⟩ := H
        replace H : (patchbaylaw3_SegSays.j0 k a0 a1 a3 t280 t281 a2_0 a2_1 a2_2 a2_3 a2_4 a2_5 l2_6 a2_7) = some r := H
        have A13 := Aside0.mk A130
        clear A130
        have H' := Aside0.mk H
        clear H
        have hcz14_0 : w11.cell? ⟨gb278, 0, none⟩ = some (.int .i64 a2_0) := (blk_cell BK278.out 0).trans rfl
        have hcz14_1 : w11.cell? ⟨gb278, 1, none⟩ = some (.int .i64 a2_1) := (blk_cell BK278.out 1).trans rfl
        have hcz14_2 : w11.cell? ⟨gb278, 2, none⟩ = some (.int .u32 a2_2) := (blk_cell BK278.out 2).trans rfl
        have hcz14_3 : w11.cell? ⟨gb278, 3, none⟩ = some (.int .u32 a2_3) := (blk_cell BK278.out 3).trans rfl
        have hcz14_4 : w11.cell? ⟨gb278, 4, none⟩ = some (.int .i64 a2_4) := (blk_cell BK278.out 4).trans rfl
        have hcz14_5 : w11.cell? ⟨gb278, 5, none⟩ = some (.int .i64 a2_5) := (blk_cell BK278.out 5).trans rfl
        have hcz14_6 : w11.cell? ⟨gb278, 6, none⟩ = some (.slice A2_6 l2_6.length c2_6) := (blk_cell BK278.out 6).trans rfl
        have hcz14_7 : w11.cell? ⟨gb278, 7, none⟩ = some (.string a2_7) := (blk_cell BK278.out 7).trans rfl
        have hfz14_0 := blk_frozen BK278.out 0
        have hfz14_1 := blk_frozen BK278.out 1
        have hfz14_2 := blk_frozen BK278.out 2
        have hfz14_3 := blk_frozen BK278.out 3
        have hfz14_4 := blk_frozen BK278.out 4
        have hfz14_5 := blk_frozen BK278.out 5
        have hfz14_6 := blk_frozen BK278.out 6
        have hfz14_7 := blk_frozen BK278.out 7
        go_wp2_with (first | ((with_reducible refine gate_callee (f := 56) rfl ?_); refine goesL_ (some 27) rfl rfl Try.func56 (by kernel_rfl) rfl #[.int .u32 a0, .int .u32 a1, .agg #[.int .i64 a2_0, .int .i64 a2_1, .int .u32 a2_2, .int .u32 a2_3, .int .i64 a2_4, .int .i64 a2_5, .slice A2_6 l2_6.length c2_6, .string a2_7]] rfl (by (try simp only [List.map_toArray, List.map_cons, List.map_nil]); first | done | rfl | (simp only [List.length_drop, List.length_take]; rfl)) ?_; (with_reducible refine (patchbayref3_SegBytes.calls k a0 a1 a2_0 a2_1 a2_2 a2_3 a2_4 a2_5 _ _ l2_6 a2_7 t281 _ ?side1 ?side2 A13.out).mono ?_); (case side1 => repeat (first | exact (Kd.C_below HR2_6.out HB.out) | (with_reducible refine Kd.C_alloc ?_ _) | (with_reducible refine Kd.C_drewN ?_ _) | (with_reducible refine Kd.C_drew ?_))); (case side2 => exact HC2_6.out); rintro e w15 ⟨rfl, hb⟩; refine ⟨_, rfl, ?_⟩; have n0_ := Aside0.mk (blk_below (g := gb278) (o := .cells #[.int .i64 a2_0, .int .i64 a2_1, .int .u32 a2_2, .int .u32 a2_3, .int .i64 a2_4, .int .i64 a2_5, .slice A2_6 l2_6.length c2_6, .string a2_7] 35 (0, 0)) (by (with_reducible repeat (first | refine blk_drewN ?_ _ | refine blk_drew ?_ | refine blk_alloc ?_ _)); exact BK278.out) hb); have n1_ := Aside0.mk (below_step (by repeat (first | (with_reducible first | exact HB.out | apply below_alloc | apply pw_below_drewN | apply below_drew1 | refine below_set ?_ GE278.out) | exact HB.out)) hb); clear BK278; clear HB; have BK278 := n0_; have HB := n1_; clear n0_ n1_; (try clear hb); (try clear hb2); (try clear hk); (try clear hi)))
        go_meet
        case rel => exact ⟨_, (t281), (by first | rfl | (simp; done) | (simp [*]; done)), H', ⟨by first | omega | exact Nat.le_refl _⟩, ⟨by (with_reducible repeat (first | refine blk_drewN ?_ _ | refine blk_drew ?_ | refine blk_alloc ?_ _)); exact BK278.out⟩, ⟨by repeat (first | (with_reducible first | exact HB.out | apply below_alloc | apply pw_below_drewN | apply below_drew1 | refine below_set ?_ GE278.out) | exact HB.out)⟩⟩
      · rw [if_neg c12] at H
        have c12b0 : (t280 == 0) = false := beq_eq_false_iff_ne.mpr c12
        have c12b1 : (t280 != 0) = true := bne_iff_ne.mpr c12
        (first | rw [c12b0] | (simp only [i64_w, i32_w]; rw [c12b0]) | skip)
        have H' := Aside0.mk H
        clear H
        go_wp2
        go_meet
        case rel => exact ⟨_, ((⟨#[]⟩ : ByteArray)), (by first | rfl | (simp; done) | (simp [*]; done)), H', ⟨by first | omega | exact Nat.le_refl _⟩, ⟨by (with_reducible repeat (first | refine blk_drewN ?_ _ | refine blk_drew ?_ | refine blk_alloc ?_ _)); exact BK278.out⟩, ⟨by repeat (first | (with_reducible first | exact HB.out | apply below_alloc | apply pw_below_drewN | apply below_drew1 | refine below_set ?_ GE278.out) | exact HB.out)⟩⟩
    case rest =>
      clear HC8
      try clear c1
      try clear c2
      try clear p2
      try clear c5
      try clear c6
      try clear c8
      try clear c12
      try clear c12b0
      try clear c12b1
      try clear hcz10_0
      try clear hcz10_1
      try clear hcz10_2
      try clear hcz10_3
      try clear hcz10_4
      try clear hcz10_5
      try clear hcz10_6
      try clear hcz10_7
      try clear hcz14_0
      try clear hcz14_1
      try clear hcz14_2
      try clear hcz14_3
      try clear hcz14_4
      try clear hcz14_5
      try clear hcz14_6
      try clear hcz14_7
      try clear hfz10_0
      try clear hfz10_1
      try clear hfz10_2
      try clear hfz10_3
      try clear hfz10_4
      try clear hfz10_5
      try clear hfz10_6
      try clear hfz10_7
      try clear hfz14_0
      try clear hfz14_1
      try clear hfz14_2
      try clear hfz14_3
      try clear hfz14_4
      try clear hfz14_5
      try clear hfz14_6
      try clear hfz14_7
      obtain ⟨kq, x10_7, rfl, HA, HJ7, BK278, HB⟩ := hcut
      cases kq with
      | zero => exact absurd HA.out (by simp [patchbaylaw3_SegSays.j0])
      | succ kj7 =>
        have H := HA.out
        clear HA
        simp only [patchbaylaw3_SegSays.j0] at H
        replace H := Option.bind_eq_some_iff.mp H
        obtain ⟨⟨t282, t283⟩, A160, H⟩ := H
        replace H : ((seg_Decode.f kj7 a0 a1 a3).bind fun bt284 => ((patchbayref3_SegOf.f kj7 a0 a1 a3).bind fun bt296 => (if a2_4 < 0 then ((seg_Length.f a2_0 a2_1 a2_2 a2_3 a2_4 a2_5 l2_6 a2_7).bind fun t308 => (patchbaylaw3_SegSays.j1 kj7 a3 t280 x10_7 t282 t283 bt284.2.2.2.2.2.2.2.2 bt296.2.2.2.2.2.2.2.2 t308 a2_0 a2_1 a2_2 a2_3 a2_4 a2_5 l2_6 a2_7 bt284.1 bt284.2.1 bt284.2.2.1 bt284.2.2.2.1 bt284.2.2.2.2.1 bt284.2.2.2.2.2.1 bt284.2.2.2.2.2.2.1 bt284.2.2.2.2.2.2.2.1 bt296.1 bt296.2.1 bt296.2.2.1 bt296.2.2.2.1 bt296.2.2.2.2.1 bt296.2.2.2.2.2.1 bt296.2.2.2.2.2.2.1 bt296.2.2.2.2.2.2.2.1)) else (patchbaylaw3_SegSays.j1 kj7 a3 t280 x10_7 t282 t283 bt284.2.2.2.2.2.2.2.2 bt296.2.2.2.2.2.2.2.2 (wrap64 ((wrap64 ((a2_7.size : Int) + (Int.tmod a2_4 2))) + (Int.tmod (wrap64 (Int.tdiv a2_4 2)) 2))) a2_0 a2_1 a2_2 a2_3 a2_4 a2_5 l2_6 a2_7 bt284.1 bt284.2.1 bt284.2.2.1 bt284.2.2.2.1 bt284.2.2.2.2.1 bt284.2.2.2.2.2.1 bt284.2.2.2.2.2.2.1 bt284.2.2.2.2.2.2.2.1 bt296.1 bt296.2.1 bt296.2.2.1 bt296.2.2.2.1 bt296.2.2.2.2.1 bt296.2.2.2.2.2.1 bt296.2.2.2.2.2.2.1 bt296.2.2.2.2.2.2.2.1)))) = some r := H
        have A16 := Aside0.mk A160
        clear A160
        replace H := Option.bind_eq_some_iff.mp H
        obtain ⟨⟨t284, t285, t286, t287, t288, t289, t290, t293, t294⟩, A170, H⟩ := H
        replace H : ((patchbayref3_SegOf.f kj7 a0 a1 a3).bind fun bt296 => (if a2_4 < 0 then ((seg_Length.f a2_0 a2_1 a2_2 a2_3 a2_4 a2_5 l2_6 a2_7).bind fun t308 => (patchbaylaw3_SegSays.j1 kj7 a3 t280 x10_7 t282 t283 t294 bt296.2.2.2.2.2.2.2.2 t308 a2_0 a2_1 a2_2 a2_3 a2_4 a2_5 l2_6 a2_7 t284 t285 t286 t287 t288 t289 t290 t293 bt296.1 bt296.2.1 bt296.2.2.1 bt296.2.2.2.1 bt296.2.2.2.2.1 bt296.2.2.2.2.2.1 bt296.2.2.2.2.2.2.1 bt296.2.2.2.2.2.2.2.1)) else (patchbaylaw3_SegSays.j1 kj7 a3 t280 x10_7 t282 t283 t294 bt296.2.2.2.2.2.2.2.2 (wrap64 ((wrap64 ((a2_7.size : Int) + (Int.tmod a2_4 2))) + (Int.tmod (wrap64 (Int.tdiv a2_4 2)) 2))) a2_0 a2_1 a2_2 a2_3 a2_4 a2_5 l2_6 a2_7 t284 t285 t286 t287 t288 t289 t290 t293 bt296.1 bt296.2.1 bt296.2.2.1 bt296.2.2.2.1 bt296.2.2.2.2.1 bt296.2.2.2.2.2.1 bt296.2.2.2.2.2.2.1 bt296.2.2.2.2.2.2.2.1))) = some r := H
        have A17 := Aside0.mk A170
        clear A170
        replace H := Option.bind_eq_some_iff.mp H
        obtain ⟨⟨t296, t297, t298, t299, t300, t301, t302, t305, t306⟩, A180, H⟩ := H
        replace H : (if a2_4 < 0 then ((seg_Length.f a2_0 a2_1 a2_2 a2_3 a2_4 a2_5 l2_6 a2_7).bind fun t308 => (patchbaylaw3_SegSays.j1 kj7 a3 t280 x10_7 t282 t283 t294 t306 t308 a2_0 a2_1 a2_2 a2_3 a2_4 a2_5 l2_6 a2_7 t284 t285 t286 t287 t288 t289 t290 t293 t296 t297 t298 t299 t300 t301 t302 t305)) else (patchbaylaw3_SegSays.j1 kj7 a3 t280 x10_7 t282 t283 t294 t306 (wrap64 ((wrap64 ((a2_7.size : Int) + (Int.tmod a2_4 2))) + (Int.tmod (wrap64 (Int.tdiv a2_4 2)) 2))) a2_0 a2_1 a2_2 a2_3 a2_4 a2_5 l2_6 a2_7 t284 t285 t286 t287 t288 t289 t290 t293 t296 t297 t298 t299 t300 t301 t302 t305)) = some r := H
        have A18 := Aside0.mk A180
        clear A180
        have HC19 := Aside0.mk H
        clear H
        have hcz20_0 : wc.cell? ⟨gb278, 0, none⟩ = some (.int .i64 a2_0) := (blk_cell BK278.out 0).trans rfl
        have hcz20_1 : wc.cell? ⟨gb278, 1, none⟩ = some (.int .i64 a2_1) := (blk_cell BK278.out 1).trans rfl
        have hcz20_2 : wc.cell? ⟨gb278, 2, none⟩ = some (.int .u32 a2_2) := (blk_cell BK278.out 2).trans rfl
        have hcz20_3 : wc.cell? ⟨gb278, 3, none⟩ = some (.int .u32 a2_3) := (blk_cell BK278.out 3).trans rfl
        have hcz20_4 : wc.cell? ⟨gb278, 4, none⟩ = some (.int .i64 a2_4) := (blk_cell BK278.out 4).trans rfl
        have hcz20_5 : wc.cell? ⟨gb278, 5, none⟩ = some (.int .i64 a2_5) := (blk_cell BK278.out 5).trans rfl
        have hcz20_6 : wc.cell? ⟨gb278, 6, none⟩ = some (.slice A2_6 l2_6.length c2_6) := (blk_cell BK278.out 6).trans rfl
        have hcz20_7 : wc.cell? ⟨gb278, 7, none⟩ = some (.string a2_7) := (blk_cell BK278.out 7).trans rfl
        have hfz20_0 := blk_frozen BK278.out 0
        have hfz20_1 := blk_frozen BK278.out 1
        have hfz20_2 := blk_frozen BK278.out 2
        have hfz20_3 := blk_frozen BK278.out 3
        have hfz20_4 := blk_frozen BK278.out 4
        have hfz20_5 := blk_frozen BK278.out 5
        have hfz20_6 := blk_frozen BK278.out 6
        have hfz20_7 := blk_frozen BK278.out 7
        go_upto_if 63 with (first | ((with_reducible refine gate_callee (f := 57) rfl ?_); refine goesL_ (some 32) rfl rfl Try.func57 (by kernel_rfl) rfl #[.int .u32 a0, .int .u32 a1, .agg #[.int .i64 a2_0, .int .i64 a2_1, .int .u32 a2_2, .int .u32 a2_3, .int .i64 a2_4, .int .i64 a2_5, .slice A2_6 l2_6.length c2_6, .string a2_7]] rfl (by (try simp only [List.map_toArray, List.map_cons, List.map_nil]); first | done | rfl | (simp only [List.length_drop, List.length_take]; rfl)) ?_; (with_reducible refine (seg_Encode.calls kj7 a0 a1 a2_0 a2_1 a2_2 a2_3 a2_4 a2_5 _ _ l2_6 a2_7 t282 t283 _ ?side1 ?side2 A16.out).mono ?_); (case side1 => repeat (first | exact (Kd.C_below HR2_6.out HB.out) | (with_reducible refine Kd.C_alloc ?_ _) | (with_reducible refine Kd.C_drewN ?_ _) | (with_reducible refine Kd.C_drew ?_))); (case side2 => exact HC2_6.out); rintro e w21 ⟨rfl, hb⟩; refine ⟨_, rfl, ?_⟩; have n0_ := Aside0.mk (blk_below (g := gb278) (o := .cells #[.int .i64 a2_0, .int .i64 a2_1, .int .u32 a2_2, .int .u32 a2_3, .int .i64 a2_4, .int .i64 a2_5, .slice A2_6 l2_6.length c2_6, .string a2_7] 35 (0, 0)) (by (with_reducible repeat (first | refine blk_drewN ?_ _ | refine blk_drew ?_ | refine blk_alloc ?_ _)); exact BK278.out) hb); have n1_ := Aside0.mk (below_step (by repeat (first | (with_reducible first | exact HB.out | apply below_alloc | apply pw_below_drewN | apply below_drew1 | refine below_set ?_ GE278.out) | exact HB.out)) hb); clear BK278; clear HB; have BK278 := n0_; have HB := n1_; clear n0_ n1_; (try clear hb); (try clear hb2); (try clear hk); (try clear hi)) | ((with_reducible refine gate_callee (f := 58) rfl ?_); refine goesL_ (some 39) rfl rfl Try.func58 (by kernel_rfl) rfl #[.int .u32 a0, .int .u32 a1, .string a3] rfl (by (try simp only [List.map_toArray, List.map_cons, List.map_nil]); first | done | rfl | (simp only [List.length_drop, List.length_take]; rfl)) ?_; (with_reducible refine (seg_Decode.calls kj7 a0 a1 a3 t284 t285 t286 t287 t288 t289 t290 t293 t294 _ A17.out).mono ?_); rintro e w22 ⟨v291, rfl, ho0, hb⟩; refine ⟨_, rfl, ?_⟩; have n0_ := Aside0.mk (Kd.R_lower ho0 (below_size (by repeat (first | (with_reducible first | exact HB.out | apply below_alloc | apply pw_below_drewN | apply below_drew1 | refine below_set ?_ GE278.out) | exact HB.out)))); have n1_ := Aside0.mk (blk_below (g := gb278) (o := .cells #[.int .i64 a2_0, .int .i64 a2_1, .int .u32 a2_2, .int .u32 a2_3, .int .i64 a2_4, .int .i64 a2_5, .slice A2_6 l2_6.length c2_6, .string a2_7] 35 (0, 0)) (by (with_reducible repeat (first | refine blk_drewN ?_ _ | refine blk_drew ?_ | refine blk_alloc ?_ _)); exact BK278.out) hb); have n2_ := Aside0.mk (below_step (by repeat (first | (with_reducible first | exact HB.out | apply below_alloc | apply pw_below_drewN | apply below_drew1 | refine below_set ?_ GE278.out) | exact HB.out)) hb); clear BK278; clear HB; have HO292 := n0_; have BK278 := n1_; have HB := n2_; clear n0_ n1_ n2_; (try clear hb); (try clear hb2); (try clear hk); (try clear hi); (try clear ho0)) | ((with_reducible refine gate_dst (N := 13) rfl ?_); refine box_event ?hg (N := 13) ?hd (cs := #[.int .i64 0, .int .i64 0, .int .u32 0, .int .u32 0, .int .i64 0, .int .i64 0, .slice none 0 0, .string (⟨#[]⟩ : ByteArray)]) (t := 35) ?hr ?_; (case hd => rfl); (case hg => rfl); (case hr => first | (go_simp; done) | (go_simp; rfl)); intro gb295 hg w23 hbox hb; have n0_ := Aside0.mk (Kd.R_below (by (with_reducible repeat (first | apply Kd.R_alloc | apply Kd.R_drewN | apply Kd.R_drew)); exact HO292.out) hb); have n1_ := Aside0.mk (blk_below (g := gb278) (o := .cells #[.int .i64 a2_0, .int .i64 a2_1, .int .u32 a2_2, .int .u32 a2_3, .int .i64 a2_4, .int .i64 a2_5, .slice A2_6 l2_6.length c2_6, .string a2_7] 35 (0, 0)) (by (with_reducible repeat (first | refine blk_drewN ?_ _ | refine blk_drew ?_ | refine blk_alloc ?_ _)); exact BK278.out) hb); have n2_ := Aside0.mk (below_step (by repeat (first | (with_reducible first | exact HB.out | apply below_alloc | apply pw_below_drewN | apply below_drew1 | refine below_set ?_ GE278.out) | exact HB.out)) hb); have n3_ := Aside0.mk (hbox); have n4_ := Aside0.mk ((by rw [hg]; exact (below_size (by repeat (first | (with_reducible first | exact HB.out | apply below_alloc | apply pw_below_drewN | apply below_drew1 | refine below_set ?_ GE278.out) | exact HB.out))) : w.heap.size ≤ gb295)); have n5_ := Aside0.mk ((by rw [hg]; exact (below_size (by repeat (first | (with_reducible first | exact HB.out | apply below_alloc | apply pw_below_drewN | apply below_drew1 | refine below_set ?_ GE278.out) | exact HB.out))) : w.heap.size ≤ gb295)); have n6_ := Aside0.mk ((by rw [hg]; exact Nat.ne_of_lt (blk_lt (g := gb278) (o := .cells #[.int .i64 a2_0, .int .i64 a2_1, .int .u32 a2_2, .int .u32 a2_3, .int .i64 a2_4, .int .i64 a2_5, .slice A2_6 l2_6.length c2_6, .string a2_7] 35 (0, 0)) (by (with_reducible repeat (first | refine blk_drewN ?_ _ | refine blk_drew ?_ | refine blk_alloc ?_ _)); exact BK278.out)) : gb278 ≠ gb295)); have n7_ := Aside0.mk ((by rw [hg]; exact Nat.ne_of_gt (blk_lt (g := gb278) (o := .cells #[.int .i64 a2_0, .int .i64 a2_1, .int .u32 a2_2, .int .u32 a2_3, .int .i64 a2_4, .int .i64 a2_5, .slice A2_6 l2_6.length c2_6, .string a2_7] 35 (0, 0)) (by (with_reducible repeat (first | refine blk_drewN ?_ _ | refine blk_drew ?_ | refine blk_alloc ?_ _)); exact BK278.out)) : gb295 ≠ gb278)); clear HO292; clear BK278; clear HB; have HO292 := n0_; have BK278 := n1_; have HB := n2_; have BK295 := n3_; have GW295 := n4_; have GE295 := n5_; have NB278_295 := n6_; have NB295_278 := n7_; clear n0_ n1_ n2_ n3_ n4_ n5_ n6_ n7_; clear hb hbox hg; have hnb24 := NB295_278.out; have hnc24 := NB278_295.out; have hcz25_0 : w23.cell? ⟨gb295, 0, none⟩ = some (.int .i64 0) := (blk_cell BK295.out 0).trans rfl; have hcz25_1 : w23.cell? ⟨gb295, 1, none⟩ = some (.int .i64 0) := (blk_cell BK295.out 1).trans rfl; have hcz25_2 : w23.cell? ⟨gb295, 2, none⟩ = some (.int .u32 0) := (blk_cell BK295.out 2).trans rfl; have hcz25_3 : w23.cell? ⟨gb295, 3, none⟩ = some (.int .u32 0) := (blk_cell BK295.out 3).trans rfl; have hcz25_4 : w23.cell? ⟨gb295, 4, none⟩ = some (.int .i64 0) := (blk_cell BK295.out 4).trans rfl; have hcz25_5 : w23.cell? ⟨gb295, 5, none⟩ = some (.int .i64 0) := (blk_cell BK295.out 5).trans rfl; have hcz25_6 : w23.cell? ⟨gb295, 6, none⟩ = some (.slice none 0 0) := (blk_cell BK295.out 6).trans rfl; have hcz25_7 : w23.cell? ⟨gb295, 7, none⟩ = some (.string (⟨#[]⟩ : ByteArray)) := (blk_cell BK295.out 7).trans rfl; have hfz25_0 := blk_frozen BK295.out 0; have hfz25_1 := blk_frozen BK295.out 1; have hfz25_2 := blk_frozen BK295.out 2; have hfz25_3 := blk_frozen BK295.out 3; have hfz25_4 := blk_frozen BK295.out 4; have hfz25_5 := blk_frozen BK295.out 5; have hfz25_6 := blk_frozen BK295.out 6; have hfz25_7 := blk_frozen BK295.out 7; obtain ⟨Ao26, co26, eo26⟩ := Kd.R_slice HO292.out; subst eo26) | ((with_reducible refine gate_callee (f := 59) rfl ?_); refine goesL_ (some 46) rfl rfl Try.func59 (by kernel_rfl) rfl #[.int .u32 a0, .int .u32 a1, .string a3] rfl (by (try simp only [List.map_toArray, List.map_cons, List.map_nil]); first | done | rfl | (simp only [List.length_drop, List.length_take]; rfl)) ?_; (with_reducible refine (patchbayref3_SegOf.calls kj7 a0 a1 a3 t296 t297 t298 t299 t300 t301 t302 t305 t306 _ A18.out).mono ?_); rintro e w27 ⟨v303, rfl, ho0, hb⟩; refine ⟨_, rfl, ?_⟩; have n0_ := Aside0.mk (Kd.R_elder' (by (with_reducible repeat (first | apply Kd.R_alloc | apply Kd.R_drewN | apply Kd.R_drew)); exact (Kd.R_mono (Kd.R_far (p := ⟨gb295, 7, none⟩) (Kd.R_far (p := ⟨gb295, 6, none⟩) (Kd.R_far (p := ⟨gb295, 5, none⟩) (Kd.R_far (p := ⟨gb295, 4, none⟩) (Kd.R_far (p := ⟨gb295, 3, none⟩) (Kd.R_far (p := ⟨gb295, 2, none⟩) (Kd.R_far (p := ⟨gb295, 1, none⟩) (Kd.R_far (p := ⟨gb295, 0, none⟩) (Kd.R_types HO292.out BK295.out (by decide)) (fun _ hk => hk.2) (.int .i64 t284)) (fun _ hk => hk.2) (.int .i64 t285)) (fun _ hk => hk.2) (.int .u32 t286)) (fun _ hk => hk.2) (.int .u32 t287)) (fun _ hk => hk.2) (.int .i64 t288)) (fun _ hk => hk.2) (.int .i64 t289)) (fun _ hk => hk.2) (.slice Ao26 t290.length co26)) (fun _ hk => hk.2) (.string t293)) (fun _ h_ => h_.1))) (Kd.R_base ho0) hb); have n1_ := Aside0.mk (Kd.R_lower (Kd.R_new' ho0 (Kd.R_lt (by (with_reducible repeat (first | apply Kd.R_alloc | apply Kd.R_drewN | apply Kd.R_drew)); exact (Kd.R_mono (Kd.R_far (p := ⟨gb295, 7, none⟩) (Kd.R_far (p := ⟨gb295, 6, none⟩) (Kd.R_far (p := ⟨gb295, 5, none⟩) (Kd.R_far (p := ⟨gb295, 4, none⟩) (Kd.R_far (p := ⟨gb295, 3, none⟩) (Kd.R_far (p := ⟨gb295, 2, none⟩) (Kd.R_far (p := ⟨gb295, 1, none⟩) (Kd.R_far (p := ⟨gb295, 0, none⟩) (Kd.R_types HO292.out BK295.out (by decide)) (fun _ hk => hk.2) (.int .i64 t284)) (fun _ hk => hk.2) (.int .i64 t285)) (fun _ hk => hk.2) (.int .u32 t286)) (fun _ hk => hk.2) (.int .u32 t287)) (fun _ hk => hk.2) (.int .i64 t288)) (fun _ hk => hk.2) (.int .i64 t289)) (fun _ hk => hk.2) (.slice Ao26 t290.length co26)) (fun _ hk => hk.2) (.string t293)) (fun _ h_ => h_.1))))) (below_size (by repeat (first | (with_reducible first | exact HB.out | apply below_alloc | apply pw_below_drewN | apply below_drew1 | refine below_set ?_ GE278.out | refine below_set ?_ GE295.out) | exact HB.out)))); have n2_ := Aside0.mk (blk_below (g := gb278) (o := .cells #[.int .i64 a2_0, .int .i64 a2_1, .int .u32 a2_2, .int .u32 a2_3, .int .i64 a2_4, .int .i64 a2_5, .slice A2_6 l2_6.length c2_6, .string a2_7] 35 (0, 0)) (by (with_reducible repeat (first | refine blk_drewN ?_ _ | refine blk_drew ?_ | refine blk_alloc ?_ _)); refine blk_far ?_ NB278_295.out _; (with_reducible repeat (first | refine blk_drewN ?_ _ | refine blk_drew ?_ | refine blk_alloc ?_ _)); refine blk_far ?_ NB278_295.out _; (with_reducible repeat (first | refine blk_drewN ?_ _ | refine blk_drew ?_ | refine blk_alloc ?_ _)); refine blk_far ?_ NB278_295.out _; (with_reducible repeat (first | refine blk_drewN ?_ _ | refine blk_drew ?_ | refine blk_alloc ?_ _)); refine blk_far ?_ NB278_295.out _; (with_reducible repeat (first | refine blk_drewN ?_ _ | refine blk_drew ?_ | refine blk_alloc ?_ _)); refine blk_far ?_ NB278_295.out _; (with_reducible repeat (first | refine blk_drewN ?_ _ | refine blk_drew ?_ | refine blk_alloc ?_ _)); refine blk_far ?_ NB278_295.out _; (with_reducible repeat (first | refine blk_drewN ?_ _ | refine blk_drew ?_ | refine blk_alloc ?_ _)); refine blk_far ?_ NB278_295.out _; (with_reducible repeat (first | refine blk_drewN ?_ _ | refine blk_drew ?_ | refine blk_alloc ?_ _)); refine blk_far ?_ NB278_295.out _; (with_reducible repeat (first | refine blk_drewN ?_ _ | refine blk_drew ?_ | refine blk_alloc ?_ _)); exact BK278.out) hb); have n3_ := Aside0.mk (blk_below (g := gb295) (o := .cells #[.int .i64 t284, .int .i64 t285, .int .u32 t286, .int .u32 t287, .int .i64 t288, .int .i64 t289, .slice Ao26 t290.length co26, .string t293] 35 (0, 0)) (by (with_reducible repeat (first | refine blk_drewN ?_ _ | refine blk_drew ?_ | refine blk_alloc ?_ _)); refine blk_put (cs := #[.int .i64 t284, .int .i64 t285, .int .u32 t286, .int .u32 t287, .int .i64 t288, .int .i64 t289, .slice Ao26 t290.length co26, .string (⟨#[]⟩ : ByteArray)]) ?_ 7 _ rfl; (with_reducible repeat (first | refine blk_drewN ?_ _ | refine blk_drew ?_ | refine blk_alloc ?_ _)); refine blk_put (cs := #[.int .i64 t284, .int .i64 t285, .int .u32 t286, .int .u32 t287, .int .i64 t288, .int .i64 t289, .slice none 0 0, .string (⟨#[]⟩ : ByteArray)]) ?_ 6 _ rfl; (with_reducible repeat (first | refine blk_drewN ?_ _ | refine blk_drew ?_ | refine blk_alloc ?_ _)); refine blk_put (cs := #[.int .i64 t284, .int .i64 t285, .int .u32 t286, .int .u32 t287, .int .i64 t288, .int .i64 0, .slice none 0 0, .string (⟨#[]⟩ : ByteArray)]) ?_ 5 _ rfl; (with_reducible repeat (first | refine blk_drewN ?_ _ | refine blk_drew ?_ | refine blk_alloc ?_ _)); refine blk_put (cs := #[.int .i64 t284, .int .i64 t285, .int .u32 t286, .int .u32 t287, .int .i64 0, .int .i64 0, .slice none 0 0, .string (⟨#[]⟩ : ByteArray)]) ?_ 4 _ rfl; (with_reducible repeat (first | refine blk_drewN ?_ _ | refine blk_drew ?_ | refine blk_alloc ?_ _)); refine blk_put (cs := #[.int .i64 t284, .int .i64 t285, .int .u32 t286, .int .u32 0, .int .i64 0, .int .i64 0, .slice none 0 0, .string (⟨#[]⟩ : ByteArray)]) ?_ 3 _ rfl; (with_reducible repeat (first | refine blk_drewN ?_ _ | refine blk_drew ?_ | refine blk_alloc ?_ _)); refine blk_put (cs := #[.int .i64 t284, .int .i64 t285, .int .u32 0, .int .u32 0, .int .i64 0, .int .i64 0, .slice none 0 0, .string (⟨#[]⟩ : ByteArray)]) ?_ 2 _ rfl; (with_reducible repeat (first | refine blk_drewN ?_ _ | refine blk_drew ?_ | refine blk_alloc ?_ _)); refine blk_put (cs := #[.int .i64 t284, .int .i64 0, .int .u32 0, .int .u32 0, .int .i64 0, .int .i64 0, .slice none 0 0, .string (⟨#[]⟩ : ByteArray)]) ?_ 1 _ rfl; (with_reducible repeat (first | refine blk_drewN ?_ _ | refine blk_drew ?_ | refine blk_alloc ?_ _)); refine blk_put (cs := #[.int .i64 0, .int .i64 0, .int .u32 0, .int .u32 0, .int .i64 0, .int .i64 0, .slice none 0 0, .string (⟨#[]⟩ : ByteArray)]) ?_ 0 _ rfl; (with_reducible repeat (first | refine blk_drewN ?_ _ | refine blk_drew ?_ | refine blk_alloc ?_ _)); exact BK295.out) hb); have n4_ := Aside0.mk (below_step (by repeat (first | (with_reducible first | exact HB.out | apply below_alloc | apply pw_below_drewN | apply below_drew1 | refine below_set ?_ GE278.out | refine below_set ?_ GE295.out) | exact HB.out)) hb); clear HO292; clear BK278; clear BK295; clear HB; have HO292 := n0_; have HO304 := n1_; have BK278 := n2_; have BK295 := n3_; have HB := n4_; clear n0_ n1_ n2_ n3_ n4_; (try clear hb); (try clear hb2); (try clear hk); (try clear hi); (try clear ho0)) | ((with_reducible refine gate_dst (N := 15) rfl ?_); refine box_event ?hg (N := 15) ?hd (cs := #[.int .i64 0, .int .i64 0, .int .u32 0, .int .u32 0, .int .i64 0, .int .i64 0, .slice none 0 0, .string (⟨#[]⟩ : ByteArray)]) (t := 35) ?hr ?_; (case hd => rfl); (case hg => rfl); (case hr => first | (go_simp; done) | (go_simp; rfl)); intro gb307 hg w28 hbox hb; have n0_ := Aside0.mk (Kd.R_below (by (with_reducible repeat (first | apply Kd.R_alloc | apply Kd.R_drewN | apply Kd.R_drew)); exact HO292.out) hb); have n1_ := Aside0.mk (Kd.R_below (by (with_reducible repeat (first | apply Kd.R_alloc | apply Kd.R_drewN | apply Kd.R_drew)); exact HO304.out) hb); have n2_ := Aside0.mk (blk_below (g := gb278) (o := .cells #[.int .i64 a2_0, .int .i64 a2_1, .int .u32 a2_2, .int .u32 a2_3, .int .i64 a2_4, .int .i64 a2_5, .slice A2_6 l2_6.length c2_6, .string a2_7] 35 (0, 0)) (by (with_reducible repeat (first | refine blk_drewN ?_ _ | refine blk_drew ?_ | refine blk_alloc ?_ _)); exact BK278.out) hb); have n3_ := Aside0.mk (blk_below (g := gb295) (o := .cells #[.int .i64 t284, .int .i64 t285, .int .u32 t286, .int .u32 t287, .int .i64 t288, .int .i64 t289, .slice Ao26 t290.length co26, .string t293] 35 (0, 0)) (by (with_reducible repeat (first | refine blk_drewN ?_ _ | refine blk_drew ?_ | refine blk_alloc ?_ _)); exact BK295.out) hb); have n4_ := Aside0.mk (below_step (by repeat (first | (with_reducible first | exact HB.out | apply below_alloc | apply pw_below_drewN | apply below_drew1 | refine below_set ?_ GE278.out | refine below_set ?_ GE295.out) | exact HB.out)) hb); have n5_ := Aside0.mk (hbox); have n6_ := Aside0.mk ((by rw [hg]; exact (below_size (by repeat (first | (with_reducible first | exact HB.out | apply below_alloc | apply pw_below_drewN | apply below_drew1 | refine below_set ?_ GE278.out | refine below_set ?_ GE295.out) | exact HB.out))) : w.heap.size ≤ gb307)); have n7_ := Aside0.mk ((by rw [hg]; exact (below_size (by repeat (first | (with_reducible first | exact HB.out | apply below_alloc | apply pw_below_drewN | apply below_drew1 | refine below_set ?_ GE278.out | refine below_set ?_ GE295.out) | exact HB.out))) : w.heap.size ≤ gb307)); have n8_ := Aside0.mk ((by rw [hg]; exact Nat.ne_of_lt (blk_lt (g := gb278) (o := .cells #[.int .i64 a2_0, .int .i64 a2_1, .int .u32 a2_2, .int .u32 a2_3, .int .i64 a2_4, .int .i64 a2_5, .slice A2_6 l2_6.length c2_6, .string a2_7] 35 (0, 0)) (by (with_reducible repeat (first | refine blk_drewN ?_ _ | refine blk_drew ?_ | refine blk_alloc ?_ _)); exact BK278.out)) : gb278 ≠ gb307)); have n9_ := Aside0.mk ((by rw [hg]; exact Nat.ne_of_gt (blk_lt (g := gb278) (o := .cells #[.int .i64 a2_0, .int .i64 a2_1, .int .u32 a2_2, .int .u32 a2_3, .int .i64 a2_4, .int .i64 a2_5, .slice A2_6 l2_6.length c2_6, .string a2_7] 35 (0, 0)) (by (with_reducible repeat (first | refine blk_drewN ?_ _ | refine blk_drew ?_ | refine blk_alloc ?_ _)); exact BK278.out)) : gb307 ≠ gb278)); have n10_ := Aside0.mk ((by rw [hg]; exact Nat.ne_of_lt (blk_lt (g := gb295) (o := .cells #[.int .i64 t284, .int .i64 t285, .int .u32 t286, .int .u32 t287, .int .i64 t288, .int .i64 t289, .slice Ao26 t290.length co26, .string t293] 35 (0, 0)) (by (with_reducible repeat (first | refine blk_drewN ?_ _ | refine blk_drew ?_ | refine blk_alloc ?_ _)); exact BK295.out)) : gb295 ≠ gb307)); have n11_ := Aside0.mk ((by rw [hg]; exact Nat.ne_of_gt (blk_lt (g := gb295) (o := .cells #[.int .i64 t284, .int .i64 t285, .int .u32 t286, .int .u32 t287, .int .i64 t288, .int .i64 t289, .slice Ao26 t290.length co26, .string t293] 35 (0, 0)) (by (with_reducible repeat (first | refine blk_drewN ?_ _ | refine blk_drew ?_ | refine blk_alloc ?_ _)); exact BK295.out)) : gb307 ≠ gb295)); clear HO292; clear HO304; clear BK278; clear BK295; clear HB; have HO292 := n0_; have HO304 := n1_; have BK278 := n2_; have BK295 := n3_; have HB := n4_; have BK307 := n5_; have GW307 := n6_; have GE307 := n7_; have NB278_307 := n8_; have NB307_278 := n9_; have NB295_307 := n10_; have NB307_295 := n11_; clear n0_ n1_ n2_ n3_ n4_ n5_ n6_ n7_ n8_ n9_ n10_ n11_; clear hb hbox hg; have hnb29 := NB307_278.out; have hnc29 := NB278_307.out; have hnb30 := NB307_295.out; have hnc30 := NB295_307.out; have hcz31_0 : w28.cell? ⟨gb307, 0, none⟩ = some (.int .i64 0) := (blk_cell BK307.out 0).trans rfl; have hcz31_1 : w28.cell? ⟨gb307, 1, none⟩ = some (.int .i64 0) := (blk_cell BK307.out 1).trans rfl; have hcz31_2 : w28.cell? ⟨gb307, 2, none⟩ = some (.int .u32 0) := (blk_cell BK307.out 2).trans rfl; have hcz31_3 : w28.cell? ⟨gb307, 3, none⟩ = some (.int .u32 0) := (blk_cell BK307.out 3).trans rfl; have hcz31_4 : w28.cell? ⟨gb307, 4, none⟩ = some (.int .i64 0) := (blk_cell BK307.out 4).trans rfl; have hcz31_5 : w28.cell? ⟨gb307, 5, none⟩ = some (.int .i64 0) := (blk_cell BK307.out 5).trans rfl; have hcz31_6 : w28.cell? ⟨gb307, 6, none⟩ = some (.slice none 0 0) := (blk_cell BK307.out 6).trans rfl; have hcz31_7 : w28.cell? ⟨gb307, 7, none⟩ = some (.string (⟨#[]⟩ : ByteArray)) := (blk_cell BK307.out 7).trans rfl; have hfz31_0 := blk_frozen BK307.out 0; have hfz31_1 := blk_frozen BK307.out 1; have hfz31_2 := blk_frozen BK307.out 2; have hfz31_3 := blk_frozen BK307.out 3; have hfz31_4 := blk_frozen BK307.out 4; have hfz31_5 := blk_frozen BK307.out 5; have hfz31_6 := blk_frozen BK307.out 6; have hfz31_7 := blk_frozen BK307.out 7; obtain ⟨Ao32, co32, eo32⟩ := Kd.R_slice HO304.out; subst eo32; have hcz33_0 : w28.cell? ⟨gb278, 0, none⟩ = some (.int .i64 a2_0) := (blk_cell BK278.out 0).trans rfl; have hcz33_1 : w28.cell? ⟨gb278, 1, none⟩ = some (.int .i64 a2_1) := (blk_cell BK278.out 1).trans rfl; have hcz33_2 : w28.cell? ⟨gb278, 2, none⟩ = some (.int .u32 a2_2) := (blk_cell BK278.out 2).trans rfl; have hcz33_3 : w28.cell? ⟨gb278, 3, none⟩ = some (.int .u32 a2_3) := (blk_cell BK278.out 3).trans rfl; have hcz33_4 : w28.cell? ⟨gb278, 4, none⟩ = some (.int .i64 a2_4) := (blk_cell BK278.out 4).trans rfl; have hcz33_5 : w28.cell? ⟨gb278, 5, none⟩ = some (.int .i64 a2_5) := (blk_cell BK278.out 5).trans rfl; have hcz33_6 : w28.cell? ⟨gb278, 6, none⟩ = some (.slice A2_6 l2_6.length c2_6) := (blk_cell BK278.out 6).trans rfl; have hcz33_7 : w28.cell? ⟨gb278, 7, none⟩ = some (.string a2_7) := (blk_cell BK278.out 7).trans rfl; have hfz33_0 := blk_frozen BK278.out 0; have hfz33_1 := blk_frozen BK278.out 1; have hfz33_2 := blk_frozen BK278.out 2; have hfz33_3 := blk_frozen BK278.out 3; have hfz33_4 := blk_frozen BK278.out 4; have hfz33_5 := blk_frozen BK278.out 5; have hfz33_6 := blk_frozen BK278.out 6; have hfz33_7 := blk_frozen BK278.out 7))
        (try simp only [Act.put, List.setIfInBounds_toArray, List.set_cons_zero, List.set_cons_succ])
        go_cut [17] (fun v17 wc => ∃ (kq : Nat) (x17_18 : Int), v17 = .int .i64 x17_18 ∧ Aside0 (patchbaylaw3_SegSays.j1 kq a3 t280 x10_7 t282 t283 t294 t306 x17_18 a2_0 a2_1 a2_2 a2_3 a2_4 a2_5 l2_6 a2_7 t284 t285 t286 t287 t288 t289 t290 t293 t296 t297 t298 t299 t300 t301 t302 t305 = some r) ∧ Aside0 (kq ≤ kj7) ∧ Aside0 (Kd.R k77 77 wc w.heap.size (fun k_ => some k_ ≠ ((.slice Ao32 t302.length co32) : Value).ownBlock) (.slice Ao26 t290.length co26) t290) ∧ Aside0 (Kd.R k77 77 wc w.heap.size (fun k_ => some k_ ≠ ((.slice Ao26 t290.length co26) : Value).ownBlock) (.slice Ao32 t302.length co32) t302) ∧ Aside0 (wc.heap[gb278]? = some (.cells #[.int .i64 a2_0, .int .i64 a2_1, .int .u32 a2_2, .int .u32 a2_3, .int .i64 a2_4, .int .i64 a2_5, (.slice A2_6 l2_6.length c2_6), .string a2_7] 35 (0, 0))) ∧ Aside0 (wc.heap[gb295]? = some (.cells #[.int .i64 t284, .int .i64 t285, .int .u32 t286, .int .u32 t287, .int .i64 t288, .int .i64 t289, (.slice Ao26 t290.length co26), .string t293] 35 (0, 0))) ∧ Aside0 (wc.heap[gb307]? = some (.cells #[.int .i64 t296, .int .i64 t297, .int .u32 t298, .int .u32 t299, .int .i64 t300, .int .i64 t301, (.slice Ao32 t302.length co32), .string t305] 35 (0, 0))) ∧ Aside0 (Below w.heap.size w wc))
        case first =>
          have H := HC19.out
          clear HC19
          by_cases c34 : a2_4 < 0
          · rw [if_pos c34] at H
            have c34b0 : decide (a2_4 < 0) = true := decide_eq_true c34
            clear c34
            (first | rw [c34b0] | (simp only [i64_w, i32_w]; rw [c34b0]) | skip)
            replace H := Option.bind_eq_some_iff.mp H
            obtain ⟨t308, A350, H⟩ := H
            replace H : (patchbaylaw3_SegSays.j1 kj7 a3 t280 x10_7 t282 t283 t294 t306 t308 a2_0 a2_1 a2_2 a2_3 a2_4 a2_5 l2_6 a2_7 t284 t285 t286 t287 t288 t289 t290 t293 t296 t297 t298 t299 t300 t301 t302 t305) = some r := H
            have A35 := Aside0.mk A350
            clear A350
            have H' := Aside0.mk H
            clear H
            have hnb36 := NB278_295.out
            have hnc36 := NB295_278.out
            have hnb37 := NB278_307.out
            have hnc37 := NB307_278.out
            have hcz38_0 : w28.cell? ⟨gb278, 0, none⟩ = some (.int .i64 a2_0) := (blk_cell BK278.out 0).trans rfl
            have hcz38_1 : w28.cell? ⟨gb278, 1, none⟩ = some (.int .i64 a2_1) := (blk_cell BK278.out 1).trans rfl
            have hcz38_2 : w28.cell? ⟨gb278, 2, none⟩ = some (.int .u32 a2_2) := (blk_cell BK278.out 2).trans rfl
            have hcz38_3 : w28.cell? ⟨gb278, 3, none⟩ = some (.int .u32 a2_3) := (blk_cell BK278.out 3).trans rfl
            have hcz38_4 : w28.cell? ⟨gb278, 4, none⟩ = some (.int .i64 a2_4) := (blk_cell BK278.out 4).trans rfl
            have hcz38_5 : w28.cell? ⟨gb278, 5, none⟩ = some (.int .i64 a2_5) := (blk_cell BK278.out 5).trans rfl
            have hcz38_6 : w28.cell? ⟨gb278, 6, none⟩ = some (.slice A2_6 l2_6.length c2_6) := (blk_cell BK278.out 6).trans rfl
            have hcz38_7 : w28.cell? ⟨gb278, 7, none⟩ = some (.string a2_7) := (blk_cell BK278.out 7).trans rfl
            have hfz38_0 := blk_frozen BK278.out 0
            have hfz38_1 := blk_frozen BK278.out 1
            have hfz38_2 := blk_frozen BK278.out 2
            have hfz38_3 := blk_frozen BK278.out 3
            have hfz38_4 := blk_frozen BK278.out 4
            have hfz38_5 := blk_frozen BK278.out 5
            have hfz38_6 := blk_frozen BK278.out 6
            have hfz38_7 := blk_frozen BK278.out 7
            go_wp2_with (first | ((with_reducible refine gate_callee (f := 60) rfl ?_); refine goesL_ (some 65) rfl rfl Try.func60 (by kernel_rfl) rfl #[.agg #[.int .i64 a2_0, .int .i64 a2_1, .int .u32 a2_2, .int .u32 a2_3, .int .i64 a2_4, .int .i64 a2_5, .slice A2_6 l2_6.length c2_6, .string a2_7]] rfl (by (try simp only [List.map_toArray, List.map_cons, List.map_nil]); first | done | rfl | (simp only [List.length_drop, List.length_take]; rfl)) ?_; (with_reducible refine (seg_Length.calls a2_0 a2_1 a2_2 a2_3 a2_4 a2_5 _ _ l2_6 a2_7 t308 _ ?side1 ?side2 A35.out).mono ?_); (case side1 => exact Kd.C_below HR2_6.out (by repeat (first | (with_reducible first | exact HB.out | apply below_alloc | apply pw_below_drewN | apply below_drew1 | refine below_set ?_ GE278.out | refine below_set ?_ GE295.out | refine below_set ?_ GE307.out) | exact HB.out))); (case side2 => exact HC2_6.out); rintro e w39 ⟨rfl, hb⟩; refine ⟨_, rfl, ?_⟩; have n0_ := Aside0.mk (Kd.R_below (by (with_reducible repeat (first | apply Kd.R_alloc | apply Kd.R_drewN | apply Kd.R_drew)); exact (Kd.R_mono (Kd.R_far (p := ⟨gb307, 7, none⟩) (Kd.R_far (p := ⟨gb307, 6, none⟩) (Kd.R_far (p := ⟨gb307, 5, none⟩) (Kd.R_far (p := ⟨gb307, 4, none⟩) (Kd.R_far (p := ⟨gb307, 3, none⟩) (Kd.R_far (p := ⟨gb307, 2, none⟩) (Kd.R_far (p := ⟨gb307, 1, none⟩) (Kd.R_far (p := ⟨gb307, 0, none⟩) (Kd.R_types HO292.out BK307.out (by decide)) (fun _ hk => hk.2) (.int .i64 t296)) (fun _ hk => hk.2) (.int .i64 t297)) (fun _ hk => hk.2) (.int .u32 t298)) (fun _ hk => hk.2) (.int .u32 t299)) (fun _ hk => hk.2) (.int .i64 t300)) (fun _ hk => hk.2) (.int .i64 t301)) (fun _ hk => hk.2) (.slice Ao32 t302.length co32)) (fun _ hk => hk.2) (.string t305)) (fun _ h_ => h_.1))) hb); have n1_ := Aside0.mk (Kd.R_below (by (with_reducible repeat (first | apply Kd.R_alloc | apply Kd.R_drewN | apply Kd.R_drew)); exact (Kd.R_mono (Kd.R_far (p := ⟨gb307, 7, none⟩) (Kd.R_far (p := ⟨gb307, 6, none⟩) (Kd.R_far (p := ⟨gb307, 5, none⟩) (Kd.R_far (p := ⟨gb307, 4, none⟩) (Kd.R_far (p := ⟨gb307, 3, none⟩) (Kd.R_far (p := ⟨gb307, 2, none⟩) (Kd.R_far (p := ⟨gb307, 1, none⟩) (Kd.R_far (p := ⟨gb307, 0, none⟩) (Kd.R_types HO304.out BK307.out (by decide)) (fun _ hk => hk.2) (.int .i64 t296)) (fun _ hk => hk.2) (.int .i64 t297)) (fun _ hk => hk.2) (.int .u32 t298)) (fun _ hk => hk.2) (.int .u32 t299)) (fun _ hk => hk.2) (.int .i64 t300)) (fun _ hk => hk.2) (.int .i64 t301)) (fun _ hk => hk.2) (.slice Ao32 t302.length co32)) (fun _ hk => hk.2) (.string t305)) (fun _ h_ => h_.1))) hb); have n2_ := Aside0.mk (blk_below (g := gb278) (o := .cells #[.int .i64 a2_0, .int .i64 a2_1, .int .u32 a2_2, .int .u32 a2_3, .int .i64 a2_4, .int .i64 a2_5, .slice A2_6 l2_6.length c2_6, .string a2_7] 35 (0, 0)) (by (with_reducible repeat (first | refine blk_drewN ?_ _ | refine blk_drew ?_ | refine blk_alloc ?_ _)); refine blk_far ?_ NB278_307.out _; (with_reducible repeat (first | refine blk_drewN ?_ _ | refine blk_drew ?_ | refine blk_alloc ?_ _)); refine blk_far ?_ NB278_307.out _; (with_reducible repeat (first | refine blk_drewN ?_ _ | refine blk_drew ?_ | refine blk_alloc ?_ _)); refine blk_far ?_ NB278_307.out _; (with_reducible repeat (first | refine blk_drewN ?_ _ | refine blk_drew ?_ | refine blk_alloc ?_ _)); refine blk_far ?_ NB278_307.out _; (with_reducible repeat (first | refine blk_drewN ?_ _ | refine blk_drew ?_ | refine blk_alloc ?_ _)); refine blk_far ?_ NB278_307.out _; (with_reducible repeat (first | refine blk_drewN ?_ _ | refine blk_drew ?_ | refine blk_alloc ?_ _)); refine blk_far ?_ NB278_307.out _; (with_reducible repeat (first | refine blk_drewN ?_ _ | refine blk_drew ?_ | refine blk_alloc ?_ _)); refine blk_far ?_ NB278_307.out _; (with_reducible repeat (first | refine blk_drewN ?_ _ | refine blk_drew ?_ | refine blk_alloc ?_ _)); refine blk_far ?_ NB278_307.out _; (with_reducible repeat (first | refine blk_drewN ?_ _ | refine blk_drew ?_ | refine blk_alloc ?_ _)); exact BK278.out) hb); have n3_ := Aside0.mk (blk_below (g := gb295) (o := .cells #[.int .i64 t284, .int .i64 t285, .int .u32 t286, .int .u32 t287, .int .i64 t288, .int .i64 t289, .slice Ao26 t290.length co26, .string t293] 35 (0, 0)) (by (with_reducible repeat (first | refine blk_drewN ?_ _ | refine blk_drew ?_ | refine blk_alloc ?_ _)); refine blk_far ?_ NB295_307.out _; (with_reducible repeat (first | refine blk_drewN ?_ _ | refine blk_drew ?_ | refine blk_alloc ?_ _)); refine blk_far ?_ NB295_307.out _; (with_reducible repeat (first | refine blk_drewN ?_ _ | refine blk_drew ?_ | refine blk_alloc ?_ _)); refine blk_far ?_ NB295_307.out _; (with_reducible repeat (first | refine blk_drewN ?_ _ | refine blk_drew ?_ | refine blk_alloc ?_ _)); refine blk_far ?_ NB295_307.out _; (with_reducible repeat (first | refine blk_drewN ?_ _ | refine blk_drew ?_ | refine blk_alloc ?_ _)); refine blk_far ?_ NB295_307.out _; (with_reducible repeat (first | refine blk_drewN ?_ _ | refine blk_drew ?_ | refine blk_alloc ?_ _)); refine blk_far ?_ NB295_307.out _; (with_reducible repeat (first | refine blk_drewN ?_ _ | refine blk_drew ?_ | refine blk_alloc ?_ _)); refine blk_far ?_ NB295_307.out _; (with_reducible repeat (first | refine blk_drewN ?_ _ | refine blk_drew ?_ | refine blk_alloc ?_ _)); refine blk_far ?_ NB295_307.out _; (with_reducible repeat (first | refine blk_drewN ?_ _ | refine blk_drew ?_ | refine blk_alloc ?_ _)); exact BK295.out) hb); have n4_ := Aside0.mk (blk_below (g := gb307) (o := .cells #[.int .i64 t296, .int .i64 t297, .int .u32 t298, .int .u32 t299, .int .i64 t300, .int .i64 t301, .slice Ao32 t302.length co32, .string t305] 35 (0, 0)) (by (with_reducible repeat (first | refine blk_drewN ?_ _ | refine blk_drew ?_ | refine blk_alloc ?_ _)); refine blk_put (cs := #[.int .i64 t296, .int .i64 t297, .int .u32 t298, .int .u32 t299, .int .i64 t300, .int .i64 t301, .slice Ao32 t302.length co32, .string (⟨#[]⟩ : ByteArray)]) ?_ 7 _ rfl; (with_reducible repeat (first | refine blk_drewN ?_ _ | refine blk_drew ?_ | refine blk_alloc ?_ _)); refine blk_put (cs := #[.int .i64 t296, .int .i64 t297, .int .u32 t298, .int .u32 t299, .int .i64 t300, .int .i64 t301, .slice none 0 0, .string (⟨#[]⟩ : ByteArray)]) ?_ 6 _ rfl; (with_reducible repeat (first | refine blk_drewN ?_ _ | refine blk_drew ?_ | refine blk_alloc ?_ _)); refine blk_put (cs := #[.int .i64 t296, .int .i64 t297, .int .u32 t298, .int .u32 t299, .int .i64 t300, .int .i64 0, .slice none 0 0, .string (⟨#[]⟩ : ByteArray)]) ?_ 5 _ rfl; (with_reducible repeat (first | refine blk_drewN ?_ _ | refine blk_drew ?_ | refine blk_alloc ?_ _)); refine blk_put (cs := #[.int .i64 t296, .int .i64 t297, .int .u32 t298, .int .u32 t299, .int .i64 0, .int .i64 0, .slice none 0 0, .string (⟨#[]⟩ : ByteArray)]) ?_ 4 _ rfl; (with_reducible repeat (first | refine blk_drewN ?_ _ | refine blk_drew ?_ | refine blk_alloc ?_ _)); refine blk_put (cs := #[.int .i64 t296, .int .i64 t297, .int .u32 t298, .int .u32 0, .int .i64 0, .int .i64 0, .slice none 0 0, .string (⟨#[]⟩ : ByteArray)]) ?_ 3 _ rfl; (with_reducible repeat (first | refine blk_drewN ?_ _ | refine blk_drew ?_ | refine blk_alloc ?_ _)); refine blk_put (cs := #[.int .i64 t296, .int .i64 t297, .int .u32 0, .int .u32 0, .int .i64 0, .int .i64 0, .slice none 0 0, .string (⟨#[]⟩ : ByteArray)]) ?_ 2 _ rfl; (with_reducible repeat (first | refine blk_drewN ?_ _ | refine blk_drew ?_ | refine blk_alloc ?_ _)); refine blk_put (cs := #[.int .i64 t296, .int .i64 0, .int .u32 0, .int .u32 0, .int .i64 0, .int .i64 0, .slice none 0 0, .string (⟨#[]⟩ : ByteArray)]) ?_ 1 _ rfl; (with_reducible repeat (first | refine blk_drewN ?_ _ | refine blk_drew ?_ | refine blk_alloc ?_ _)); refine blk_put (cs := #[.int .i64 0, .int .i64 0, .int .u32 0, .int .u32 0, .int .i64 0, .int .i64 0, .slice none 0 0, .string (⟨#[]⟩ : ByteArray)]) ?_ 0 _ rfl; (with_reducible repeat (first | refine blk_drewN ?_ _ | refine blk_drew ?_ | refine blk_alloc ?_ _)); exact BK307.out) hb); have n5_ := Aside0.mk (below_step (by repeat (first | (with_reducible first | exact HB.out | apply below_alloc | apply pw_below_drewN | apply below_drew1 | refine below_set ?_ GE278.out | refine below_set ?_ GE295.out | refine below_set ?_ GE307.out) | exact HB.out)) hb); clear HO292; clear HO304; clear BK278; clear BK295; clear BK307; clear HB; have HO292 := n0_; have HO304 := n1_; have BK278 := n2_; have BK295 := n3_; have BK307 := n4_; have HB := n5_; clear n0_ n1_ n2_ n3_ n4_ n5_; (try clear hb); (try clear hb2); (try clear hk); (try clear hi)))
            go_meet
            case rel => exact ⟨_, (t308), (by first | rfl | (simp; done) | (simp [*]; done)), H', ⟨by have := HJ7.out; first | omega | exact Nat.le_refl _⟩, ⟨by (with_reducible repeat (first | apply Kd.R_alloc | apply Kd.R_drewN | apply Kd.R_drew)); exact Kd.R_mono HO292.out (fun _ hk => hk.2)⟩, ⟨by (with_reducible repeat (first | apply Kd.R_alloc | apply Kd.R_drewN | apply Kd.R_drew)); exact Kd.R_mono HO304.out (fun _ hk => hk.2)⟩, ⟨by (with_reducible repeat (first | refine blk_drewN ?_ _ | refine blk_drew ?_ | refine blk_alloc ?_ _)); exact BK278.out⟩, ⟨by (with_reducible repeat (first | refine blk_drewN ?_ _ | refine blk_drew ?_ | refine blk_alloc ?_ _)); exact BK295.out⟩, ⟨by (with_reducible repeat (first | refine blk_drewN ?_ _ | refine blk_drew ?_ | refine blk_alloc ?_ _)); exact BK307.out⟩, ⟨by repeat (first | (with_reducible first | exact HB.out | apply below_alloc | apply pw_below_drewN | apply below_drew1 | refine below_set ?_ GE278.out | refine below_set ?_ GE295.out | refine below_set ?_ GE307.out) | exact HB.out)⟩⟩
          · rw [if_neg c34] at H
            have c34b0 : decide (a2_4 < 0) = false := decide_eq_false c34
            clear c34
            (first | rw [c34b0] | (simp only [i64_w, i32_w]; rw [c34b0]) | skip)
            have H' := Aside0.mk H
            clear H
            go_wp2
            go_meet
            case rel => exact ⟨_, (wrap64 ((wrap64 ((a2_7.size : Int) + (Int.tmod a2_4 2))) + (Int.tmod (wrap64 (Int.tdiv a2_4 2)) 2))), (by first | rfl | (simp; done) | (simp [*]; done)), H', ⟨by have := HJ7.out; first | omega | exact Nat.le_refl _⟩, ⟨by (with_reducible repeat (first | apply Kd.R_alloc | apply Kd.R_drewN | apply Kd.R_drew)); exact Kd.R_mono (Kd.R_far (p := ⟨gb307, 7, none⟩) (Kd.R_far (p := ⟨gb307, 6, none⟩) (Kd.R_far (p := ⟨gb307, 5, none⟩) (Kd.R_far (p := ⟨gb307, 4, none⟩) (Kd.R_far (p := ⟨gb307, 3, none⟩) (Kd.R_far (p := ⟨gb307, 2, none⟩) (Kd.R_far (p := ⟨gb307, 1, none⟩) (Kd.R_far (p := ⟨gb307, 0, none⟩) (Kd.R_types HO292.out BK307.out (by decide)) (fun _ hk => hk.2) (.int .i64 t296)) (fun _ hk => hk.2) (.int .i64 t297)) (fun _ hk => hk.2) (.int .u32 t298)) (fun _ hk => hk.2) (.int .u32 t299)) (fun _ hk => hk.2) (.int .i64 t300)) (fun _ hk => hk.2) (.int .i64 t301)) (fun _ hk => hk.2) (.slice Ao32 t302.length co32)) (fun _ hk => hk.2) (.string t305)) (fun _ hk => hk.1.2)⟩, ⟨by (with_reducible repeat (first | apply Kd.R_alloc | apply Kd.R_drewN | apply Kd.R_drew)); exact Kd.R_mono (Kd.R_far (p := ⟨gb307, 7, none⟩) (Kd.R_far (p := ⟨gb307, 6, none⟩) (Kd.R_far (p := ⟨gb307, 5, none⟩) (Kd.R_far (p := ⟨gb307, 4, none⟩) (Kd.R_far (p := ⟨gb307, 3, none⟩) (Kd.R_far (p := ⟨gb307, 2, none⟩) (Kd.R_far (p := ⟨gb307, 1, none⟩) (Kd.R_far (p := ⟨gb307, 0, none⟩) (Kd.R_types HO304.out BK307.out (by decide)) (fun _ hk => hk.2) (.int .i64 t296)) (fun _ hk => hk.2) (.int .i64 t297)) (fun _ hk => hk.2) (.int .u32 t298)) (fun _ hk => hk.2) (.int .u32 t299)) (fun _ hk => hk.2) (.int .i64 t300)) (fun _ hk => hk.2) (.int .i64 t301)) (fun _ hk => hk.2) (.slice Ao32 t302.length co32)) (fun _ hk => hk.2) (.string t305)) (fun _ hk => hk.1.2)⟩, ⟨by (with_reducible repeat (first | refine blk_drewN ?_ _ | refine blk_drew ?_ | refine blk_alloc ?_ _)); refine blk_far ?_ NB278_307.out _; (with_reducible repeat (first | refine blk_drewN ?_ _ | refine blk_drew ?_ | refine blk_alloc ?_ _)); refine blk_far ?_ NB278_307.out _; (with_reducible repeat (first | refine blk_drewN ?_ _ | refine blk_drew ?_ | refine blk_alloc ?_ _)); refine blk_far ?_ NB278_307.out _; (with_reducible repeat (first | refine blk_drewN ?_ _ | refine blk_drew ?_ | refine blk_alloc ?_ _)); refine blk_far ?_ NB278_307.out _; (with_reducible repeat (first | refine blk_drewN ?_ _ | refine blk_drew ?_ | refine blk_alloc ?_ _)); refine blk_far ?_ NB278_307.out _; (with_reducible repeat (first | refine blk_drewN ?_ _ | refine blk_drew ?_ | refine blk_alloc ?_ _)); refine blk_far ?_ NB278_307.out _; (with_reducible repeat (first | refine blk_drewN ?_ _ | refine blk_drew ?_ | refine blk_alloc ?_ _)); refine blk_far ?_ NB278_307.out _; (with_reducible repeat (first | refine blk_drewN ?_ _ | refine blk_drew ?_ | refine blk_alloc ?_ _)); refine blk_far ?_ NB278_307.out _; (with_reducible repeat (first | refine blk_drewN ?_ _ | refine blk_drew ?_ | refine blk_alloc ?_ _)); exact BK278.out⟩, ⟨by (with_reducible repeat (first | refine blk_drewN ?_ _ | refine blk_drew ?_ | refine blk_alloc ?_ _)); refine blk_far ?_ NB295_307.out _; (with_reducible repeat (first | refine blk_drewN ?_ _ | refine blk_drew ?_ | refine blk_alloc ?_ _)); refine blk_far ?_ NB295_307.out _; (with_reducible repeat (first | refine blk_drewN ?_ _ | refine blk_drew ?_ | refine blk_alloc ?_ _)); refine blk_far ?_ NB295_307.out _; (with_reducible repeat (first | refine blk_drewN ?_ _ | refine blk_drew ?_ | refine blk_alloc ?_ _)); refine blk_far ?_ NB295_307.out _; (with_reducible repeat (first | refine blk_drewN ?_ _ | refine blk_drew ?_ | refine blk_alloc ?_ _)); refine blk_far ?_ NB295_307.out _; (with_reducible repeat (first | refine blk_drewN ?_ _ | refine blk_drew ?_ | refine blk_alloc ?_ _)); refine blk_far ?_ NB295_307.out _; (with_reducible repeat (first | refine blk_drewN ?_ _ | refine blk_drew ?_ | refine blk_alloc ?_ _)); refine blk_far ?_ NB295_307.out _; (with_reducible repeat (first | refine blk_drewN ?_ _ | refine blk_drew ?_ | refine blk_alloc ?_ _)); refine blk_far ?_ NB295_307.out _; (with_reducible repeat (first | refine blk_drewN ?_ _ | refine blk_drew ?_ | refine blk_alloc ?_ _)); exact BK295.out⟩, ⟨by (with_reducible repeat (first | refine blk_drewN ?_ _ | refine blk_drew ?_ | refine blk_alloc ?_ _)); refine blk_put (cs := #[.int .i64 t296, .int .i64 t297, .int .u32 t298, .int .u32 t299, .int .i64 t300, .int .i64 t301, .slice Ao32 t302.length co32, .string (⟨#[]⟩ : ByteArray)]) ?_ 7 _ rfl; (with_reducible repeat (first | refine blk_drewN ?_ _ | refine blk_drew ?_ | refine blk_alloc ?_ _)); refine blk_put (cs := #[.int .i64 t296, .int .i64 t297, .int .u32 t298, .int .u32 t299, .int .i64 t300, .int .i64 t301, .slice none 0 0, .string (⟨#[]⟩ : ByteArray)]) ?_ 6 _ rfl; (with_reducible repeat (first | refine blk_drewN ?_ _ | refine blk_drew ?_ | refine blk_alloc ?_ _)); refine blk_put (cs := #[.int .i64 t296, .int .i64 t297, .int .u32 t298, .int .u32 t299, .int .i64 t300, .int .i64 0, .slice none 0 0, .string (⟨#[]⟩ : ByteArray)]) ?_ 5 _ rfl; (with_reducible repeat (first | refine blk_drewN ?_ _ | refine blk_drew ?_ | refine blk_alloc ?_ _)); refine blk_put (cs := #[.int .i64 t296, .int .i64 t297, .int .u32 t298, .int .u32 t299, .int .i64 0, .int .i64 0, .slice none 0 0, .string (⟨#[]⟩ : ByteArray)]) ?_ 4 _ rfl; (with_reducible repeat (first | refine blk_drewN ?_ _ | refine blk_drew ?_ | refine blk_alloc ?_ _)); refine blk_put (cs := #[.int .i64 t296, .int .i64 t297, .int .u32 t298, .int .u32 0, .int .i64 0, .int .i64 0, .slice none 0 0, .string (⟨#[]⟩ : ByteArray)]) ?_ 3 _ rfl; (with_reducible repeat (first | refine blk_drewN ?_ _ | refine blk_drew ?_ | refine blk_alloc ?_ _)); refine blk_put (cs := #[.int .i64 t296, .int .i64 t297, .int .u32 0, .int .u32 0, .int .i64 0, .int .i64 0, .slice none 0 0, .string (⟨#[]⟩ : ByteArray)]) ?_ 2 _ rfl; (with_reducible repeat (first | refine blk_drewN ?_ _ | refine blk_drew ?_ | refine blk_alloc ?_ _)); refine blk_put (cs := #[.int .i64 t296, .int .i64 0, .int .u32 0, .int .u32 0, .int .i64 0, .int .i64 0, .slice none 0 0, .string (⟨#[]⟩ : ByteArray)]) ?_ 1 _ rfl; (with_reducible repeat (first | refine blk_drewN ?_ _ | refine blk_drew ?_ | refine blk_alloc ?_ _)); refine blk_put (cs := #[.int .i64 0, .int .i64 0, .int .u32 0, .int .u32 0, .int .i64 0, .int .i64 0, .slice none 0 0, .string (⟨#[]⟩ : ByteArray)]) ?_ 0 _ rfl; (with_reducible repeat (first | refine blk_drewN ?_ _ | refine blk_drew ?_ | refine blk_alloc ?_ _)); exact BK307.out⟩, ⟨by repeat (first | (with_reducible first | exact HB.out | apply below_alloc | apply pw_below_drewN | apply below_drew1 | refine below_set ?_ GE278.out | refine below_set ?_ GE295.out | refine below_set ?_ GE307.out) | exact HB.out)⟩⟩
        case rest =>
          clear HC19
          try clear c1
          try clear c2
          try clear p2
          try clear c3
          try clear c5
          try clear c6
          try clear p6
          try clear c8
          try clear c12
          try clear c12b0
          try clear c12b1
          try clear c21
          try clear c24
          try clear c29
          try clear c30
          try clear c34
          try clear c34b0
          try clear c36
          try clear c37
          try clear hcz10_0
          try clear hcz10_1
          try clear hcz10_2
          try clear hcz10_3
          try clear hcz10_4
          try clear hcz10_5
          try clear hcz10_6
          try clear hcz10_7
          try clear hcz14_0
          try clear hcz14_1
          try clear hcz14_2
          try clear hcz14_3
          try clear hcz14_4
          try clear hcz14_5
          try clear hcz14_6
          try clear hcz14_7
          try clear hcz20_0
          try clear hcz20_1
          try clear hcz20_2
          try clear hcz20_3
          try clear hcz20_4
          try clear hcz20_5
          try clear hcz20_6
          try clear hcz20_7
          try clear hcz25_0
          try clear hcz25_1
          try clear hcz25_2
          try clear hcz25_3
          try clear hcz25_4
          try clear hcz25_5
          try clear hcz25_6
          try clear hcz25_7
          try clear hcz31_0
          try clear hcz31_1
          try clear hcz31_2
          try clear hcz31_3
          try clear hcz31_4
          try clear hcz31_5
          try clear hcz31_6
          try clear hcz31_7
          try clear hcz33_0
          try clear hcz33_1
          try clear hcz33_2
          try clear hcz33_3
          try clear hcz33_4
          try clear hcz33_5
          try clear hcz33_6
          try clear hcz33_7
          try clear hcz38_0
          try clear hcz38_1
          try clear hcz38_2
          try clear hcz38_3
          try clear hcz38_4
          try clear hcz38_5
          try clear hcz38_6
          try clear hcz38_7
          try clear hfz10_0
          try clear hfz10_1
          try clear hfz10_2
          try clear hfz10_3
          try clear hfz10_4
          try clear hfz10_5
          try clear hfz10_6
          try clear hfz10_7
          try clear hfz14_0
          try clear hfz14_1
          try clear hfz14_2
          try clear hfz14_3
          try clear hfz14_4
          try clear hfz14_5
          try clear hfz14_6
          try clear hfz14_7
          try clear hfz20_0
          try clear hfz20_1
          try clear hfz20_2
          try clear hfz20_3
          try clear hfz20_4
          try clear hfz20_5
          try clear hfz20_6
          try clear hfz20_7
          try clear hfz25_0
          try clear hfz25_1
          try clear hfz25_2
          try clear hfz25_3
          try clear hfz25_4
          try clear hfz25_5
          try clear hfz25_6
          try clear hfz25_7
          try clear hfz31_0
          try clear hfz31_1
          try clear hfz31_2
          try clear hfz31_3
          try clear hfz31_4
          try clear hfz31_5
          try clear hfz31_6
          try clear hfz31_7
          try clear hfz33_0
          try clear hfz33_1
          try clear hfz33_2
          try clear hfz33_3
          try clear hfz33_4
          try clear hfz33_5
          try clear hfz33_6
          try clear hfz33_7
          try clear hfz38_0
          try clear hfz38_1
          try clear hfz38_2
          try clear hfz38_3
          try clear hfz38_4
          try clear hfz38_5
          try clear hfz38_6
          try clear hfz38_7
          try clear p2
          obtain ⟨kq, x17_18, rfl, HA, HJ18, HO_296006, HO_308006, BK278, BK295, BK307, HB⟩ := hcut
          cases kq with
          | zero => exact absurd HA.out (by simp [patchbaylaw3_SegSays.j1])
          | succ kj18 =>
            have H := HA.out
            clear HA
            simp only [patchbaylaw3_SegSays.j1] at H
            replace H := Option.bind_eq_some_iff.mp H
            obtain ⟨t309, A400, H⟩ := H
            replace H : (if t309 = t280 then (if t282.toList = x10_7.toList then (if t283 = t280 then ((patchbayref3_SameSeg.f kj18 t284 t285 t286 t287 t288 t289 t290 t293 t296 t297 t298 t299 t300 t301 t302 t305).bind fun t310 => (if t310 = true then (if t294 = t306 then ((seg_Length.f a2_0 a2_1 a2_2 a2_3 a2_4 a2_5 l2_6 a2_7).bind fun t311 => (if t311 = x17_18 then ((seg_Sum.f kj18 a3).bind fun t312 => ((patchbayref3_Sum.f kj18 a3).bind fun t313 => (some (t312 == t313)))) else (some false))) else (some false)) else (some false))) else (some false)) else (some false)) else (some false)) = some r := H
            have A40 := Aside0.mk A400
            clear A400
            by_cases c41 : t309 = t280
            · rw [if_pos c41] at H
              have c41b0 : (t309 == t280) = true := beq_iff_eq.mpr c41
              have c41b1 : (t309 != t280) = false := bne_eq_false_iff_eq.mpr c41
              clear c41
              by_cases c42 : t282.toList = x10_7.toList
              · rw [if_pos c42] at H
                have c42b0 : (t282.toList == x10_7.toList) = true := beq_iff_eq.mpr c42
                have c42b1 : (t282.toList != x10_7.toList) = false := bne_eq_false_iff_eq.mpr c42
                clear c42
                by_cases c43 : t283 = t280
                · rw [if_pos c43] at H
                  have c43b0 : (t283 == t280) = true := beq_iff_eq.mpr c43
                  have c43b1 : (t283 != t280) = false := bne_eq_false_iff_eq.mpr c43
                  clear c43
                  replace H := Option.bind_eq_some_iff.mp H
                  obtain ⟨t310, A440, H⟩ := H
                  replace H : (if t310 = true then (if t294 = t306 then ((seg_Length.f a2_0 a2_1 a2_2 a2_3 a2_4 a2_5 l2_6 a2_7).bind fun t311 => (if t311 = x17_18 then ((seg_Sum.f kj18 a3).bind fun t312 => ((patchbayref3_Sum.f kj18 a3).bind fun t313 => (some (t312 == t313)))) else (some false))) else (some false)) else (some false)) = some r := H
                  have A44 := Aside0.mk A440
                  clear A440
                  by_cases c45 : t310 = true
                  · subst c45
                    have H1 : (if t294 = t306 then ((seg_Length.f a2_0 a2_1 a2_2 a2_3 a2_4 a2_5 l2_6 a2_7).bind fun t311 => (if t311 = x17_18 then ((seg_Sum.f kj18 a3).bind fun t312 => ((patchbayref3_Sum.f kj18 a3).bind fun t313 => (some (t312 == t313)))) else (some false))) else (some false)) = some r := by rw [if_pos rfl] at H; exact H
                    clear H
                    have H := H1
                    clear H1
                    by_cases c46 : t294 = t306
                    · rw [if_pos c46] at H
                      have c46b0 : (t294 == t306) = true := beq_iff_eq.mpr c46
                      have c46b1 : (t294 != t306) = false := bne_eq_false_iff_eq.mpr c46
                      clear c46
                      replace H := Option.bind_eq_some_iff.mp H
                      obtain ⟨t311, A470, H⟩ := H
                      replace H : (if t311 = x17_18 then ((seg_Sum.f kj18 a3).bind fun t312 => ((patchbayref3_Sum.f kj18 a3).bind fun t313 => (some (t312 == t313)))) else (some false)) = some r := H
                      have A47 := Aside0.mk A470
                      clear A470
                      by_cases c48 : t311 = x17_18
                      · rw [if_pos c48] at H
                        have c48b0 : (t311 == x17_18) = true := beq_iff_eq.mpr c48
                        have c48b1 : (t311 != x17_18) = false := bne_eq_false_iff_eq.mpr c48
                        clear c48
                        replace H := Option.bind_eq_some_iff.mp H
                        obtain ⟨t312, A490, H⟩ := H
                        replace H : ((patchbayref3_Sum.f kj18 a3).bind fun t313 => (some (t312 == t313))) = some r := H
                        have A49 := Aside0.mk A490
                        clear A490
                        replace H := Option.bind_eq_some_iff.mp H
                        obtain ⟨t313, A500, H⟩ := H
                        replace H : (some (t312 == t313)) = some r := H
                        have A50 := Aside0.mk A500
                        clear A500
                        obtain rfl := Option.some.inj H
                        have hnb51 := NB278_295.out
                        have hnc51 := NB295_278.out
                        have hnb52 := NB278_307.out
                        have hnc52 := NB307_278.out
                        have hcz53_0 : wc.cell? ⟨gb278, 0, none⟩ = some (.int .i64 a2_0) := (blk_cell BK278.out 0).trans rfl
                        have hcz53_1 : wc.cell? ⟨gb278, 1, none⟩ = some (.int .i64 a2_1) := (blk_cell BK278.out 1).trans rfl
                        have hcz53_2 : wc.cell? ⟨gb278, 2, none⟩ = some (.int .u32 a2_2) := (blk_cell BK278.out 2).trans rfl
                        have hcz53_3 : wc.cell? ⟨gb278, 3, none⟩ = some (.int .u32 a2_3) := (blk_cell BK278.out 3).trans rfl
                        have hcz53_4 : wc.cell? ⟨gb278, 4, none⟩ = some (.int .i64 a2_4) := (blk_cell BK278.out 4).trans rfl
                        have hcz53_5 : wc.cell? ⟨gb278, 5, none⟩ = some (.int .i64 a2_5) := (blk_cell BK278.out 5).trans rfl
                        have hcz53_6 : wc.cell? ⟨gb278, 6, none⟩ = some (.slice A2_6 l2_6.length c2_6) := (blk_cell BK278.out 6).trans rfl
                        have hcz53_7 : wc.cell? ⟨gb278, 7, none⟩ = some (.string a2_7) := (blk_cell BK278.out 7).trans rfl
                        have hfz53_0 := blk_frozen BK278.out 0
                        have hfz53_1 := blk_frozen BK278.out 1
                        have hfz53_2 := blk_frozen BK278.out 2
                        have hfz53_3 := blk_frozen BK278.out 3
                        have hfz53_4 := blk_frozen BK278.out 4
                        have hfz53_5 := blk_frozen BK278.out 5
                        have hfz53_6 := blk_frozen BK278.out 6
                        have hfz53_7 := blk_frozen BK278.out 7
                        go_wp2_with (first | ((with_reducible refine gate_callee (f := 61) rfl ?_); refine goesL_ (some 67) rfl rfl Try.func61 (by kernel_rfl) rfl #[.agg #[.int .i64 a2_0, .int .i64 a2_1, .int .u32 a2_2, .int .u32 a2_3, .int .i64 a2_4, .int .i64 a2_5, .slice A2_6 l2_6.length c2_6, .string a2_7]] rfl (by (try simp only [List.map_toArray, List.map_cons, List.map_nil]); first | done | rfl | (simp only [List.length_drop, List.length_take]; rfl)) ?_; (with_reducible refine (seg_Check.calls kj18 a2_0 a2_1 a2_2 a2_3 a2_4 a2_5 _ _ l2_6 a2_7 t309 _ ?side1 ?side2 A40.out).mono ?_); (case side1 => repeat (first | exact (Kd.C_below HR2_6.out HB.out) | (with_reducible refine Kd.C_alloc ?_ _) | (with_reducible refine Kd.C_drewN ?_ _) | (with_reducible refine Kd.C_drew ?_))); (case side2 => exact HC2_6.out); rintro e w54 ⟨rfl, hb⟩; refine ⟨_, rfl, ?_⟩; have n0_ := Aside0.mk (Kd.R_below (by (with_reducible repeat (first | apply Kd.R_alloc | apply Kd.R_drewN | apply Kd.R_drew)); exact HO_296006.out) hb); have n1_ := Aside0.mk (Kd.R_below (by (with_reducible repeat (first | apply Kd.R_alloc | apply Kd.R_drewN | apply Kd.R_drew)); exact HO_308006.out) hb); have n2_ := Aside0.mk (blk_below (g := gb278) (o := .cells #[.int .i64 a2_0, .int .i64 a2_1, .int .u32 a2_2, .int .u32 a2_3, .int .i64 a2_4, .int .i64 a2_5, .slice A2_6 l2_6.length c2_6, .string a2_7] 35 (0, 0)) (by (with_reducible repeat (first | refine blk_drewN ?_ _ | refine blk_drew ?_ | refine blk_alloc ?_ _)); exact BK278.out) hb); have n3_ := Aside0.mk (blk_below (g := gb295) (o := .cells #[.int .i64 t284, .int .i64 t285, .int .u32 t286, .int .u32 t287, .int .i64 t288, .int .i64 t289, .slice Ao26 t290.length co26, .string t293] 35 (0, 0)) (by (with_reducible repeat (first | refine blk_drewN ?_ _ | refine blk_drew ?_ | refine blk_alloc ?_ _)); exact BK295.out) hb); have n4_ := Aside0.mk (blk_below (g := gb307) (o := .cells #[.int .i64 t296, .int .i64 t297, .int .u32 t298, .int .u32 t299, .int .i64 t300, .int .i64 t301, .slice Ao32 t302.length co32, .string t305] 35 (0, 0)) (by (with_reducible repeat (first | refine blk_drewN ?_ _ | refine blk_drew ?_ | refine blk_alloc ?_ _)); exact BK307.out) hb); have n5_ := Aside0.mk (below_step (by repeat (first | (with_reducible first | exact HB.out | apply below_alloc | apply pw_below_drewN | apply below_drew1 | refine below_set ?_ GE278.out | refine below_set ?_ GE295.out | refine below_set ?_ GE307.out) | exact HB.out)) hb); clear HO_296006; clear HO_308006; clear BK278; clear BK295; clear BK307; clear HB; have HO_296006 := n0_; have HO_308006 := n1_; have BK278 := n2_; have BK295 := n3_; have BK307 := n4_; have HB := n5_; clear n0_ n1_ n2_ n3_ n4_ n5_; (try clear hb); (try clear hb2); (try clear hk); (try clear hi); have hnb55 := NB295_307.out; have hnc55 := NB307_295.out; have hcz56_0 : w54.cell? ⟨gb295, 0, none⟩ = some (.int .i64 t284) := (blk_cell BK295.out 0).trans rfl; have hcz56_1 : w54.cell? ⟨gb295, 1, none⟩ = some (.int .i64 t285) := (blk_cell BK295.out 1).trans rfl; have hcz56_2 : w54.cell? ⟨gb295, 2, none⟩ = some (.int .u32 t286) := (blk_cell BK295.out 2).trans rfl; have hcz56_3 : w54.cell? ⟨gb295, 3, none⟩ = some (.int .u32 t287) := (blk_cell BK295.out 3).trans rfl; have hcz56_4 : w54.cell? ⟨gb295, 4, none⟩ = some (.int .i64 t288) := (blk_cell BK295.out 4).trans rfl; have hcz56_5 : w54.cell? ⟨gb295, 5, none⟩ = some (.int .i64 t289) := (blk_cell BK295.out 5).trans rfl; have hcz56_6 : w54.cell? ⟨gb295, 6, none⟩ = some (.slice Ao26 t290.length co26) := (blk_cell BK295.out 6).trans rfl; have hcz56_7 : w54.cell? ⟨gb295, 7, none⟩ = some (.string t293) := (blk_cell BK295.out 7).trans rfl; have hfz56_0 := blk_frozen BK295.out 0; have hfz56_1 := blk_frozen BK295.out 1; have hfz56_2 := blk_frozen BK295.out 2; have hfz56_3 := blk_frozen BK295.out 3; have hfz56_4 := blk_frozen BK295.out 4; have hfz56_5 := blk_frozen BK295.out 5; have hfz56_6 := blk_frozen BK295.out 6; have hfz56_7 := blk_frozen BK295.out 7; have hcz57_0 : w54.cell? ⟨gb307, 0, none⟩ = some (.int .i64 t296) := (blk_cell BK307.out 0).trans rfl; have hcz57_1 : w54.cell? ⟨gb307, 1, none⟩ = some (.int .i64 t297) := (blk_cell BK307.out 1).trans rfl; have hcz57_2 : w54.cell? ⟨gb307, 2, none⟩ = some (.int .u32 t298) := (blk_cell BK307.out 2).trans rfl; have hcz57_3 : w54.cell? ⟨gb307, 3, none⟩ = some (.int .u32 t299) := (blk_cell BK307.out 3).trans rfl; have hcz57_4 : w54.cell? ⟨gb307, 4, none⟩ = some (.int .i64 t300) := (blk_cell BK307.out 4).trans rfl; have hcz57_5 : w54.cell? ⟨gb307, 5, none⟩ = some (.int .i64 t301) := (blk_cell BK307.out 5).trans rfl; have hcz57_6 : w54.cell? ⟨gb307, 6, none⟩ = some (.slice Ao32 t302.length co32) := (blk_cell BK307.out 6).trans rfl; have hcz57_7 : w54.cell? ⟨gb307, 7, none⟩ = some (.string t305) := (blk_cell BK307.out 7).trans rfl; have hfz57_0 := blk_frozen BK307.out 0; have hfz57_1 := blk_frozen BK307.out 1; have hfz57_2 := blk_frozen BK307.out 2; have hfz57_3 := blk_frozen BK307.out 3; have hfz57_4 := blk_frozen BK307.out 4; have hfz57_5 := blk_frozen BK307.out 5; have hfz57_6 := blk_frozen BK307.out 6; have hfz57_7 := blk_frozen BK307.out 7) | (go_at_call 22; (with_reducible refine (patchbayref3_SameSeg.calls kj18 t284 t285 t286 t287 t288 t289 _ _ t290 t293 t296 t297 t298 t299 t300 t301 _ _ t302 t305 true _ ?side1 ?side2 ?side3 ?side4 A44.out).mono ?_); (case side1 => repeat (first | exact (Kd.R_reads' HO_296006.out).2.2 | (with_reducible refine Kd.C_alloc ?_ _) | (with_reducible refine Kd.C_drewN ?_ _) | (with_reducible refine Kd.C_drew ?_))); (case side2 => exact (Kd.R_reads' HO_296006.out).2.1); (case side3 => repeat (first | exact (Kd.R_reads' HO_308006.out).2.2 | (with_reducible refine Kd.C_alloc ?_ _) | (with_reducible refine Kd.C_drewN ?_ _) | (with_reducible refine Kd.C_drew ?_))); (case side4 => exact (Kd.R_reads' HO_308006.out).2.1); rintro e w58 ⟨rfl, hb⟩; have n0_ := Aside0.mk (Kd.R_below (by (with_reducible repeat (first | apply Kd.R_alloc | apply Kd.R_drewN | apply Kd.R_drew)); exact HO_296006.out) hb); have n1_ := Aside0.mk (Kd.R_below (by (with_reducible repeat (first | apply Kd.R_alloc | apply Kd.R_drewN | apply Kd.R_drew)); exact HO_308006.out) hb); have n2_ := Aside0.mk (blk_below (g := gb278) (o := .cells #[.int .i64 a2_0, .int .i64 a2_1, .int .u32 a2_2, .int .u32 a2_3, .int .i64 a2_4, .int .i64 a2_5, .slice A2_6 l2_6.length c2_6, .string a2_7] 35 (0, 0)) (by (with_reducible repeat (first | refine blk_drewN ?_ _ | refine blk_drew ?_ | refine blk_alloc ?_ _)); exact BK278.out) hb); have n3_ := Aside0.mk (blk_below (g := gb295) (o := .cells #[.int .i64 t284, .int .i64 t285, .int .u32 t286, .int .u32 t287, .int .i64 t288, .int .i64 t289, .slice Ao26 t290.length co26, .string t293] 35 (0, 0)) (by (with_reducible repeat (first | refine blk_drewN ?_ _ | refine blk_drew ?_ | refine blk_alloc ?_ _)); exact BK295.out) hb); have n4_ := Aside0.mk (blk_below (g := gb307) (o := .cells #[.int .i64 t296, .int .i64 t297, .int .u32 t298, .int .u32 t299, .int .i64 t300, .int .i64 t301, .slice Ao32 t302.length co32, .string t305] 35 (0, 0)) (by (with_reducible repeat (first | refine blk_drewN ?_ _ | refine blk_drew ?_ | refine blk_alloc ?_ _)); exact BK307.out) hb); have n5_ := Aside0.mk (below_step (by repeat (first | (with_reducible first | exact HB.out | apply below_alloc | apply pw_below_drewN | apply below_drew1 | refine below_set ?_ GE278.out | refine below_set ?_ GE295.out | refine below_set ?_ GE307.out) | exact HB.out)) hb); clear HO_296006; clear HO_308006; clear BK278; clear BK295; clear BK307; clear HB; have HO_296006 := n0_; have HO_308006 := n1_; have BK278 := n2_; have BK295 := n3_; have BK307 := n4_; have HB := n5_; clear n0_ n1_ n2_ n3_ n4_ n5_; (try clear hb); (try clear hb2); (try clear hk); (try clear hi); have hcz59_0 : w58.cell? ⟨gb278, 0, none⟩ = some (.int .i64 a2_0) := (blk_cell BK278.out 0).trans rfl; have hcz59_1 : w58.cell? ⟨gb278, 1, none⟩ = some (.int .i64 a2_1) := (blk_cell BK278.out 1).trans rfl; have hcz59_2 : w58.cell? ⟨gb278, 2, none⟩ = some (.int .u32 a2_2) := (blk_cell BK278.out 2).trans rfl; have hcz59_3 : w58.cell? ⟨gb278, 3, none⟩ = some (.int .u32 a2_3) := (blk_cell BK278.out 3).trans rfl; have hcz59_4 : w58.cell? ⟨gb278, 4, none⟩ = some (.int .i64 a2_4) := (blk_cell BK278.out 4).trans rfl; have hcz59_5 : w58.cell? ⟨gb278, 5, none⟩ = some (.int .i64 a2_5) := (blk_cell BK278.out 5).trans rfl; have hcz59_6 : w58.cell? ⟨gb278, 6, none⟩ = some (.slice A2_6 l2_6.length c2_6) := (blk_cell BK278.out 6).trans rfl; have hcz59_7 : w58.cell? ⟨gb278, 7, none⟩ = some (.string a2_7) := (blk_cell BK278.out 7).trans rfl; have hfz59_0 := blk_frozen BK278.out 0; have hfz59_1 := blk_frozen BK278.out 1; have hfz59_2 := blk_frozen BK278.out 2; have hfz59_3 := blk_frozen BK278.out 3; have hfz59_4 := blk_frozen BK278.out 4; have hfz59_5 := blk_frozen BK278.out 5; have hfz59_6 := blk_frozen BK278.out 6; have hfz59_7 := blk_frozen BK278.out 7) | (go_at_call 60; (with_reducible refine (seg_Length.calls a2_0 a2_1 a2_2 a2_3 a2_4 a2_5 _ _ l2_6 a2_7 t311 _ ?side1 ?side2 A47.out).mono ?_); (case side1 => repeat (first | exact (Kd.C_below HR2_6.out HB.out) | (with_reducible refine Kd.C_alloc ?_ _) | (with_reducible refine Kd.C_drewN ?_ _) | (with_reducible refine Kd.C_drew ?_))); (case side2 => exact HC2_6.out); rintro e w60 ⟨rfl, hb⟩; have n0_ := Aside0.mk (Kd.R_below (by (with_reducible repeat (first | apply Kd.R_alloc | apply Kd.R_drewN | apply Kd.R_drew)); exact HO_296006.out) hb); have n1_ := Aside0.mk (Kd.R_below (by (with_reducible repeat (first | apply Kd.R_alloc | apply Kd.R_drewN | apply Kd.R_drew)); exact HO_308006.out) hb); have n2_ := Aside0.mk (blk_below (g := gb278) (o := .cells #[.int .i64 a2_0, .int .i64 a2_1, .int .u32 a2_2, .int .u32 a2_3, .int .i64 a2_4, .int .i64 a2_5, .slice A2_6 l2_6.length c2_6, .string a2_7] 35 (0, 0)) (by (with_reducible repeat (first | refine blk_drewN ?_ _ | refine blk_drew ?_ | refine blk_alloc ?_ _)); exact BK278.out) hb); have n3_ := Aside0.mk (blk_below (g := gb295) (o := .cells #[.int .i64 t284, .int .i64 t285, .int .u32 t286, .int .u32 t287, .int .i64 t288, .int .i64 t289, .slice Ao26 t290.length co26, .string t293] 35 (0, 0)) (by (with_reducible repeat (first | refine blk_drewN ?_ _ | refine blk_drew ?_ | refine blk_alloc ?_ _)); exact BK295.out) hb); have n4_ := Aside0.mk (blk_below (g := gb307) (o := .cells #[.int .i64 t296, .int .i64 t297, .int .u32 t298, .int .u32 t299, .int .i64 t300, .int .i64 t301, .slice Ao32 t302.length co32, .string t305] 35 (0, 0)) (by (with_reducible repeat (first | refine blk_drewN ?_ _ | refine blk_drew ?_ | refine blk_alloc ?_ _)); exact BK307.out) hb); have n5_ := Aside0.mk (below_step (by repeat (first | (with_reducible first | exact HB.out | apply below_alloc | apply pw_below_drewN | apply below_drew1 | refine below_set ?_ GE278.out | refine below_set ?_ GE295.out | refine below_set ?_ GE307.out) | exact HB.out)) hb); clear HO_296006; clear HO_308006; clear BK278; clear BK295; clear BK307; clear HB; have HO_296006 := n0_; have HO_308006 := n1_; have BK278 := n2_; have BK295 := n3_; have BK307 := n4_; have HB := n5_; clear n0_ n1_ n2_ n3_ n4_ n5_; (try clear hb); (try clear hb2); (try clear hk); (try clear hi)) | (go_at_call 62; (with_reducible refine (seg_Sum.calls kj18 a3 t312 _ A49.out).mono ?_); rintro e w' ⟨rfl, ⟨nd, rfl⟩⟩) | (go_at_call 63; (with_reducible refine (patchbayref3_Sum.calls kj18 a3 t313 _ A50.out).mono ?_); rintro e w' ⟨rfl, ⟨nd, rfl⟩⟩))
                        go_ret
                        exact ⟨by first | rfl | (simp [errW_none, errW_some] <;> rfl) | (simp [*, errW_none, errW_some] <;> rfl), by repeat (first | (with_reducible first | exact HB.out | apply below_alloc | apply pw_below_drewN | apply below_drew1 | refine below_set ?_ GE278.out | refine below_set ?_ GE295.out | refine below_set ?_ GE307.out) | exact HB.out)⟩
                      · rw [if_neg c48] at H
                        have c48b0 : (t311 == x17_18) = false := beq_eq_false_iff_ne.mpr c48
                        have c48b1 : (t311 != x17_18) = true := bne_iff_ne.mpr c48
                        exact absurd ((Option.some.inj H).trans HR.out) (by simp)
                    · rw [if_neg c46] at H
                      have c46b0 : (t294 == t306) = false := beq_eq_false_iff_ne.mpr c46
                      have c46b1 : (t294 != t306) = true := bne_iff_ne.mpr c46
                      exact absurd ((Option.some.inj H).trans HR.out) (by simp)
                  · replace c45 := Bool.eq_false_iff.mpr c45
                    subst c45
                    have H1 : (some false) = some r := by rw [if_neg (show ¬ (false = true) by decide)] at H; exact H
                    clear H
                    have H := H1
                    clear H1
                    exact absurd ((Option.some.inj H).trans HR.out) (by simp)
                · rw [if_neg c43] at H
                  have c43b0 : (t283 == t280) = false := beq_eq_false_iff_ne.mpr c43
                  have c43b1 : (t283 != t280) = true := bne_iff_ne.mpr c43
                  exact absurd ((Option.some.inj H).trans HR.out) (by simp)
              · rw [if_neg c42] at H
                have c42b0 : (t282.toList == x10_7.toList) = false := beq_eq_false_iff_ne.mpr c42
                have c42b1 : (t282.toList != x10_7.toList) = true := bne_iff_ne.mpr c42
                exact absurd ((Option.some.inj H).trans HR.out) (by simp)
            · rw [if_neg c41] at H
              have c41b0 : (t309 == t280) = false := beq_eq_false_iff_ne.mpr c41
              have c41b1 : (t309 != t280) = true := bne_iff_ne.mpr c41
              exact absurd ((Option.some.inj H).trans HR.out) (by simp)
  · replace c6 := Bool.eq_false_iff.mpr c6
    subst c6
    have H1 : (some false) = some r := by rw [if_neg (show ¬ (false = true) by decide)] at H; exact H
    clear H
    have H := H1
    clear H1
    exact absurd ((Option.some.inj H).trans HR.out) (by simp)
end Go.Proofs.Ytjiiejeldgkdiaa.PSegSays
