/- Turned from a printed text of this claim. -/
import Derived.Test.YtcllcjflgeiehaaBCastX0
namespace Go.Proofs.Ytcllcjflgeiehaa.PCastPlays
open Go.RowKit Go.Proofs.YtcllcjflgeiehaaW.PrintWords Go.Proofs.YtcllcjflgeiehaaW.PrintLast Go.Proofs.YtcllcjflgeiehaaW.PrintMore
attribute [local go_sem] max2_int min2_int max_two min_two max_three min_three max_four min_four   -- for this text's walks alone
set_option linter.unusedVariables false
set_option linter.unusedSimpArgs false

-- NOT PRINTED: function 29 (cast_Member_Out)

-- NOT PRINTED: function 30 (cast_Member_Read)

/-! ### patchbayref3_Cast_Got: function 31 -/
def patchbayref3_Cast_Got.l0 : Nat → Int → Int → List Bool → List Bool → List Bool → List ByteArray → List Int → List Int → Int → Int → Int → Option (Int)
 | 0, _, _, _, _, _, _, _, _, _, _, _ => none
 | k + 1, x3, x344000, x344001, x344002, x344003, x344004, x344005, x344006, x344007, x344008, x344009 => if x3 < (x344001.length : Int) then (if 0 ≤ x3 then (if rdOf false x344001 x3 = true then (patchbayref3_Cast_Got.l0 k (wrap64 (x3 + 1)) x344000 x344001 x344002 x344003 x344004 x344005 x344006 x344007 x344008 x344009) else (some x3)) else (none)) else (some x3)
def patchbayref3_Cast_Got.f (k : Nat) (a0_0 : Int) (l0_1 : List Bool) (l0_2 : List Bool) (l0_3 : List Bool) (l0_4 : List ByteArray) (l0_5 : List Int) (l0_6 : List Int) (a0_7 : Int) (a0_8 : Int) (a0_9 : Int) : Option (Int) := patchbayref3_Cast_Got.l0 k 0 a0_0 l0_1 l0_2 l0_3 l0_4 l0_5 l0_6 a0_7 a0_8 a0_9
theorem patchbayref3_Cast_Got.mono_l : ∀ k, (∀ y0 y1 y2 y3 y4 y5 y6 y7 y8 y9 y10, LeO (patchbayref3_Cast_Got.l0 k y0 y1 y2 y3 y4 y5 y6 y7 y8 y9 y10) (patchbayref3_Cast_Got.l0 (k + 1) y0 y1 y2 y3 y4 y5 y6 y7 y8 y9 y10))
 | 0 => fun _ _ _ _ _ _ _ _ _ _ _ r h => by simp [patchbayref3_Cast_Got.l0] at h
 | k + 1 => by
  have ih0 := patchbayref3_Cast_Got.mono_l k
  · intro y0 y1 y2 y3 y4 y5 y6 y7 y8 y9 y10
    unfold patchbayref3_Cast_Got.l0
    repeat' first
    | (with_reducible exact ih0 _ _ _ _ _ _ _ _ _ _ _)
    | (with_reducible exact LeO.refl _)
    | (with_reducible exact LeO.none _)
    | (with_reducible refine LeO.ite ?_ ?_)
    | (with_reducible refine LeO.bind ?_ (fun _ => ?_))
    | exact ih0 _ _ _ _ _ _ _ _ _ _ _
    | exact LeO.none _
    | refine LeO.ite ?_ ?_
    | refine LeO.bind ?_ (fun _ => ?_)
set_option maxHeartbeats 8000000 in
set_option maxRecDepth 100000 in
theorem patchbayref3_Cast_Got.calls (k : Nat) (a0_0 : Int) (A0_1 : Option Addr) (c0_1 : Nat) (l0_1 : List Bool) (A0_2 : Option Addr) (c0_2 : Nat) (l0_2 : List Bool) (A0_3 : Option Addr) (c0_3 : Nat) (l0_3 : List Bool) (A0_4 : Option Addr) (c0_4 : Nat) (l0_4 : List ByteArray) (A0_5 : Option Addr) (c0_5 : Nat) (l0_5 : List Int) (A0_6 : Option Addr) (c0_6 : Nat) (l0_6 : List Int) (a0_7 : Int) (a0_8 : Int) (a0_9 : Int) (r : Int) (w : World) (hr0_1 : Kd.C Kd.bool w A0_1 l0_1.length l0_1) (hc0_1 : l0_1.length ≤ c0_1) (hr0_2 : Kd.C Kd.bool w A0_2 l0_2.length l0_2) (hc0_2 : l0_2.length ≤ c0_2) (hr0_3 : Kd.C Kd.bool w A0_3 l0_3.length l0_3) (hc0_3 : l0_3.length ≤ c0_3) (hr0_4 : Kd.C Kd.string w A0_4 l0_4.length l0_4) (hc0_4 : l0_4.length ≤ c0_4) (hr0_5 : Kd.C (Kd.int .i64) w A0_5 l0_5.length l0_5) (hc0_5 : l0_5.length ≤ c0_5) (hr0_6 : Kd.C (Kd.int .i64) w A0_6 l0_6.length l0_6) (hc0_6 : l0_6.length ≤ c0_6) (h : patchbayref3_Cast_Got.f k a0_0 l0_1 l0_2 l0_3 l0_4 l0_5 l0_6 a0_7 a0_8 a0_9 = some r) :
 Calls Try.prog 31 #[.agg #[.int .i64 a0_0, .slice A0_1 l0_1.length c0_1, .slice A0_2 l0_2.length c0_2, .slice A0_3 l0_3.length c0_3, .slice A0_4 l0_4.length c0_4, .slice A0_5 l0_5.length c0_5, .slice A0_6 l0_6.length c0_6, .int .i64 a0_7, .int .i64 a0_8, .int .i64 a0_9]] w fun e w' => e = .returned (.int .i64 r) ∧ Below w.heap.size w w' := by
 have hu54 := Try.underlying54
 have HR0_1 := Aside0.mk hr0_1
 have HC0_1 := Aside0.mk hc0_1
 clear hr0_1 hc0_1
 have HR0_2 := Aside0.mk hr0_2
 have HC0_2 := Aside0.mk hc0_2
 clear hr0_2 hc0_2
 have HR0_3 := Aside0.mk hr0_3
 have HC0_3 := Aside0.mk hc0_3
 clear hr0_3 hc0_3
 have HR0_4 := Aside0.mk hr0_4
 have HC0_4 := Aside0.mk hc0_4
 clear hr0_4 hc0_4
 have HR0_5 := Aside0.mk hr0_5
 have HC0_5 := Aside0.mk hc0_5
 clear hr0_5 hc0_5
 have HR0_6 := Aside0.mk hr0_6
 have HC0_6 := Aside0.mk hc0_6
 clear hr0_6 hc0_6
 have HB := Aside0.mk (Below.refl w.heap.size w)
 have H : (patchbayref3_Cast_Got.l0 k 0 a0_0 l0_1 l0_2 l0_3 l0_4 l0_5 l0_6 a0_7 a0_8 a0_9) = some r := h
 clear h
 have H' := Aside0.mk H
 clear H
 go_enter Try.func31, Try.ntmps31
 go_wp2_with (first | ((with_reducible refine gate_dst (N := 1) rfl ?_); refine box_event ?hg (N := 1) ?hd (cs := #[.int .i64 a0_0, .slice A0_1 l0_1.length c0_1, .slice A0_2 l0_2.length c0_2, .slice A0_3 l0_3.length c0_3, .slice A0_4 l0_4.length c0_4, .slice A0_5 l0_5.length c0_5, .slice A0_6 l0_6.length c0_6, .int .i64 a0_7, .int .i64 a0_8, .int .i64 a0_9]) (t := 54) ?hr ?_; (case hd => rfl); (case hg => rfl); (case hr => first | (go_simp; done) | (go_simp; rfl)); intro gb343 hg w2 hbox hb; have n0_ := Aside0.mk (below_step (by repeat (first | (with_reducible first | exact HB.out | apply below_alloc | apply pw_below_drewN | apply below_drew1) | exact HB.out)) hb); have n1_ := Aside0.mk (hbox); have n2_ := Aside0.mk ((by rw [hg]; exact (below_size (by repeat (first | (with_reducible first | exact HB.out | apply below_alloc | apply pw_below_drewN | apply below_drew1) | exact HB.out))) : w.heap.size ≤ gb343)); have n3_ := Aside0.mk ((by rw [hg]; exact (below_size (by repeat (first | (with_reducible first | exact HB.out | apply below_alloc | apply pw_below_drewN | apply below_drew1) | exact HB.out))) : w.heap.size ≤ gb343)); clear HB; have HB := n0_; have BK343 := n1_; have GW343 := n2_; have GE343 := n3_; clear n0_ n1_ n2_ n3_; clear hb hbox hg))
 go_loopg [3] k (fun kq v3 w' => ∃ (x3_1 : Int), v3 = .int .i64 x3_1 ∧ Aside0 (patchbayref3_Cast_Got.l0 kq x3_1 a0_0 l0_1 l0_2 l0_3 l0_4 l0_5 l0_6 a0_7 a0_8 a0_9 = some r) ∧ Aside0 (kq ≤ k) ∧ Aside0 (w'.heap[gb343]? = some (.cells #[.int .i64 a0_0, (.slice A0_1 l0_1.length c0_1), (.slice A0_2 l0_2.length c0_2), (.slice A0_3 l0_3.length c0_3), (.slice A0_4 l0_4.length c0_4), (.slice A0_5 l0_5.length c0_5), (.slice A0_6 l0_6.length c0_6), .int .i64 a0_7, .int .i64 a0_8, .int .i64 a0_9] 54 (0, 0))) ∧ Aside0 (Below w.heap.size w w'))
 case atStart => exact ⟨(0), (by first | rfl | (simp; done) | (simp [*]; done)), H', ⟨Nat.le_refl _⟩, ⟨by (with_reducible repeat first | apply ba | apply bb | apply bc); exact BK343.out⟩, ⟨by repeat (first | (with_reducible first | exact HB.out | apply below_alloc | apply pw_below_drewN | apply below_drew1 | refine below_set ?_ GE343.out) | exact HB.out)⟩⟩
 case round =>
  clear H'
  try clear p2
  obtain ⟨x3_1, rfl, HA, HK1, BK343, HB⟩ := hrel
  cases gk with
  | zero => exact absurd HA.out (by simp [patchbayref3_Cast_Got.l0])
  | succ k1 =>
   have H := HA.out
   clear HA
   simp only [patchbayref3_Cast_Got.l0] at H
   by_cases c3 : x3_1 < (l0_1.length : Int)
   · rw [if_pos c3] at H
     have c3b0 : decide (x3_1 < (l0_1.length : Int)) = true := decide_eq_true c3
     clear c3
     by_cases c4 : 0 ≤ x3_1
     · rw [if_pos c4] at H
       have c4b0 : decide (0 ≤ x3_1) = true := decide_eq_true c4
       clear c4
       obtain ⟨bq5, hbq5⟩ : ∃ b_ : Bool, b_ = (rdOf false l0_1 x3_1) := ⟨_, rfl⟩
       replace H : (if bq5 = true then (patchbayref3_Cast_Got.l0 k1 (wrap64 (x3_1 + 1)) a0_0 l0_1 l0_2 l0_3 l0_4 l0_5 l0_6 a0_7 a0_8 a0_9) else (some x3_1)) = some r := by rw [← hbq5] at H; exact H
       have Nbq5 := Aside0.mk hbq5
       clear hbq5
       by_cases c6 : bq5 = true
       · subst c6
         have H1 : (patchbayref3_Cast_Got.l0 k1 (wrap64 (x3_1 + 1)) a0_0 l0_1 l0_2 l0_3 l0_4 l0_5 l0_6 a0_7 a0_8 a0_9) = some r := by rw [if_pos rfl] at H; exact H
         clear H
         have H := H1
         clear H1
         have H' := Aside0.mk H
         clear H
         have hcz7_0 : wr.cell? ⟨gb343, 0, none⟩ = some (.int .i64 a0_0) := (blk_cell BK343.out 0).trans rfl
         have hcz7_1 : wr.cell? ⟨gb343, 1, none⟩ = some (.slice A0_1 l0_1.length c0_1) := (blk_cell BK343.out 1).trans rfl
         have hcz7_2 : wr.cell? ⟨gb343, 2, none⟩ = some (.slice A0_2 l0_2.length c0_2) := (blk_cell BK343.out 2).trans rfl
         have hcz7_3 : wr.cell? ⟨gb343, 3, none⟩ = some (.slice A0_3 l0_3.length c0_3) := (blk_cell BK343.out 3).trans rfl
         have hcz7_4 : wr.cell? ⟨gb343, 4, none⟩ = some (.slice A0_4 l0_4.length c0_4) := (blk_cell BK343.out 4).trans rfl
         have hcz7_5 : wr.cell? ⟨gb343, 5, none⟩ = some (.slice A0_5 l0_5.length c0_5) := (blk_cell BK343.out 5).trans rfl
         have hcz7_6 : wr.cell? ⟨gb343, 6, none⟩ = some (.slice A0_6 l0_6.length c0_6) := (blk_cell BK343.out 6).trans rfl
         have hcz7_7 : wr.cell? ⟨gb343, 7, none⟩ = some (.int .i64 a0_7) := (blk_cell BK343.out 7).trans rfl
         have hcz7_8 : wr.cell? ⟨gb343, 8, none⟩ = some (.int .i64 a0_8) := (blk_cell BK343.out 8).trans rfl
         have hcz7_9 : wr.cell? ⟨gb343, 9, none⟩ = some (.int .i64 a0_9) := (blk_cell BK343.out 9).trans rfl
         have hfz7_0 := blk_frozen BK343.out 0
         have hfz7_1 := blk_frozen BK343.out 1
         have hfz7_2 := blk_frozen BK343.out 2
         have hfz7_3 := blk_frozen BK343.out 3
         have hfz7_4 := blk_frozen BK343.out 4
         have hfz7_5 := blk_frozen BK343.out 5
         have hfz7_6 := blk_frozen BK343.out 6
         have hfz7_7 := blk_frozen BK343.out 7
         have hfz7_8 := blk_frozen BK343.out 8
         have hfz7_9 := blk_frozen BK343.out 9
         have p344 : 0 ≤ (x3_1 : Int) := of_decide_eq_true (by first | (with_reducible assumption) | assumption)
         have q344 : x3_1 < (l0_1.length : Int) := of_decide_eq_true (by first | (with_reducible assumption) | assumption)
         obtain ⟨ad344, e344, hx344_0⟩ := Kd.at_bool HR0_1.out x3_1 p344 q344
         (try rw [← Nbq5.out] at hx344_0)
         cases e344
         replace hx344_0 := (HB.out.cell (World.block_lt_of_cell? w _ hx344_0)).trans hx344_0
         replace p344 := eq_true p344
         replace q344 := eq_true q344
         go_wp2
         go_roundg k1
         case measure => have := HK1.out; omega
         case rel => exact ⟨(wrap64 (x3_1 + 1)), (by first | rfl | (simp; done) | (simp [*]; done)), H', ⟨by have := HK1.out; omega⟩, ⟨by (with_reducible repeat first | apply ba | apply bb | apply bc); exact BK343.out⟩, ⟨by repeat (first | (with_reducible first | exact HB.out | apply below_alloc | apply pw_below_drewN | apply below_drew1 | refine below_set ?_ GE343.out) | exact HB.out)⟩⟩
       · replace c6 := Bool.eq_false_iff.mpr c6
         subst c6
         have H1 : (some x3_1) = some r := by rw [if_neg (show ¬ (false = true) by decide)] at H; exact H
         clear H
         have H := H1
         clear H1
         obtain rfl := Option.some.inj H
         have hcz8_0 : wr.cell? ⟨gb343, 0, none⟩ = some (.int .i64 a0_0) := (blk_cell BK343.out 0).trans rfl
         have hcz8_1 : wr.cell? ⟨gb343, 1, none⟩ = some (.slice A0_1 l0_1.length c0_1) := (blk_cell BK343.out 1).trans rfl
         have hcz8_2 : wr.cell? ⟨gb343, 2, none⟩ = some (.slice A0_2 l0_2.length c0_2) := (blk_cell BK343.out 2).trans rfl
         have hcz8_3 : wr.cell? ⟨gb343, 3, none⟩ = some (.slice A0_3 l0_3.length c0_3) := (blk_cell BK343.out 3).trans rfl
         have hcz8_4 : wr.cell? ⟨gb343, 4, none⟩ = some (.slice A0_4 l0_4.length c0_4) := (blk_cell BK343.out 4).trans rfl
         have hcz8_5 : wr.cell? ⟨gb343, 5, none⟩ = some (.slice A0_5 l0_5.length c0_5) := (blk_cell BK343.out 5).trans rfl
         have hcz8_6 : wr.cell? ⟨gb343, 6, none⟩ = some (.slice A0_6 l0_6.length c0_6) := (blk_cell BK343.out 6).trans rfl
         have hcz8_7 : wr.cell? ⟨gb343, 7, none⟩ = some (.int .i64 a0_7) := (blk_cell BK343.out 7).trans rfl
         have hcz8_8 : wr.cell? ⟨gb343, 8, none⟩ = some (.int .i64 a0_8) := (blk_cell BK343.out 8).trans rfl
         have hcz8_9 : wr.cell? ⟨gb343, 9, none⟩ = some (.int .i64 a0_9) := (blk_cell BK343.out 9).trans rfl
         have hfz8_0 := blk_frozen BK343.out 0
         have hfz8_1 := blk_frozen BK343.out 1
         have hfz8_2 := blk_frozen BK343.out 2
         have hfz8_3 := blk_frozen BK343.out 3
         have hfz8_4 := blk_frozen BK343.out 4
         have hfz8_5 := blk_frozen BK343.out 5
         have hfz8_6 := blk_frozen BK343.out 6
         have hfz8_7 := blk_frozen BK343.out 7
         have hfz8_8 := blk_frozen BK343.out 8
         have hfz8_9 := blk_frozen BK343.out 9
         have p344 : 0 ≤ (x3_1 : Int) := of_decide_eq_true (by first | (with_reducible assumption) | assumption)
         have q344 : x3_1 < (l0_1.length : Int) := of_decide_eq_true (by first | (with_reducible assumption) | assumption)
         obtain ⟨ad344, e344, hx344_0⟩ := Kd.at_bool HR0_1.out x3_1 p344 q344
         (try rw [← Nbq5.out] at hx344_0)
         cases e344
         replace hx344_0 := (HB.out.cell (World.block_lt_of_cell? w _ hx344_0)).trans hx344_0
         replace p344 := eq_true p344
         replace q344 := eq_true q344
         go_wp2
         go_ret
         exact ⟨by first | rfl | (simp [errW_none, errW_some] <;> rfl) | (simp [*, errW_none, errW_some] <;> rfl), by repeat (first | (with_reducible first | exact HB.out | apply below_alloc | apply pw_below_drewN | apply below_drew1 | refine below_set ?_ GE343.out) | exact HB.out)⟩
     · rw [if_neg c4] at H
       exact absurd H (by simp)
   · rw [if_neg c3] at H
     have c3b0 : decide (x3_1 < (l0_1.length : Int)) = false := decide_eq_false c3
     clear c3
     obtain rfl := Option.some.inj H
     have hcz9_0 : wr.cell? ⟨gb343, 0, none⟩ = some (.int .i64 a0_0) := (blk_cell BK343.out 0).trans rfl
     have hcz9_1 : wr.cell? ⟨gb343, 1, none⟩ = some (.slice A0_1 l0_1.length c0_1) := (blk_cell BK343.out 1).trans rfl
     have hcz9_2 : wr.cell? ⟨gb343, 2, none⟩ = some (.slice A0_2 l0_2.length c0_2) := (blk_cell BK343.out 2).trans rfl
     have hcz9_3 : wr.cell? ⟨gb343, 3, none⟩ = some (.slice A0_3 l0_3.length c0_3) := (blk_cell BK343.out 3).trans rfl
     have hcz9_4 : wr.cell? ⟨gb343, 4, none⟩ = some (.slice A0_4 l0_4.length c0_4) := (blk_cell BK343.out 4).trans rfl
     have hcz9_5 : wr.cell? ⟨gb343, 5, none⟩ = some (.slice A0_5 l0_5.length c0_5) := (blk_cell BK343.out 5).trans rfl
     have hcz9_6 : wr.cell? ⟨gb343, 6, none⟩ = some (.slice A0_6 l0_6.length c0_6) := (blk_cell BK343.out 6).trans rfl
     have hcz9_7 : wr.cell? ⟨gb343, 7, none⟩ = some (.int .i64 a0_7) := (blk_cell BK343.out 7).trans rfl
     have hcz9_8 : wr.cell? ⟨gb343, 8, none⟩ = some (.int .i64 a0_8) := (blk_cell BK343.out 8).trans rfl
     have hcz9_9 : wr.cell? ⟨gb343, 9, none⟩ = some (.int .i64 a0_9) := (blk_cell BK343.out 9).trans rfl
     have hfz9_0 := blk_frozen BK343.out 0
     have hfz9_1 := blk_frozen BK343.out 1
     have hfz9_2 := blk_frozen BK343.out 2
     have hfz9_3 := blk_frozen BK343.out 3
     have hfz9_4 := blk_frozen BK343.out 4
     have hfz9_5 := blk_frozen BK343.out 5
     have hfz9_6 := blk_frozen BK343.out 6
     have hfz9_7 := blk_frozen BK343.out 7
     have hfz9_8 := blk_frozen BK343.out 8
     have hfz9_9 := blk_frozen BK343.out 9
     go_wp2
     go_ret
     exact ⟨by first | rfl | (simp [errW_none, errW_some] <;> rfl) | (simp [*, errW_none, errW_some] <;> rfl), by repeat (first | (with_reducible first | exact HB.out | apply below_alloc | apply pw_below_drewN | apply below_drew1 | refine below_set ?_ GE343.out) | exact HB.out)⟩

-- NOT PRINTED: function 4 (patchbaylaw3_CastPlays)

end Go.Proofs.Ytcllcjflgeiehaa.PCastPlays
