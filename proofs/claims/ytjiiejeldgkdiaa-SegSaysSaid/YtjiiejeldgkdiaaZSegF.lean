/- Proved: what functions that SegSays calls return, as a walk of their code. No condition. -/
import Derived.Test.YtjiiejeldgkdiaaZP0
import Derived.Test.YtjiiejeldgkdiaaZP3
import Derived.Test.YtjiiejeldgkdiaaZP4
import Derived.Test.YtjiiejeldgkdiaaZP10
import Derived.Test.YtjiiejeldgkdiaaZSegB
namespace Go.Proofs.Ytjiiejeldgkdiaa.PSegSays
open Go.RowKit Go.Proofs.YtjiiejeldgkdiaaW.PrintWords Go.Proofs.YtjiiejeldgkdiaaW.PrintLast Go.Proofs.YtjiiejeldgkdiaaW.PrintMore
attribute [local go_sem] max2_int min2_int max_two min_two max_three min_three max_four min_four   -- for this text's walks alone
set_option linter.unusedVariables false
set_option linter.unusedSimpArgs false

/-! ### patchbayref3_SegOf: function 59 -/
mutual
def patchbayref3_SegOf.l0 : Nat → ByteArray → Int → Int → Int → Int → Int → Int → Int → Int → List (S77) → ByteArray → Option (Int × Int × Int × Int × Int × Int × (List (S77)) × ByteArray × Int)
  | 0, _, _, _, _, _, _, _, _, _, _, _ => none
  | k + 1, x2, x9, x10, x270000, x270001, x270002, x270003, x270004, x270005, x270006, x270007 => if x10 > 0 then (if (x2.size : Int) < (wrap64 (x9 + 8)) then (patchbayref3_SegOf.j1 k x2 x9 x10 true x270000 x270001 x270002 x270003 x270004 x270005 x270006 x270007) else (patchbayref3_SegOf.j1 k x2 x9 x10 ((x270006.length : Int) == 3) x270000 x270001 x270002 x270003 x270004 x270005 x270006 x270007)) else (if 0 ≤ x9 then (if x9 ≤ (x2.size : Int) then ((patchbayref3_SegFault.f k x270000 x270001 x270002 x270003 x270004 x270005 x270006 (x2.extract (x9 : Int).toNat x2.size)).bind fun t271 => (if t271 = 0 then (some (x270000, x270001, x270002, x270003, x270004, x270005, x270006, x2.extract (x9 : Int).toNat x2.size, 0)) else (some (0, 0, 0, 0, 0, 0, ([] : List (S77)), (⟨#[]⟩ : ByteArray), 3)))) else (none)) else (none))
def patchbayref3_SegOf.j1 : Nat → ByteArray → Int → Int → Bool → Int → Int → Int → Int → Int → Int → List (S77) → ByteArray → Option (Int × Int × Int × Int × Int × Int × (List (S77)) × ByteArray × Int)
  | 0, _, _, _, _, _, _, _, _, _, _, _, _ => none
  | k + 1, x2, x9, x10, x68, x270000, x270001, x270002, x270003, x270004, x270005, x270006, x270007 => if x68 = true then (some (0, 0, 0, 0, 0, 0, ([] : List (S77)), (⟨#[]⟩ : ByteArray), 3)) else (if 0 ≤ x9 then (if x9 ≤ (wrap64 (x9 + 4)) then (if (wrap64 (x9 + 4)) ≤ (x2.size : Int) then ((patchbayref3_Read.f k (x2.extract (x9 : Int).toNat ((wrap64 (x9 + 4)) : Int).toNat)).bind fun t272 => (if 0 ≤ (wrap64 (x9 + 4)) then (if (wrap64 (x9 + 4)) ≤ (wrap64 (x9 + 8)) then (if (wrap64 (x9 + 8)) ≤ (x2.size : Int) then ((patchbayref3_Read.f k (x2.extract ((wrap64 (x9 + 4)) : Int).toNat ((wrap64 (x9 + 8)) : Int).toNat)).bind fun t273 => (if x270006.length < 17592186044416 then (patchbayref3_SegOf.l0 k x2 (wrap64 (x9 + 8)) (wrap64 (x10 - 1)) x270000 x270001 x270002 x270003 x270004 x270005 (x270006 ++ [(⟨(t272) % 4294967296, (t273) % 4294967296⟩ : S77)]) x270007) else (none))) else (none)) else (none)) else (none))) else (none)) else (none)) else (none))
end
def patchbayref3_SegOf.f (k : Nat) (a0 : Int) (a1 : Int) (a2 : ByteArray) : Option (Int × Int × Int × Int × Int × Int × (List (S77)) × ByteArray × Int) := if (a2.size : Int) < 18 then (some (0, 0, 0, 0, 0, 0, ([] : List (S77)), (⟨#[]⟩ : ByteArray), 9)) else (if 16 ≤ 18 then (if 18 ≤ (a2.size : Int) then ((patchbayref3_Read.f k (a2.extract 16 18)).bind fun t260 => (if 0 ≤ 16 then (if 16 ≤ (a2.size : Int) then ((patchbayref3_Number.f k 0 2).bind fun t261 => (if (a2.extract 0 16).size + t261.size ≤ 9223372036854775807 then (if ((a2.extract 0 16) ++ t261).size + (a2.extract 18 a2.size).size ≤ 9223372036854775807 then ((patchbayref3_SegSum.f k a0 a1 (((a2.extract 0 16) ++ t261) ++ (a2.extract 18 a2.size))).bind fun t262 => (if t260 = t262 then (if 0 ≤ 2 then (if 2 ≤ (a2.size : Int) then ((patchbayref3_Read.f k (a2.extract 0 2)).bind fun t263 => (if 2 ≤ 4 then (if 4 ≤ (a2.size : Int) then ((patchbayref3_Read.f k (a2.extract 2 4)).bind fun t264 => (if 4 ≤ 8 then (if 8 ≤ (a2.size : Int) then ((patchbayref3_Read.f k (a2.extract 4 8)).bind fun t265 => (if 8 ≤ 12 then (if 12 ≤ (a2.size : Int) then ((patchbayref3_Read.f k (a2.extract 8 12)).bind fun t266 => (if 12 ≤ 13 then (if 13 ≤ (a2.size : Int) then ((patchbayref3_Read.f k (a2.extract 12 13)).bind fun t267 => (if 14 ≤ 16 then ((patchbayref3_Read.f k (a2.extract 14 16)).bind fun t268 => (if 13 ≤ 14 then (if 14 ≤ (a2.size : Int) then ((patchbayref3_Read.f k (a2.extract 13 14)).bind fun t270 => (patchbayref3_SegOf.l0 k a2 18 t270 t263 t264 ((t265) % 4294967296) ((t266) % 4294967296) t267 t268 ([] : List (S77)) (⟨#[]⟩ : ByteArray))) else (none)) else (none))) else (none))) else (none)) else (none))) else (none)) else (none))) else (none)) else (none))) else (none)) else (none))) else (none)) else (none)) else (some (0, 0, 0, 0, 0, 0, ([] : List (S77)), (⟨#[]⟩ : ByteArray), 8)))) else (none)) else (none))) else (none)) else (none))) else (none)) else (none))
theorem patchbayref3_SegOf.mono_l : ∀ k, (∀ y0 y1 y2 y3 y4 y5 y6 y7 y8 y9 y10, LeO (patchbayref3_SegOf.l0 k y0 y1 y2 y3 y4 y5 y6 y7 y8 y9 y10) (patchbayref3_SegOf.l0 (k + 1) y0 y1 y2 y3 y4 y5 y6 y7 y8 y9 y10)) ∧ (∀ y0 y1 y2 y3 y4 y5 y6 y7 y8 y9 y10 y11, LeO (patchbayref3_SegOf.j1 k y0 y1 y2 y3 y4 y5 y6 y7 y8 y9 y10 y11) (patchbayref3_SegOf.j1 (k + 1) y0 y1 y2 y3 y4 y5 y6 y7 y8 y9 y10 y11))
  | 0 => ⟨fun _ _ _ _ _ _ _ _ _ _ _ r h => by simp [patchbayref3_SegOf.l0] at h, fun _ _ _ _ _ _ _ _ _ _ _ _ r h => by simp [patchbayref3_SegOf.j1] at h⟩
  | k + 1 => by
    obtain ⟨ih0, ih1⟩ := patchbayref3_SegOf.mono_l k
    refine ⟨?_, ?_⟩
    · intro y0 y1 y2 y3 y4 y5 y6 y7 y8 y9 y10
      unfold patchbayref3_SegOf.l0
      repeat' first
      | (with_reducible exact ih0 _ _ _ _ _ _ _ _ _ _ _)
      | (with_reducible exact ih1 _ _ _ _ _ _ _ _ _ _ _ _)
      | (with_reducible exact patchbayref3_Number.mono _ _ _)
      | (with_reducible exact patchbayref3_Read.mono _ _)
      | (with_reducible exact patchbayref3_SegFault.mono _ _ _ _ _ _ _ _ _)
      | (with_reducible exact patchbayref3_SegSum.mono _ _ _ _)
      | (with_reducible exact LeO.refl _)
      | (with_reducible exact LeO.none _)
      | (with_reducible refine LeO.ite ?_ ?_)
      | (with_reducible refine LeO.bind ?_ (fun _ => ?_))
      | exact ih0 _ _ _ _ _ _ _ _ _ _ _
      | exact ih1 _ _ _ _ _ _ _ _ _ _ _ _
      | exact patchbayref3_Number.mono _ _ _
      | exact patchbayref3_Read.mono _ _
      | exact patchbayref3_SegFault.mono _ _ _ _ _ _ _ _ _
      | exact patchbayref3_SegSum.mono _ _ _ _
      | exact LeO.none _
      | refine LeO.ite ?_ ?_
      | refine LeO.bind ?_ (fun _ => ?_)
    · intro y0 y1 y2 y3 y4 y5 y6 y7 y8 y9 y10 y11
      unfold patchbayref3_SegOf.j1
      repeat' first
      | (with_reducible exact ih0 _ _ _ _ _ _ _ _ _ _ _)
      | (with_reducible exact ih1 _ _ _ _ _ _ _ _ _ _ _ _)
      | (with_reducible exact patchbayref3_Number.mono _ _ _)
      | (with_reducible exact patchbayref3_Read.mono _ _)
      | (with_reducible exact patchbayref3_SegFault.mono _ _ _ _ _ _ _ _ _)
      | (with_reducible exact patchbayref3_SegSum.mono _ _ _ _)
      | (with_reducible exact LeO.refl _)
      | (with_reducible exact LeO.none _)
      | (with_reducible refine LeO.ite ?_ ?_)
      | (with_reducible refine LeO.bind ?_ (fun _ => ?_))
      | exact ih0 _ _ _ _ _ _ _ _ _ _ _
      | exact ih1 _ _ _ _ _ _ _ _ _ _ _ _
      | exact patchbayref3_Number.mono _ _ _
      | exact patchbayref3_Read.mono _ _
      | exact patchbayref3_SegFault.mono _ _ _ _ _ _ _ _ _
      | exact patchbayref3_SegSum.mono _ _ _ _
      | exact LeO.none _
      | refine LeO.ite ?_ ?_
      | refine LeO.bind ?_ (fun _ => ?_)
theorem patchbayref3_SegOf.mono : ∀ a0 a1 a2 k, LeO (patchbayref3_SegOf.f k a0 a1 a2) (patchbayref3_SegOf.f (k + 1) a0 a1 a2) := by
  intro a0 a1 a2 k
  obtain ⟨ih0, ih1⟩ := patchbayref3_SegOf.mono_l k
  unfold patchbayref3_SegOf.f
  repeat' first
      | (with_reducible exact ih0 _ _ _ _ _ _ _ _ _ _ _)
      | (with_reducible exact ih1 _ _ _ _ _ _ _ _ _ _ _ _)
      | (with_reducible exact patchbayref3_Number.mono _ _ _)
      | (with_reducible exact patchbayref3_Read.mono _ _)
      | (with_reducible exact patchbayref3_SegFault.mono _ _ _ _ _ _ _ _ _)
      | (with_reducible exact patchbayref3_SegSum.mono _ _ _ _)
      | (with_reducible exact LeO.refl _)
      | (with_reducible exact LeO.none _)
      | (with_reducible refine LeO.ite ?_ ?_)
      | (with_reducible refine LeO.bind ?_ (fun _ => ?_))
      | exact ih0 _ _ _ _ _ _ _ _ _ _ _
      | exact ih1 _ _ _ _ _ _ _ _ _ _ _ _
      | exact patchbayref3_Number.mono _ _ _
      | exact patchbayref3_Read.mono _ _
      | exact patchbayref3_SegFault.mono _ _ _ _ _ _ _ _ _
      | exact patchbayref3_SegSum.mono _ _ _ _
      | exact LeO.none _
      | refine LeO.ite ?_ ?_
      | refine LeO.bind ?_ (fun _ => ?_)
def patchbayref3_SegOf.T3 : Bool × List (List Nat × List Nat) := (true, [([], []), ([0], [0]), ([1], [1]), ([], []), ([], []), ([], []), ([5], [5]), ([2], []), ([6, 7], [6, 7]), ([], []), ([9], [9]), ([8, 10], [8, 10]), ([3, 4, 11, 7], [3, 4, 11]), ([2, 12], [2, 12])])
def patchbayref3_SegOf.B3 : List Nat := [0, 1, 3, 0, 0, 0, 32, 7, 231, 0, 512, 2023, 4095, 8191]
theorem patchbayref3_SegOf.tab3 : rtab .any (opsOf Try.f59 3) = patchbayref3_SegOf.T3 := by kernel_rfl
theorem patchbayref3_SegOf.bits3 : waitsOk patchbayref3_SegOf.T3.2 patchbayref3_SegOf.B3 = true := by kernel_rfl
def patchbayref3_SegOf.T5 : Bool × List (List Nat × List Nat) := (true, [([], []), ([0], [0]), ([1], [1]), ([], []), ([3], [3]), ([4, 2], [4]), ([], []), ([6], [6]), ([7, 5], [7]), ([8], [8]), ([], []), ([10], [10]), ([11, 8], [11]), ([12], [12]), ([], []), ([14], [14]), ([15, 12], [15]), ([], []), ([17], [17]), ([18, 16], [18]), ([2, 5, 9, 13, 16, 19], [2, 5, 9, 13, 16, 19]), ([], []), ([21, 20, 19, 0, 1, 2, 3, 4, 5, 6, 7, 8, 9, 10, 11, 12, 13, 14, 15, 16, 17, 18, 19, 20, 21], [20, 21])])
def patchbayref3_SegOf.B5 : List Nat := [0, 1, 3, 0, 8, 31, 0, 64, 255, 511, 0, 1024, 3583, 7679, 0, 16384, 56831, 0, 131072, 515583, 1048575, 0, 4194303]
theorem patchbayref3_SegOf.tab5 : rtab .any (opsOf Try.f59 5) = patchbayref3_SegOf.T5 := by kernel_rfl
theorem patchbayref3_SegOf.bits5 : waitsOk patchbayref3_SegOf.T5.2 patchbayref3_SegOf.B5 = true := by kernel_rfl
def patchbayref3_SegOf.T12 : Bool × List (List Nat × List Nat) := (true, [([], []), ([0], [0]), ([], []), ([], []), ([], []), ([4], [4]), ([2, 3, 5], [2, 3, 5]), ([6], [6]), ([7], [7]), ([], []), ([], []), ([10], [10]), ([], []), ([12], [12]), ([9, 11, 13], [9, 11, 13]), ([14, 7], [14]), ([15], [15]), ([8, 16], [8, 16]), ([17], [17]), ([1, 18, 15], [1, 18]), ([0, 1, 2, 3, 4, 5, 6, 7, 8, 9, 10, 11, 12, 13, 14, 15, 16, 17, 18, 19], []), ([20, 19, 19, 0, 1, 2, 3, 4, 5, 6, 7, 8, 9, 10, 11, 12, 13, 14, 15, 16, 17, 18, 19], [19, 20])])
def patchbayref3_SegOf.B12 : List Nat := [0, 1, 0, 0, 0, 16, 60, 124, 252, 0, 0, 1024, 0, 4096, 15872, 32508, 65276, 131068, 262140, 524287, 1048575, 2097151]
theorem patchbayref3_SegOf.tab12 : rtab .any (opsOf Try.f59 12) = patchbayref3_SegOf.T12 := by kernel_rfl
theorem patchbayref3_SegOf.bits12 : waitsOk patchbayref3_SegOf.T12.2 patchbayref3_SegOf.B12 = true := by kernel_rfl
set_option maxHeartbeats 8000000 in
set_option maxRecDepth 100000 in
theorem patchbayref3_SegOf.calls (k : Nat) (a0 : Int) (a1 : Int) (a2 : ByteArray) (r1 : Int) (r2 : Int) (r3 : Int) (r4 : Int) (r5 : Int) (r6 : Int) (r7 : List (S77)) (r8 : ByteArray) (r9 : Int) (w : World) (h : patchbayref3_SegOf.f k a0 a1 a2 = some (r1, r2, r3, r4, r5, r6, r7, r8, r9)) :
    Calls Try.prog 59 #[.int .u32 a0, .int .u32 a1, .string a2] w fun e w' => ∃ v6_ : Value, e = .returned (.tuple #[.agg #[.int .i64 r1, .int .i64 r2, .int .u32 r3, .int .u32 r4, .int .i64 r5, .int .i64 r6, v6_, .string r8], .int .i64 r9]) ∧ Kd.R k77 77 w' w.heap.size (fun _ => True) v6_ r7 ∧ Below w.heap.size w w' := by
  have hu35 := Try.underlying35
  have hu77 := Try.underlying77
  have HB := Aside0.mk (Below.refl w.heap.size w)
  have H : (if (a2.size : Int) < 18 then (some (0, 0, 0, 0, 0, 0, ([] : List (S77)), (⟨#[]⟩ : ByteArray), 9)) else (if 16 ≤ 18 then (if 18 ≤ (a2.size : Int) then ((patchbayref3_Read.f k (a2.extract 16 18)).bind fun t260 => (if 0 ≤ 16 then (if 16 ≤ (a2.size : Int) then ((patchbayref3_Number.f k 0 2).bind fun t261 => (if (a2.extract 0 16).size + t261.size ≤ 9223372036854775807 then (if ((a2.extract 0 16) ++ t261).size + (a2.extract 18 a2.size).size ≤ 9223372036854775807 then ((patchbayref3_SegSum.f k a0 a1 (((a2.extract 0 16) ++ t261) ++ (a2.extract 18 a2.size))).bind fun t262 => (if t260 = t262 then (if 0 ≤ 2 then (if 2 ≤ (a2.size : Int) then ((patchbayref3_Read.f k (a2.extract 0 2)).bind fun t263 => (if 2 ≤ 4 then (if 4 ≤ (a2.size : Int) then ((patchbayref3_Read.f k (a2.extract 2 4)).bind fun t264 => (if 4 ≤ 8 then (if 8 ≤ (a2.size : Int) then ((patchbayref3_Read.f k (a2.extract 4 8)).bind fun t265 => (if 8 ≤ 12 then (if 12 ≤ (a2.size : Int) then ((patchbayref3_Read.f k (a2.extract 8 12)).bind fun t266 => (if 12 ≤ 13 then (if 13 ≤ (a2.size : Int) then ((patchbayref3_Read.f k (a2.extract 12 13)).bind fun t267 => (if 14 ≤ 16 then ((patchbayref3_Read.f k (a2.extract 14 16)).bind fun t268 => (if 13 ≤ 14 then (if 14 ≤ (a2.size : Int) then ((patchbayref3_Read.f k (a2.extract 13 14)).bind fun t270 => (patchbayref3_SegOf.l0 k a2 18 t270 t263 t264 ((t265) % 4294967296) ((t266) % 4294967296) t267 t268 ([] : List (S77)) (⟨#[]⟩ : ByteArray))) else (none)) else (none))) else (none))) else (none)) else (none))) else (none)) else (none))) else (none)) else (none))) else (none)) else (none))) else (none)) else (none)) else (some (0, 0, 0, 0, 0, 0, ([] : List (S77)), (⟨#[]⟩ : ByteArray), 8)))) else (none)) else (none))) else (none)) else (none))) else (none)) else (none))) = some (r1, r2, r3, r4, r5, r6, r7, r8, r9) := h
  clear h
  by_cases c4 : (a2.size : Int) < 18
  · rw [if_pos c4] at H
    have c4b0 : decide ((a2.size : Int) < 18) = true := decide_eq_true c4
    have c4b1 : decide (a2.size < 18) = true := decide_eq_true (by omega)
    clear c4
    simp only [Option.some.injEq, Prod.mk.injEq] at H
    obtain ⟨rfl, rfl, rfl, rfl, rfl, rfl, rfl, rfl, rfl⟩ := H
    go_enter Try.func59, Try.ntmps59
    go_wp2_with (first | ((with_reducible refine gate_dst (N := 6) rfl ?_); (try (refine gate_guard (by rfl) ?_; dsimp only)); refine box_event ?hg (N := 6) ?hd (cs := #[.int .i64 0, .int .i64 0, .int .u32 0, .int .u32 0, .int .i64 0, .int .i64 0, .slice none 0 0, .string (⟨#[]⟩ : ByteArray)]) (t := 35) ?hr ?_; (case hd => rfl); (case hg => rfl); (case hr => first | (go_simp; done) | (go_simp; rfl)); intro gb259 hg w5 hbox hb; have n0_ := Aside0.mk (below_step (by repeat (first | (with_reducible first | exact HB.out | apply below_alloc | apply pw_below_drewN | apply below_drew1) | exact HB.out)) hb); have n1_ := Aside0.mk (hbox); have n2_ := Aside0.mk ((by rw [hg]; exact (below_size (by repeat (first | (with_reducible first | exact HB.out | apply below_alloc | apply pw_below_drewN | apply below_drew1) | exact HB.out))) : w.heap.size ≤ gb259)); have n3_ := Aside0.mk ((by rw [hg]; exact (below_size (by repeat (first | (with_reducible first | exact HB.out | apply below_alloc | apply pw_below_drewN | apply below_drew1) | exact HB.out))) : w.heap.size ≤ gb259)); clear HB; have HB := n0_; have BK259 := n1_; have GW259 := n2_; have GE259 := n3_; clear n0_ n1_ n2_ n3_; clear hb hbox hg; have hcz6_0 : w5.cell? ⟨gb259, 0, none⟩ = some (.int .i64 0) := (blk_cell BK259.out 0).trans rfl; have hcz6_1 : w5.cell? ⟨gb259, 1, none⟩ = some (.int .i64 0) := (blk_cell BK259.out 1).trans rfl; have hcz6_2 : w5.cell? ⟨gb259, 2, none⟩ = some (.int .u32 0) := (blk_cell BK259.out 2).trans rfl; have hcz6_3 : w5.cell? ⟨gb259, 3, none⟩ = some (.int .u32 0) := (blk_cell BK259.out 3).trans rfl; have hcz6_4 : w5.cell? ⟨gb259, 4, none⟩ = some (.int .i64 0) := (blk_cell BK259.out 4).trans rfl; have hcz6_5 : w5.cell? ⟨gb259, 5, none⟩ = some (.int .i64 0) := (blk_cell BK259.out 5).trans rfl; have hcz6_6 : w5.cell? ⟨gb259, 6, none⟩ = some (.slice none 0 0) := (blk_cell BK259.out 6).trans rfl; have hcz6_7 : w5.cell? ⟨gb259, 7, none⟩ = some (.string (⟨#[]⟩ : ByteArray)) := (blk_cell BK259.out 7).trans rfl; have hfz6_0 := blk_frozen BK259.out 0; have hfz6_1 := blk_frozen BK259.out 1; have hfz6_2 := blk_frozen BK259.out 2; have hfz6_3 := blk_frozen BK259.out 3; have hfz6_4 := blk_frozen BK259.out 4; have hfz6_5 := blk_frozen BK259.out 5; have hfz6_6 := blk_frozen BK259.out 6; have hfz6_7 := blk_frozen BK259.out 7))
    refine bodyPost_ret (results_ct rfl _ _ gb259 35 #[.int .i64 0, .int .i64 0, .int .u32 0, .int .u32 0, .int .i64 0, .int .i64 0, .slice none 0 0, .string (⟨#[]⟩ : ByteArray)] (0, 0) _ rfl (by (with_reducible repeat (first | refine blk_drewN ?_ _ | refine blk_drew ?_ | refine blk_alloc ?_ _)); refine blk_put (cs := #[.int .i64 0, .int .i64 0, .int .u32 0, .int .u32 0, .int .i64 0, .int .i64 0, .slice none 0 0, .string (⟨#[]⟩ : ByteArray)]) ?_ 7 _ rfl; (with_reducible repeat (first | refine blk_drewN ?_ _ | refine blk_drew ?_ | refine blk_alloc ?_ _)); refine blk_put (cs := #[.int .i64 0, .int .i64 0, .int .u32 0, .int .u32 0, .int .i64 0, .int .i64 0, .slice none 0 0, .string (⟨#[]⟩ : ByteArray)]) ?_ 6 _ rfl; (with_reducible repeat (first | refine blk_drewN ?_ _ | refine blk_drew ?_ | refine blk_alloc ?_ _)); refine blk_put (cs := #[.int .i64 0, .int .i64 0, .int .u32 0, .int .u32 0, .int .i64 0, .int .i64 0, .slice none 0 0, .string (⟨#[]⟩ : ByteArray)]) ?_ 5 _ rfl; (with_reducible repeat (first | refine blk_drewN ?_ _ | refine blk_drew ?_ | refine blk_alloc ?_ _)); refine blk_put (cs := #[.int .i64 0, .int .i64 0, .int .u32 0, .int .u32 0, .int .i64 0, .int .i64 0, .slice none 0 0, .string (⟨#[]⟩ : ByteArray)]) ?_ 4 _ rfl; (with_reducible repeat (first | refine blk_drewN ?_ _ | refine blk_drew ?_ | refine blk_alloc ?_ _)); refine blk_put (cs := #[.int .i64 0, .int .i64 0, .int .u32 0, .int .u32 0, .int .i64 0, .int .i64 0, .slice none 0 0, .string (⟨#[]⟩ : ByteArray)]) ?_ 3 _ rfl; (with_reducible repeat (first | refine blk_drewN ?_ _ | refine blk_drew ?_ | refine blk_alloc ?_ _)); refine blk_put (cs := #[.int .i64 0, .int .i64 0, .int .u32 0, .int .u32 0, .int .i64 0, .int .i64 0, .slice none 0 0, .string (⟨#[]⟩ : ByteArray)]) ?_ 2 _ rfl; (with_reducible repeat (first | refine blk_drewN ?_ _ | refine blk_drew ?_ | refine blk_alloc ?_ _)); refine blk_put (cs := #[.int .i64 0, .int .i64 0, .int .u32 0, .int .u32 0, .int .i64 0, .int .i64 0, .slice none 0 0, .string (⟨#[]⟩ : ByteArray)]) ?_ 1 _ rfl; (with_reducible repeat (first | refine blk_drewN ?_ _ | refine blk_drew ?_ | refine blk_alloc ?_ _)); refine blk_put (cs := #[.int .i64 0, .int .i64 0, .int .u32 0, .int .u32 0, .int .i64 0, .int .i64 0, .slice none 0 0, .string (⟨#[]⟩ : ByteArray)]) ?_ 0 _ rfl; (with_reducible repeat (first | refine blk_drewN ?_ _ | refine blk_drew ?_ | refine blk_alloc ?_ _)); exact BK259.out) Try.underlying35 rfl (by kernel_rfl)) rfl ?_
    exact ⟨_, by first | rfl | (simp [errW_none, errW_some] <;> rfl) | (simp [*, errW_none, errW_some] <;> rfl), by first | exact Kd.R_nil _ _ _ _ _ | exact Kd.N_nil _ _ _ _ _ | exact Kd.V_nil _ _ _ _ _ | exact Kd.Q_nil _ _ _ _ _ | exact Kd.S_nil _ _ _ _ _, by repeat (first | (with_reducible first | exact HB.out | apply below_alloc | apply pw_below_drewN | apply below_drew1 | refine below_set ?_ GE259.out) | exact HB.out)⟩
  · rw [if_neg c4] at H
    have c4b0 : decide ((a2.size : Int) < 18) = false := decide_eq_false c4
    have c4b1 : decide (a2.size < 18) = false := decide_eq_false (by omega)
    clear c4
    by_cases c7 : 16 ≤ 18
    · rw [if_pos c7] at H
      have c7b0 := eq_true c7
      have c7b1 : decide (16 ≤ 18) = true := decide_eq_true c7
      clear c7
      by_cases c8 : 18 ≤ (a2.size : Int)
      · rw [if_pos c8] at H
        have c8b0 := eq_true c8
        have c8b1 : decide (18 ≤ (a2.size : Int)) = true := decide_eq_true c8
        clear c8
        replace H := Option.bind_eq_some_iff.mp H
        obtain ⟨t260, A90, H⟩ := H
        replace H : (if 0 ≤ 16 then (if 16 ≤ (a2.size : Int) then ((patchbayref3_Number.f k 0 2).bind fun t261 => (if (a2.extract 0 16).size + t261.size ≤ 9223372036854775807 then (if ((a2.extract 0 16) ++ t261).size + (a2.extract 18 a2.size).size ≤ 9223372036854775807 then ((patchbayref3_SegSum.f k a0 a1 (((a2.extract 0 16) ++ t261) ++ (a2.extract 18 a2.size))).bind fun t262 => (if t260 = t262 then (if 0 ≤ 2 then (if 2 ≤ (a2.size : Int) then ((patchbayref3_Read.f k (a2.extract 0 2)).bind fun t263 => (if 2 ≤ 4 then (if 4 ≤ (a2.size : Int) then ((patchbayref3_Read.f k (a2.extract 2 4)).bind fun t264 => (if 4 ≤ 8 then (if 8 ≤ (a2.size : Int) then ((patchbayref3_Read.f k (a2.extract 4 8)).bind fun t265 => (if 8 ≤ 12 then (if 12 ≤ (a2.size : Int) then ((patchbayref3_Read.f k (a2.extract 8 12)).bind fun t266 => (if 12 ≤ 13 then (if 13 ≤ (a2.size : Int) then ((patchbayref3_Read.f k (a2.extract 12 13)).bind fun t267 => (if 14 ≤ 16 then ((patchbayref3_Read.f k (a2.extract 14 16)).bind fun t268 => (if 13 ≤ 14 then (if 14 ≤ (a2.size : Int) then ((patchbayref3_Read.f k (a2.extract 13 14)).bind fun t270 => (patchbayref3_SegOf.l0 k a2 18 t270 t263 t264 ((t265) % 4294967296) ((t266) % 4294967296) t267 t268 ([] : List (S77)) (⟨#[]⟩ : ByteArray))) else (none)) else (none))) else (none))) else (none)) else (none))) else (none)) else (none))) else (none)) else (none))) else (none)) else (none))) else (none)) else (none)) else (some (0, 0, 0, 0, 0, 0, ([] : List (S77)), (⟨#[]⟩ : ByteArray), 8)))) else (none)) else (none))) else (none)) else (none)) = some (r1, r2, r3, r4, r5, r6, r7, r8, r9) := H
        have A9 := Aside0.mk A90
        clear A90
        by_cases c10 : 0 ≤ 16
        · rw [if_pos c10] at H
          have c10b0 := eq_true c10
          have c10b1 : decide (0 ≤ 16) = true := decide_eq_true c10
          clear c10
          by_cases c11 : 16 ≤ (a2.size : Int)
          · rw [if_pos c11] at H
            have c11b0 := eq_true c11
            have c11b1 : decide (16 ≤ (a2.size : Int)) = true := decide_eq_true c11
            clear c11
            replace H := Option.bind_eq_some_iff.mp H
            obtain ⟨t261, A120, H⟩ := H
            replace H : (if (a2.extract 0 16).size + t261.size ≤ 9223372036854775807 then (if ((a2.extract 0 16) ++ t261).size + (a2.extract 18 a2.size).size ≤ 9223372036854775807 then ((patchbayref3_SegSum.f k a0 a1 (((a2.extract 0 16) ++ t261) ++ (a2.extract 18 a2.size))).bind fun t262 => (if t260 = t262 then (if 0 ≤ 2 then (if 2 ≤ (a2.size : Int) then ((patchbayref3_Read.f k (a2.extract 0 2)).bind fun t263 => (if 2 ≤ 4 then (if 4 ≤ (a2.size : Int) then ((patchbayref3_Read.f k (a2.extract 2 4)).bind fun t264 => (if 4 ≤ 8 then (if 8 ≤ (a2.size : Int) then ((patchbayref3_Read.f k (a2.extract 4 8)).bind fun t265 => (if 8 ≤ 12 then (if 12 ≤ (a2.size : Int) then ((patchbayref3_Read.f k (a2.extract 8 12)).bind fun t266 => (if 12 ≤ 13 then (if 13 ≤ (a2.size : Int) then ((patchbayref3_Read.f k (a2.extract 12 13)).bind fun t267 => (if 14 ≤ 16 then ((patchbayref3_Read.f k (a2.extract 14 16)).bind fun t268 => (if 13 ≤ 14 then (if 14 ≤ (a2.size : Int) then ((patchbayref3_Read.f k (a2.extract 13 14)).bind fun t270 => (patchbayref3_SegOf.l0 k a2 18 t270 t263 t264 ((t265) % 4294967296) ((t266) % 4294967296) t267 t268 ([] : List (S77)) (⟨#[]⟩ : ByteArray))) else (none)) else (none))) else (none))) else (none)) else (none))) else (none)) else (none))) else (none)) else (none))) else (none)) else (none))) else (none)) else (none)) else (some (0, 0, 0, 0, 0, 0, ([] : List (S77)), (⟨#[]⟩ : ByteArray), 8)))) else (none)) else (none)) = some (r1, r2, r3, r4, r5, r6, r7, r8, r9) := H
            have A12 := Aside0.mk A120
            clear A120
            by_cases c13 : (a2.extract 0 16).size + t261.size ≤ 9223372036854775807
            · rw [if_pos c13] at H
              have c13b0 := eq_true c13
              have c13b1 : decide ((a2.extract 0 16).size + t261.size ≤ 9223372036854775807) = true := decide_eq_true c13
              try have c13b2 : (9223372036854775807 < (a2.extract 0 16).size + t261.size) = False := eq_false (Nat.not_lt.2 c13)
              have c13b4 : (9223372036854775807 < min 16 a2.size + t261.size) = False := eq_false (by have q := c13; simp only [ByteArray.size_extract] at q; omega)
              have c14b0 := eq_true (of_decide_eq_true (by first | (with_reducible assumption) | assumption) : 18 ≤ (a2.size : Int))
              by_cases c15 : ((a2.extract 0 16) ++ t261).size + (a2.extract 18 a2.size).size ≤ 9223372036854775807
              · rw [if_pos c15] at H
                have c15b0 := eq_true c15
                have c15b1 : decide (((a2.extract 0 16) ++ t261).size + (a2.extract 18 a2.size).size ≤ 9223372036854775807) = true := decide_eq_true c15
                try have c15b2 : (9223372036854775807 < ((a2.extract 0 16) ++ t261).size + (a2.extract 18 a2.size).size) = False := eq_false (Nat.not_lt.2 c15)
                have c15b4 : (9223372036854775807 < min 16 a2.size + t261.size + (a2.size - 18)) = False := eq_false (by have q := c15; simp only [ByteArray.size_append, ByteArray.size_extract] at q; omega)
                have c15b3 : (9223372036854775807 < (a2.extract 0 16).size + t261.size + (a2.extract 18 a2.size).size) = False := eq_false (by have q := c15; simp only [ByteArray.size_append] at q; omega)
                replace H := Option.bind_eq_some_iff.mp H
                obtain ⟨t262, A160, H⟩ := H
                replace H : (if t260 = t262 then (if 0 ≤ 2 then (if 2 ≤ (a2.size : Int) then ((patchbayref3_Read.f k (a2.extract 0 2)).bind fun t263 => (if 2 ≤ 4 then (if 4 ≤ (a2.size : Int) then ((patchbayref3_Read.f k (a2.extract 2 4)).bind fun t264 => (if 4 ≤ 8 then (if 8 ≤ (a2.size : Int) then ((patchbayref3_Read.f k (a2.extract 4 8)).bind fun t265 => (if 8 ≤ 12 then (if 12 ≤ (a2.size : Int) then ((patchbayref3_Read.f k (a2.extract 8 12)).bind fun t266 => (if 12 ≤ 13 then (if 13 ≤ (a2.size : Int) then ((patchbayref3_Read.f k (a2.extract 12 13)).bind fun t267 => (if 14 ≤ 16 then ((patchbayref3_Read.f k (a2.extract 14 16)).bind fun t268 => (if 13 ≤ 14 then (if 14 ≤ (a2.size : Int) then ((patchbayref3_Read.f k (a2.extract 13 14)).bind fun t270 => (patchbayref3_SegOf.l0 k a2 18 t270 t263 t264 ((t265) % 4294967296) ((t266) % 4294967296) t267 t268 ([] : List (S77)) (⟨#[]⟩ : ByteArray))) else (none)) else (none))) else (none))) else (none)) else (none))) else (none)) else (none))) else (none)) else (none))) else (none)) else (none))) else (none)) else (none)) else (some (0, 0, 0, 0, 0, 0, ([] : List (S77)), (⟨#[]⟩ : ByteArray), 8))) = some (r1, r2, r3, r4, r5, r6, r7, r8, r9) := H
                have A16 := Aside0.mk A160
                clear A160
                by_cases c17 : t260 = t262
                · rw [if_pos c17] at H
                  have c17b0 : (t260 == t262) = true := beq_iff_eq.mpr c17
                  have c17b1 : (t260 != t262) = false := bne_eq_false_iff_eq.mpr c17
                  clear c17
                  by_cases c18 : 0 ≤ 2
                  · rw [if_pos c18] at H
                    have c18b0 := eq_true c18
                    have c18b1 : decide (0 ≤ 2) = true := decide_eq_true c18
                    clear c18
                    by_cases c19 : 2 ≤ (a2.size : Int)
                    · rw [if_pos c19] at H
                      have c19b0 := eq_true c19
                      have c19b1 : decide (2 ≤ (a2.size : Int)) = true := decide_eq_true c19
                      clear c19
                      replace H := Option.bind_eq_some_iff.mp H
                      obtain ⟨t263, A200, H⟩ := H
                      replace H : (if 2 ≤ 4 then (if 4 ≤ (a2.size : Int) then ((patchbayref3_Read.f k (a2.extract 2 4)).bind fun t264 => (if 4 ≤ 8 then (if 8 ≤ (a2.size : Int) then ((patchbayref3_Read.f k (a2.extract 4 8)).bind fun t265 => (if 8 ≤ 12 then (if 12 ≤ (a2.size : Int) then ((patchbayref3_Read.f k (a2.extract 8 12)).bind fun t266 => (if 12 ≤ 13 then (if 13 ≤ (a2.size : Int) then ((patchbayref3_Read.f k (a2.extract 12 13)).bind fun t267 => (if 14 ≤ 16 then ((patchbayref3_Read.f k (a2.extract 14 16)).bind fun t268 => (if 13 ≤ 14 then (if 14 ≤ (a2.size : Int) then ((patchbayref3_Read.f k (a2.extract 13 14)).bind fun t270 => (patchbayref3_SegOf.l0 k a2 18 t270 t263 t264 ((t265) % 4294967296) ((t266) % 4294967296) t267 t268 ([] : List (S77)) (⟨#[]⟩ : ByteArray))) else (none)) else (none))) else (none))) else (none)) else (none))) else (none)) else (none))) else (none)) else (none))) else (none)) else (none)) = some (r1, r2, r3, r4, r5, r6, r7, r8, r9) := H
                      have A20 := Aside0.mk A200
                      clear A200
                      by_cases c21 : 2 ≤ 4
                      · rw [if_pos c21] at H
                        have c21b0 := eq_true c21
                        have c21b1 : decide (2 ≤ 4) = true := decide_eq_true c21
                        clear c21
                        by_cases c22 : 4 ≤ (a2.size : Int)
                        · rw [if_pos c22] at H
                          have c22b0 := eq_true c22
                          have c22b1 : decide (4 ≤ (a2.size : Int)) = true := decide_eq_true c22
                          clear c22
                          replace H := Option.bind_eq_some_iff.mp H
                          obtain ⟨t264, A230, H⟩ := H
                          replace H : (if 4 ≤ 8 then (if 8 ≤ (a2.size : Int) then ((patchbayref3_Read.f k (a2.extract 4 8)).bind fun t265 => (if 8 ≤ 12 then (if 12 ≤ (a2.size : Int) then ((patchbayref3_Read.f k (a2.extract 8 12)).bind fun t266 => (if 12 ≤ 13 then (if 13 ≤ (a2.size : Int) then ((patchbayref3_Read.f k (a2.extract 12 13)).bind fun t267 => (if 14 ≤ 16 then ((patchbayref3_Read.f k (a2.extract 14 16)).bind fun t268 => (if 13 ≤ 14 then (if 14 ≤ (a2.size : Int) then ((patchbayref3_Read.f k (a2.extract 13 14)).bind fun t270 => (patchbayref3_SegOf.l0 k a2 18 t270 t263 t264 ((t265) % 4294967296) ((t266) % 4294967296) t267 t268 ([] : List (S77)) (⟨#[]⟩ : ByteArray))) else (none)) else (none))) else (none))) else (none)) else (none))) else (none)) else (none))) else (none)) else (none)) = some (r1, r2, r3, r4, r5, r6, r7, r8, r9) := H
                          have A23 := Aside0.mk A230
                          clear A230
                          by_cases c24 : 4 ≤ 8
                          · rw [if_pos c24] at H
                            have c24b0 := eq_true c24
                            have c24b1 : decide (4 ≤ 8) = true := decide_eq_true c24
                            clear c24
                            by_cases c25 : 8 ≤ (a2.size : Int)
                            · rw [if_pos c25] at H
                              have c25b0 := eq_true c25
                              have c25b1 : decide (8 ≤ (a2.size : Int)) = true := decide_eq_true c25
                              clear c25
                              replace H := Option.bind_eq_some_iff.mp H
                              obtain ⟨t265, A260, H⟩ := H
                              replace H : (if 8 ≤ 12 then (if 12 ≤ (a2.size : Int) then ((patchbayref3_Read.f k (a2.extract 8 12)).bind fun t266 => (if 12 ≤ 13 then (if 13 ≤ (a2.size : Int) then ((patchbayref3_Read.f k (a2.extract 12 13)).bind fun t267 => (if 14 ≤ 16 then ((patchbayref3_Read.f k (a2.extract 14 16)).bind fun t268 => (if 13 ≤ 14 then (if 14 ≤ (a2.size : Int) then ((patchbayref3_Read.f k (a2.extract 13 14)).bind fun t270 => (patchbayref3_SegOf.l0 k a2 18 t270 t263 t264 ((t265) % 4294967296) ((t266) % 4294967296) t267 t268 ([] : List (S77)) (⟨#[]⟩ : ByteArray))) else (none)) else (none))) else (none))) else (none)) else (none))) else (none)) else (none)) = some (r1, r2, r3, r4, r5, r6, r7, r8, r9) := H
                              have A26 := Aside0.mk A260
                              clear A260
                              by_cases c27 : 8 ≤ 12
                              · rw [if_pos c27] at H
                                have c27b0 := eq_true c27
                                have c27b1 : decide (8 ≤ 12) = true := decide_eq_true c27
                                clear c27
                                by_cases c28 : 12 ≤ (a2.size : Int)
                                · rw [if_pos c28] at H
                                  have c28b0 := eq_true c28
                                  have c28b1 : decide (12 ≤ (a2.size : Int)) = true := decide_eq_true c28
                                  clear c28
                                  replace H := Option.bind_eq_some_iff.mp H
                                  obtain ⟨t266, A290, H⟩ := H
                                  replace H : (if 12 ≤ 13 then (if 13 ≤ (a2.size : Int) then ((patchbayref3_Read.f k (a2.extract 12 13)).bind fun t267 => (if 14 ≤ 16 then ((patchbayref3_Read.f k (a2.extract 14 16)).bind fun t268 => (if 13 ≤ 14 then (if 14 ≤ (a2.size : Int) then ((patchbayref3_Read.f k (a2.extract 13 14)).bind fun t270 => (patchbayref3_SegOf.l0 k a2 18 t270 t263 t264 ((t265) % 4294967296) ((t266) % 4294967296) t267 t268 ([] : List (S77)) (⟨#[]⟩ : ByteArray))) else (none)) else (none))) else (none))) else (none)) else (none)) = some (r1, r2, r3, r4, r5, r6, r7, r8, r9) := H
                                  have A29 := Aside0.mk A290
                                  clear A290
                                  by_cases c30 : 12 ≤ 13
                                  · rw [if_pos c30] at H
                                    have c30b0 := eq_true c30
                                    have c30b1 : decide (12 ≤ 13) = true := decide_eq_true c30
                                    clear c30
                                    by_cases c31 : 13 ≤ (a2.size : Int)
                                    · rw [if_pos c31] at H
                                      have c31b0 := eq_true c31
                                      have c31b1 : decide (13 ≤ (a2.size : Int)) = true := decide_eq_true c31
                                      clear c31
                                      replace H := Option.bind_eq_some_iff.mp H
                                      obtain ⟨t267, A320, H⟩ := H
                                      replace H : (if 14 ≤ 16 then ((patchbayref3_Read.f k (a2.extract 14 16)).bind fun t268 => (if 13 ≤ 14 then (if 14 ≤ (a2.size : Int) then ((patchbayref3_Read.f k (a2.extract 13 14)).bind fun t270 => (patchbayref3_SegOf.l0 k a2 18 t270 t263 t264 ((t265) % 4294967296) ((t266) % 4294967296) t267 t268 ([] : List (S77)) (⟨#[]⟩ : ByteArray))) else (none)) else (none))) else (none)) = some (r1, r2, r3, r4, r5, r6, r7, r8, r9) := H
                                      have A32 := Aside0.mk A320
                                      clear A320
                                      by_cases c33 : 14 ≤ 16
                                      · rw [if_pos c33] at H
                                        have c33b0 := eq_true c33
                                        have c33b1 : decide (14 ≤ 16) = true := decide_eq_true c33
                                        clear c33
                                        have c34b0 := eq_true (of_decide_eq_true (by first | (with_reducible assumption) | assumption) : 16 ≤ (a2.size : Int))
                                        replace H := Option.bind_eq_some_iff.mp H
                                        obtain ⟨t268, A350, H⟩ := H
                                        replace H : (if 13 ≤ 14 then (if 14 ≤ (a2.size : Int) then ((patchbayref3_Read.f k (a2.extract 13 14)).bind fun t270 => (patchbayref3_SegOf.l0 k a2 18 t270 t263 t264 ((t265) % 4294967296) ((t266) % 4294967296) t267 t268 ([] : List (S77)) (⟨#[]⟩ : ByteArray))) else (none)) else (none)) = some (r1, r2, r3, r4, r5, r6, r7, r8, r9) := H
                                        have A35 := Aside0.mk A350
                                        clear A350
                                        by_cases c36 : 13 ≤ 14
                                        · rw [if_pos c36] at H
                                          have c36b0 := eq_true c36
                                          have c36b1 : decide (13 ≤ 14) = true := decide_eq_true c36
                                          clear c36
                                          by_cases c37 : 14 ≤ (a2.size : Int)
                                          · rw [if_pos c37] at H
                                            have c37b0 := eq_true c37
                                            have c37b1 : decide (14 ≤ (a2.size : Int)) = true := decide_eq_true c37
                                            clear c37
                                            replace H := Option.bind_eq_some_iff.mp H
                                            obtain ⟨t270, A380, H⟩ := H
                                            replace H : (patchbayref3_SegOf.l0 k a2 18 t270 t263 t264 ((t265) % 4294967296) ((t266) % 4294967296) t267 t268 ([] : List (S77)) (⟨#[]⟩ : ByteArray)) = some (r1, r2, r3, r4, r5, r6, r7, r8, r9) := H
                                            have A38 := Aside0.mk A380
                                            clear A380
                                            have H' := Aside0.mk H
                                            clear H
                                            go_enter Try.func59, Try.ntmps59
                                            try go_wp2_with (first | ((with_reducible refine gate_dst (N := 6) rfl ?_); (try (refine gate_guard (by rfl) ?_; dsimp only)); refine box_event ?hg (N := 6) ?hd (cs := #[.int .i64 0, .int .i64 0, .int .u32 0, .int .u32 0, .int .i64 0, .int .i64 0, .slice none 0 0, .string (⟨#[]⟩ : ByteArray)]) (t := 35) ?hr ?_; (case hd => rfl); (case hg => rfl); (case hr => first | (go_simp; done) | (go_simp; rfl)); intro gb259 hg w39 hbox hb; have n0_ := Aside0.mk (below_step (by repeat (first | (with_reducible first | exact HB.out | apply below_alloc | apply pw_below_drewN | apply below_drew1) | exact HB.out)) hb); have n1_ := Aside0.mk (hbox); have n2_ := Aside0.mk ((by rw [hg]; exact (below_size (by repeat (first | (with_reducible first | exact HB.out | apply below_alloc | apply pw_below_drewN | apply below_drew1) | exact HB.out))) : w.heap.size ≤ gb259)); have n3_ := Aside0.mk ((by rw [hg]; exact (below_size (by repeat (first | (with_reducible first | exact HB.out | apply below_alloc | apply pw_below_drewN | apply below_drew1) | exact HB.out))) : w.heap.size ≤ gb259)); clear HB; have HB := n0_; have BK259 := n1_; have GW259 := n2_; have GE259 := n3_; clear n0_ n1_ n2_ n3_; clear hb hbox hg))
                                            have n0_ := Aside0.mk (blk_drew BK259.out)
                                            have n1_ := Aside0.mk (below_drew1 HB.out)
                                            clear BK259
                                            clear HB
                                            have BK259 := n0_
                                            have HB := n1_
                                            clear n0_ n1_
                                            refine start_ (n := 14) (S := fun w' => True) (ds := []) #[false, false, false, false, false, false, false, false, false, false, false, false, false, false] (by kernel_rfl) rfl rfl trivial (fun hHeld => ?_); refine with_tabW patchbayref3_SegOf.tab3 patchbayref3_SegOf.bits3 (fun HT_ HW_ => ?_)
                                            generalize w39.drew = w40 at BK259 HB hHeld ⊢
                                            refine pure_ (i := 0) (N := some 15) (v := ?_) (a' := ?_) #[true, false, false, false, false, false, false, false, false, false, false, false, false, false] rfl rfl (any_of HT_.out (by kernel_rfl)) (fun _ _ _ h => h) (Or.inl ⟨by rfl, ?_⟩) ?_ ?_
                                            rotate_left
                                            · intro w'
                                              go_simp
                                              with_reducible rfl
                                            rotate_left
                                            · simp only [Act.put, List.setIfInBounds_toArray, List.set_cons_zero, List.set_cons_succ, i64_w, i32_w]
                                              rfl
                                            refine pure_ (i := 1) (N := some 16) (v := ?_) (a' := ?_) #[true, true, false, false, false, false, false, false, false, false, false, false, false, false] rfl rfl (any_of HT_.out (by kernel_rfl)) (fun _ _ _ h => h) (Or.inl ⟨by rfl, ?_⟩) ?_ ?_
                                            rotate_left
                                            · intro w'
                                              go_simp
                                              with_reducible rfl
                                            rotate_left
                                            · simp only [Act.put, List.setIfInBounds_toArray, List.set_cons_zero, List.set_cons_succ, i64_w, i32_w]
                                              rfl
                                            refine pure_ (i := 3) (N := some 18) (v := ?_) (a' := ?_) #[true, true, false, true, false, false, false, false, false, false, false, false, false, false] rfl rfl (any_of HT_.out (by kernel_rfl)) (fun _ _ _ h => h) (Or.inl ⟨by rfl, ?_⟩) ?_ ?_
                                            rotate_left
                                            · intro w'
                                              go_simp
                                              with_reducible rfl
                                            rotate_left
                                            · simp only [Act.put, List.setIfInBounds_toArray, List.set_cons_zero, List.set_cons_succ, i64_w, i32_w]
                                              rfl
                                            refine pure_ (i := 4) (N := some 19) (v := ?_) (a' := ?_) #[true, true, false, true, true, false, false, false, false, false, false, false, false, false] rfl rfl (any_of HT_.out (by kernel_rfl)) (fun _ _ _ h => h) (Or.inl ⟨by rfl, ?_⟩) ?_ ?_
                                            rotate_left
                                            · intro w'
                                              go_simp
                                              with_reducible rfl
                                            rotate_left
                                            · simp only [Act.put, List.setIfInBounds_toArray, List.set_cons_zero, List.set_cons_succ, i64_w, i32_w]
                                              rfl
                                            refine pure_ (i := 5) (N := some 20) (v := ?_) (a' := ?_) #[true, true, false, true, true, true, false, false, false, false, false, false, false, false] rfl rfl (any_of HT_.out (by kernel_rfl)) (fun _ _ _ h => h) (Or.inl ⟨by rfl, ?_⟩) ?_ ?_
                                            rotate_left
                                            · intro w'
                                              go_simp
                                              with_reducible rfl
                                            rotate_left
                                            · simp only [Act.put, List.setIfInBounds_toArray, List.set_cons_zero, List.set_cons_succ, i64_w, i32_w]
                                              rfl
                                            refine pure_ (i := 6) (N := some 21) (v := ?_) (a' := ?_) #[true, true, false, true, true, true, true, false, false, false, false, false, false, false] rfl rfl (any_of HT_.out (by kernel_rfl)) (fun _ _ _ h => h) (Or.inl ⟨by rfl, ?_⟩) ?_ ?_
                                            rotate_left
                                            · intro w'
                                              go_simp
                                              with_reducible rfl
                                            rotate_left
                                            · simp only [Act.put, List.setIfInBounds_toArray, List.set_cons_zero, List.set_cons_succ, i64_w, i32_w]
                                              rfl
                                            refine pure_ (i := 9) (N := some 24) (v := ?_) (a' := ?_) #[true, true, false, true, true, true, true, false, false, true, false, false, false, false] rfl rfl (any_of HT_.out (by kernel_rfl)) (fun _ _ _ h => h) (Or.inl ⟨by rfl, ?_⟩) ?_ ?_
                                            rotate_left
                                            · intro w'
                                              go_simp
                                              with_reducible rfl
                                            rotate_left
                                            · simp only [Act.put, List.setIfInBounds_toArray, List.set_cons_zero, List.set_cons_succ, i64_w, i32_w]
                                              rfl
                                            refine pure_ (i := 10) (N := some 25) (v := ?_) (a' := ?_) #[true, true, false, true, true, true, true, false, false, true, true, false, false, false] rfl rfl (any_of HT_.out (by kernel_rfl)) (fun _ _ _ h => h) (Or.inl ⟨by rfl, ?_⟩) ?_ ?_
                                            rotate_left
                                            · intro w'
                                              go_simp
                                              with_reducible rfl
                                            rotate_left
                                            · simp only [Act.put, List.setIfInBounds_toArray, List.set_cons_zero, List.set_cons_succ, i64_w, i32_w]
                                              rfl
                                            refine one_ (i := 2) (N := some 17) #[true, true, true, true, true, true, true, false, false, true, true, false, false, false] rfl rfl (one_of HT_.out (by kernel_rfl)) (by decide) (fun K hK => ?_)
                                            refine goes_ Try.func85 (by kernel_rfl) rfl #[.string (a2.extract 16 18)] (by rfl) rfl rfl (by (try simp only [List.map_toArray, List.map_cons, List.map_nil]); first | done | rfl | (simp only [List.length_drop, List.length_take]; rfl)) ?_
                                            with_reducible refine (patchbayref3_Read.calls k (a2.extract 16 18) t260 _ A9.out).mono ?_
                                            rintro e w' ⟨rfl, ⟨nd, rfl⟩⟩
                                            refine ⟨_, rfl, ?_⟩
                                            refine hK.out _ _ trivial (fun hHeld => ?_)
                                            clear hK K
                                            refine norm_ (a' := ?_) ?_ ?_
                                            rotate_left
                                            · show Act.put _ (some 17) _ = _
                                              simp only [Act.put, List.setIfInBounds_toArray, List.set_cons_zero, List.set_cons_succ, i64_w, i32_w]
                                              rfl
                                            refine one_ (i := 7) (N := some 22) #[true, true, true, true, true, true, true, true, false, true, true, false, false, false] rfl rfl (one_of HT_.out (by kernel_rfl)) (by decide) (fun K hK => ?_)
                                            refine goes_ Try.func86 (by kernel_rfl) rfl #[.int .i64 0, .int .i64 2] (by rfl) rfl rfl (by (try simp only [List.map_toArray, List.map_cons, List.map_nil]); first | done | rfl | (simp only [List.length_drop, List.length_take]; rfl)) ?_
                                            with_reducible refine (patchbayref3_Number.calls k 0 2 t261 _ A12.out).mono ?_
                                            rintro e w41 ⟨rfl, hb⟩
                                            refine ⟨_, rfl, ?_⟩
                                            have n0_ := Aside0.mk (blk_below (g := gb259) (o := .cells #[.int .i64 0, .int .i64 0, .int .u32 0, .int .u32 0, .int .i64 0, .int .i64 0, .slice none 0 0, .string (⟨#[]⟩ : ByteArray)] 35 (0, 0)) (by (with_reducible repeat (first | refine blk_drewN ?_ _ | refine blk_drew ?_ | refine blk_alloc ?_ _)); exact BK259.out) hb)
                                            have n1_ := Aside0.mk (below_step (by repeat (first | (with_reducible first | exact HB.out | apply below_alloc | apply pw_below_drewN | apply below_drew1 | refine below_set ?_ GE259.out) | exact HB.out)) hb)
                                            clear BK259
                                            clear HB
                                            have BK259 := n0_
                                            have HB := n1_
                                            clear n0_ n1_
                                            (try clear hb)
                                            (try clear hb2)
                                            (try clear hk)
                                            (try clear hi)
                                            refine hK.out _ _ trivial (fun hHeld => ?_)
                                            clear hK K
                                            refine norm_ (a' := ?_) ?_ ?_
                                            rotate_left
                                            · show Act.put _ (some 22) _ = _
                                              simp only [Act.put, List.setIfInBounds_toArray, List.set_cons_zero, List.set_cons_succ, i64_w, i32_w]
                                              rfl
                                            refine pure_ (i := 8) (N := some 23) (v := ?_) (a' := ?_) #[true, true, true, true, true, true, true, true, true, true, true, false, false, false] rfl rfl (any_of HT_.out (by kernel_rfl)) (fun _ _ _ h => h) (Or.inl ⟨by rfl, ?_⟩) ?_ ?_
                                            rotate_left
                                            · intro w'
                                              go_simp
                                              with_reducible rfl
                                            rotate_left
                                            · simp only [Act.put, List.setIfInBounds_toArray, List.set_cons_zero, List.set_cons_succ, i64_w, i32_w]
                                              rfl
                                            refine pure_ (i := 11) (N := some 26) (v := ?_) (a' := ?_) #[true, true, true, true, true, true, true, true, true, true, true, true, false, false] rfl rfl (any_of HT_.out (by kernel_rfl)) (fun _ _ _ h => h) (Or.inl ⟨by rfl, ?_⟩) ?_ ?_
                                            rotate_left
                                            · intro w'
                                              go_simp
                                              with_reducible rfl
                                            rotate_left
                                            · simp only [Act.put, List.setIfInBounds_toArray, List.set_cons_zero, List.set_cons_succ, i64_w, i32_w]
                                              rfl
                                            refine one_ (i := 12) (N := some 27) #[true, true, true, true, true, true, true, true, true, true, true, true, true, false] rfl rfl (one_of HT_.out (by kernel_rfl)) (by decide) (fun K hK => ?_)
                                            refine goes_ Try.func80 (by kernel_rfl) rfl #[.int .u32 a0, .int .u32 a1, .string (((a2.extract 0 16) ++ t261) ++ (a2.extract 18 a2.size))] (by rfl) rfl rfl (by (try simp only [List.map_toArray, List.map_cons, List.map_nil]); first | done | rfl | (simp only [List.length_drop, List.length_take]; rfl)) ?_
                                            with_reducible refine (patchbayref3_SegSum.calls k a0 a1 (((a2.extract 0 16) ++ t261) ++ (a2.extract 18 a2.size)) t262 _ A16.out).mono ?_
                                            rintro e w42 ⟨rfl, hb⟩
                                            refine ⟨_, rfl, ?_⟩
                                            have n0_ := Aside0.mk (blk_below (g := gb259) (o := .cells #[.int .i64 0, .int .i64 0, .int .u32 0, .int .u32 0, .int .i64 0, .int .i64 0, .slice none 0 0, .string (⟨#[]⟩ : ByteArray)] 35 (0, 0)) (by (with_reducible repeat (first | refine blk_drewN ?_ _ | refine blk_drew ?_ | refine blk_alloc ?_ _)); exact BK259.out) hb)
                                            have n1_ := Aside0.mk (below_step (by repeat (first | (with_reducible first | exact HB.out | apply below_alloc | apply pw_below_drewN | apply below_drew1 | refine below_set ?_ GE259.out) | exact HB.out)) hb)
                                            clear BK259
                                            clear HB
                                            have BK259 := n0_
                                            have HB := n1_
                                            clear n0_ n1_
                                            (try clear hb)
                                            (try clear hb2)
                                            (try clear hk)
                                            (try clear hi)
                                            refine hK.out _ _ trivial (fun hHeld => ?_)
                                            clear hK K
                                            refine norm_ (a' := ?_) ?_ ?_
                                            rotate_left
                                            · show Act.put _ (some 27) _ = _
                                              simp only [Act.put, List.setIfInBounds_toArray, List.set_cons_zero, List.set_cons_succ, i64_w, i32_w]
                                              rfl
                                            refine pure_ (i := 13) (N := some 28) (v := ?_) (a' := ?_) #[true, true, true, true, true, true, true, true, true, true, true, true, true, true] rfl rfl (any_of HT_.out (by kernel_rfl)) (fun _ _ _ h => h) (Or.inl ⟨by rfl, ?_⟩) ?_ ?_
                                            rotate_left
                                            · intro w'
                                              go_simp
                                              with_reducible rfl
                                            rotate_left
                                            · simp only [Act.put, List.setIfInBounds_toArray, List.set_cons_zero, List.set_cons_succ, i64_w, i32_w]
                                              rfl
                                            refine done_ (done_of HT_.out (by kernel_rfl)) ?_
                                            try go_wp2
                                            have n0_ := Aside0.mk (blk_drew BK259.out)
                                            have n1_ := Aside0.mk (below_drew1 HB.out)
                                            clear BK259
                                            clear HB
                                            have BK259 := n0_
                                            have HB := n1_
                                            clear n0_ n1_
                                            refine start_ (n := 23) (S := fun w' => True) (ds := []) #[false, false, false, false, false, false, false, false, false, false, false, false, false, false, false, false, false, false, false, false, false, false, false] (by kernel_rfl) rfl rfl trivial (fun hHeld => ?_); refine with_tabW patchbayref3_SegOf.tab5 patchbayref3_SegOf.bits5 (fun HT_ HW_ => ?_)
                                            generalize w42.drew = w43 at BK259 HB hHeld ⊢
                                            refine pure_ (i := 0) (N := some 30) (v := ?_) (a' := ?_) #[true, false, false, false, false, false, false, false, false, false, false, false, false, false, false, false, false, false, false, false, false, false, false] rfl rfl (any_of HT_.out (by kernel_rfl)) (fun _ _ _ h => h) (Or.inl ⟨by rfl, ?_⟩) ?_ ?_
                                            rotate_left
                                            · intro w'
                                              go_simp
                                              with_reducible rfl
                                            rotate_left
                                            · simp only [Act.put, List.setIfInBounds_toArray, List.set_cons_zero, List.set_cons_succ, i64_w, i32_w]
                                              rfl
                                            refine pure_ (i := 1) (N := some 31) (v := ?_) (a' := ?_) #[true, true, false, false, false, false, false, false, false, false, false, false, false, false, false, false, false, false, false, false, false, false, false] rfl rfl (any_of HT_.out (by kernel_rfl)) (fun _ _ _ h => h) (Or.inl ⟨by rfl, ?_⟩) ?_ ?_
                                            rotate_left
                                            · intro w'
                                              go_simp
                                              with_reducible rfl
                                            rotate_left
                                            · simp only [Act.put, List.setIfInBounds_toArray, List.set_cons_zero, List.set_cons_succ, i64_w, i32_w]
                                              rfl
                                            refine pure_ (i := 3) (N := some 33) (v := ?_) (a' := ?_) #[true, true, false, true, false, false, false, false, false, false, false, false, false, false, false, false, false, false, false, false, false, false, false] rfl rfl (any_of HT_.out (by kernel_rfl)) (fun _ _ _ h => h) (Or.inl ⟨by rfl, ?_⟩) ?_ ?_
                                            rotate_left
                                            · intro w'
                                              go_simp
                                              with_reducible rfl
                                            rotate_left
                                            · simp only [Act.put, List.setIfInBounds_toArray, List.set_cons_zero, List.set_cons_succ, i64_w, i32_w]
                                              rfl
                                            refine pure_ (i := 4) (N := some 34) (v := ?_) (a' := ?_) #[true, true, false, true, true, false, false, false, false, false, false, false, false, false, false, false, false, false, false, false, false, false, false] rfl rfl (any_of HT_.out (by kernel_rfl)) (fun _ _ _ h => h) (Or.inl ⟨by rfl, ?_⟩) ?_ ?_
                                            rotate_left
                                            · intro w'
                                              go_simp
                                              with_reducible rfl
                                            rotate_left
                                            · simp only [Act.put, List.setIfInBounds_toArray, List.set_cons_zero, List.set_cons_succ, i64_w, i32_w]
                                              rfl
                                            refine pure_ (i := 6) (N := some 36) (v := ?_) (a' := ?_) #[true, true, false, true, true, false, true, false, false, false, false, false, false, false, false, false, false, false, false, false, false, false, false] rfl rfl (any_of HT_.out (by kernel_rfl)) (fun _ _ _ h => h) (Or.inl ⟨by rfl, ?_⟩) ?_ ?_
                                            rotate_left
                                            · intro w'
                                              go_simp
                                              with_reducible rfl
                                            rotate_left
                                            · simp only [Act.put, List.setIfInBounds_toArray, List.set_cons_zero, List.set_cons_succ, i64_w, i32_w]
                                              rfl
                                            refine pure_ (i := 7) (N := some 37) (v := ?_) (a' := ?_) #[true, true, false, true, true, false, true, true, false, false, false, false, false, false, false, false, false, false, false, false, false, false, false] rfl rfl (any_of HT_.out (by kernel_rfl)) (fun _ _ _ h => h) (Or.inl ⟨by rfl, ?_⟩) ?_ ?_
                                            rotate_left
                                            · intro w'
                                              go_simp
                                              with_reducible rfl
                                            rotate_left
                                            · simp only [Act.put, List.setIfInBounds_toArray, List.set_cons_zero, List.set_cons_succ, i64_w, i32_w]
                                              rfl
                                            refine pure_ (i := 10) (N := some 40) (v := ?_) (a' := ?_) #[true, true, false, true, true, false, true, true, false, false, true, false, false, false, false, false, false, false, false, false, false, false, false] rfl rfl (any_of HT_.out (by kernel_rfl)) (fun _ _ _ h => h) (Or.inl ⟨by rfl, ?_⟩) ?_ ?_
                                            rotate_left
                                            · intro w'
                                              go_simp
                                              with_reducible rfl
                                            rotate_left
                                            · simp only [Act.put, List.setIfInBounds_toArray, List.set_cons_zero, List.set_cons_succ, i64_w, i32_w]
                                              rfl
                                            refine pure_ (i := 11) (N := some 41) (v := ?_) (a' := ?_) #[true, true, false, true, true, false, true, true, false, false, true, true, false, false, false, false, false, false, false, false, false, false, false] rfl rfl (any_of HT_.out (by kernel_rfl)) (fun _ _ _ h => h) (Or.inl ⟨by rfl, ?_⟩) ?_ ?_
                                            rotate_left
                                            · intro w'
                                              go_simp
                                              with_reducible rfl
                                            rotate_left
                                            · simp only [Act.put, List.setIfInBounds_toArray, List.set_cons_zero, List.set_cons_succ, i64_w, i32_w]
                                              rfl
                                            refine pure_ (i := 14) (N := some 44) (v := ?_) (a' := ?_) #[true, true, false, true, true, false, true, true, false, false, true, true, false, false, true, false, false, false, false, false, false, false, false] rfl rfl (any_of HT_.out (by kernel_rfl)) (fun _ _ _ h => h) (Or.inl ⟨by rfl, ?_⟩) ?_ ?_
                                            rotate_left
                                            · intro w'
                                              go_simp
                                              with_reducible rfl
                                            rotate_left
                                            · simp only [Act.put, List.setIfInBounds_toArray, List.set_cons_zero, List.set_cons_succ, i64_w, i32_w]
                                              rfl
                                            refine pure_ (i := 15) (N := some 45) (v := ?_) (a' := ?_) #[true, true, false, true, true, false, true, true, false, false, true, true, false, false, true, true, false, false, false, false, false, false, false] rfl rfl (any_of HT_.out (by kernel_rfl)) (fun _ _ _ h => h) (Or.inl ⟨by rfl, ?_⟩) ?_ ?_
                                            rotate_left
                                            · intro w'
                                              go_simp
                                              with_reducible rfl
                                            rotate_left
                                            · simp only [Act.put, List.setIfInBounds_toArray, List.set_cons_zero, List.set_cons_succ, i64_w, i32_w]
                                              rfl
                                            refine pure_ (i := 17) (N := some 47) (v := ?_) (a' := ?_) #[true, true, false, true, true, false, true, true, false, false, true, true, false, false, true, true, false, true, false, false, false, false, false] rfl rfl (any_of HT_.out (by kernel_rfl)) (fun _ _ _ h => h) (Or.inl ⟨by rfl, ?_⟩) ?_ ?_
                                            rotate_left
                                            · intro w'
                                              go_simp
                                              with_reducible rfl
                                            rotate_left
                                            · simp only [Act.put, List.setIfInBounds_toArray, List.set_cons_zero, List.set_cons_succ, i64_w, i32_w]
                                              rfl
                                            refine pure_ (i := 18) (N := some 48) (v := ?_) (a' := ?_) #[true, true, false, true, true, false, true, true, false, false, true, true, false, false, true, true, false, true, true, false, false, false, false] rfl rfl (any_of HT_.out (by kernel_rfl)) (fun _ _ _ h => h) (Or.inl ⟨by rfl, ?_⟩) ?_ ?_
                                            rotate_left
                                            · intro w'
                                              go_simp
                                              with_reducible rfl
                                            rotate_left
                                            · simp only [Act.put, List.setIfInBounds_toArray, List.set_cons_zero, List.set_cons_succ, i64_w, i32_w]
                                              rfl
                                            refine join_ (σ := Nat) 1 #[true, true, true, true, true, true, true, true, true, true, true, true, true, true, true, true, true, true, true, true, true, true, false] (fun s_ => [(32, .int .i64 t263), (35, .int .i64 t264), (38, .int .i64 t265), (42, .int .i64 t266), (46, .int .i64 t267), (49, .int .i64 t268), (8, .pointer (some ⟨s_, 0, none⟩)), (39, .int .u32 ((t265) % 4294967296)), (43, .int .u32 ((t266) % 4294967296)), (50, .agg #[.int .i64 t263, .int .i64 t264, .int .u32 ((t265) % 4294967296), .int .u32 ((t266) % 4294967296), .int .i64 t267, .int .i64 t268, .slice none 0 0, .string (⟨#[]⟩ : ByteArray)])]) (fun s_ w' => (w'.heap[gb259]? = some (.cells #[.int .i64 0, .int .i64 0, .int .u32 0, .int .u32 0, .int .i64 0, .int .i64 0, .slice none 0 0, .string (⟨#[]⟩ : ByteArray)] 35 (0, 0))) ∧ (w'.heap[s_]? = some (.cells #[.int .i64 0, .int .i64 0, .int .u32 0, .int .u32 0, .int .i64 0, .int .i64 0, .slice none 0 0, .string (⟨#[]⟩ : ByteArray)] 35 (0, 0))) ∧ (w.heap.size ≤ s_) ∧ (w.heap.size ≤ s_) ∧ (gb259 ≠ s_) ∧ (s_ ≠ gb259) ∧ (Below w.heap.size w w')) ?_ ?_
                                            rotate_left
                                            · intro hJ2_5_8_12_16_19_21
                                              refine join_ (σ := Unit) 2 #[true, true, true, true, true, true, true, true, true, true, true, true, true, true, true, true, true, true, true, true, true, false, false] (fun s_ => [(32, .int .i64 t263), (35, .int .i64 t264), (38, .int .i64 t265), (42, .int .i64 t266), (46, .int .i64 t267), (49, .int .i64 t268), (39, .int .u32 ((t265) % 4294967296)), (43, .int .u32 ((t266) % 4294967296)), (50, .agg #[.int .i64 t263, .int .i64 t264, .int .u32 ((t265) % 4294967296), .int .u32 ((t266) % 4294967296), .int .i64 t267, .int .i64 t268, .slice none 0 0, .string (⟨#[]⟩ : ByteArray)])]) (fun s_ w' => (w'.heap[gb259]? = some (.cells #[.int .i64 0, .int .i64 0, .int .u32 0, .int .u32 0, .int .i64 0, .int .i64 0, .slice none 0 0, .string (⟨#[]⟩ : ByteArray)] 35 (0, 0))) ∧ (Below w.heap.size w w')) ?_ ?_
                                              rotate_left
                                              · intro hJ2_5_8_12_16_19
                                                refine join_ (σ := Nat) 3 #[true, true, true, true, true, true, true, true, true, true, true, true, true, true, true, true, true, true, true, false, false, true, false] (fun s_ => [(32, .int .i64 t263), (35, .int .i64 t264), (38, .int .i64 t265), (42, .int .i64 t266), (46, .int .i64 t267), (8, .pointer (some ⟨s_, 0, none⟩)), (39, .int .u32 ((t265) % 4294967296)), (43, .int .u32 ((t266) % 4294967296))]) (fun s_ w' => (w'.heap[gb259]? = some (.cells #[.int .i64 0, .int .i64 0, .int .u32 0, .int .u32 0, .int .i64 0, .int .i64 0, .slice none 0 0, .string (⟨#[]⟩ : ByteArray)] 35 (0, 0))) ∧ (w'.heap[s_]? = some (.cells #[.int .i64 0, .int .i64 0, .int .u32 0, .int .u32 0, .int .i64 0, .int .i64 0, .slice none 0 0, .string (⟨#[]⟩ : ByteArray)] 35 (0, 0))) ∧ (w.heap.size ≤ s_) ∧ (w.heap.size ≤ s_) ∧ (gb259 ≠ s_) ∧ (s_ ≠ gb259) ∧ (Below w.heap.size w w')) ?_ ?_
                                                rotate_left
                                                · intro hJ2_5_8_12_16_21
                                                  refine join_ (σ := Unit) 4 #[true, true, true, true, true, true, true, true, true, true, true, true, true, true, true, true, true, true, true, false, false, false, false] (fun s_ => [(32, .int .i64 t263), (35, .int .i64 t264), (38, .int .i64 t265), (42, .int .i64 t266), (46, .int .i64 t267), (39, .int .u32 ((t265) % 4294967296)), (43, .int .u32 ((t266) % 4294967296))]) (fun s_ w' => (w'.heap[gb259]? = some (.cells #[.int .i64 0, .int .i64 0, .int .u32 0, .int .u32 0, .int .i64 0, .int .i64 0, .slice none 0 0, .string (⟨#[]⟩ : ByteArray)] 35 (0, 0))) ∧ (Below w.heap.size w w')) ?_ ?_
                                                  rotate_left
                                                  · intro hJ2_5_8_12_16
                                                    refine join_ (σ := Nat) 4 #[true, true, true, true, true, true, true, true, true, true, true, true, true, true, true, true, false, true, true, false, false, true, false] (fun s_ => [(32, .int .i64 t263), (35, .int .i64 t264), (38, .int .i64 t265), (42, .int .i64 t266), (8, .pointer (some ⟨s_, 0, none⟩)), (39, .int .u32 ((t265) % 4294967296)), (43, .int .u32 ((t266) % 4294967296))]) (fun s_ w' => (w'.heap[gb259]? = some (.cells #[.int .i64 0, .int .i64 0, .int .u32 0, .int .u32 0, .int .i64 0, .int .i64 0, .slice none 0 0, .string (⟨#[]⟩ : ByteArray)] 35 (0, 0))) ∧ (w'.heap[s_]? = some (.cells #[.int .i64 0, .int .i64 0, .int .u32 0, .int .u32 0, .int .i64 0, .int .i64 0, .slice none 0 0, .string (⟨#[]⟩ : ByteArray)] 35 (0, 0))) ∧ (w.heap.size ≤ s_) ∧ (w.heap.size ≤ s_) ∧ (gb259 ≠ s_) ∧ (s_ ≠ gb259) ∧ (Below w.heap.size w w')) ?_ ?_
                                                    rotate_left
                                                    · intro hJ2_5_8_12_21
                                                      refine join_ (σ := Unit) 5 #[true, true, true, true, true, true, true, true, true, true, true, true, true, true, true, true, false, true, true, false, false, false, false] (fun s_ => [(32, .int .i64 t263), (35, .int .i64 t264), (38, .int .i64 t265), (42, .int .i64 t266), (39, .int .u32 ((t265) % 4294967296)), (43, .int .u32 ((t266) % 4294967296))]) (fun s_ w' => (w'.heap[gb259]? = some (.cells #[.int .i64 0, .int .i64 0, .int .u32 0, .int .u32 0, .int .i64 0, .int .i64 0, .slice none 0 0, .string (⟨#[]⟩ : ByteArray)] 35 (0, 0))) ∧ (Below w.heap.size w w')) ?_ ?_
                                                      rotate_left
                                                      · intro hJ2_5_8_12
                                                        refine join_ (σ := Nat) 6 #[true, true, true, true, true, true, true, true, true, true, true, true, false, false, true, true, false, true, true, false, false, true, false] (fun s_ => [(32, .int .i64 t263), (35, .int .i64 t264), (38, .int .i64 t265), (8, .pointer (some ⟨s_, 0, none⟩)), (39, .int .u32 ((t265) % 4294967296))]) (fun s_ w' => (w'.heap[gb259]? = some (.cells #[.int .i64 0, .int .i64 0, .int .u32 0, .int .u32 0, .int .i64 0, .int .i64 0, .slice none 0 0, .string (⟨#[]⟩ : ByteArray)] 35 (0, 0))) ∧ (w'.heap[s_]? = some (.cells #[.int .i64 0, .int .i64 0, .int .u32 0, .int .u32 0, .int .i64 0, .int .i64 0, .slice none 0 0, .string (⟨#[]⟩ : ByteArray)] 35 (0, 0))) ∧ (w.heap.size ≤ s_) ∧ (w.heap.size ≤ s_) ∧ (gb259 ≠ s_) ∧ (s_ ≠ gb259) ∧ (Below w.heap.size w w')) ?_ ?_
                                                        rotate_left
                                                        · intro hJ2_5_8_21
                                                          refine join_ (σ := Unit) 7 #[true, true, true, true, true, true, true, true, true, true, true, true, false, false, true, true, false, true, true, false, false, false, false] (fun s_ => [(32, .int .i64 t263), (35, .int .i64 t264), (38, .int .i64 t265), (39, .int .u32 ((t265) % 4294967296))]) (fun s_ w' => (w'.heap[gb259]? = some (.cells #[.int .i64 0, .int .i64 0, .int .u32 0, .int .u32 0, .int .i64 0, .int .i64 0, .slice none 0 0, .string (⟨#[]⟩ : ByteArray)] 35 (0, 0))) ∧ (Below w.heap.size w w')) ?_ ?_
                                                          rotate_left
                                                          · intro hJ2_5_8
                                                            refine join_ (σ := Nat) 8 #[true, true, true, true, true, true, true, true, false, false, true, true, false, false, true, true, false, true, true, false, false, true, false] (fun s_ => [(32, .int .i64 t263), (35, .int .i64 t264), (8, .pointer (some ⟨s_, 0, none⟩))]) (fun s_ w' => (w'.heap[gb259]? = some (.cells #[.int .i64 0, .int .i64 0, .int .u32 0, .int .u32 0, .int .i64 0, .int .i64 0, .slice none 0 0, .string (⟨#[]⟩ : ByteArray)] 35 (0, 0))) ∧ (w'.heap[s_]? = some (.cells #[.int .i64 0, .int .i64 0, .int .u32 0, .int .u32 0, .int .i64 0, .int .i64 0, .slice none 0 0, .string (⟨#[]⟩ : ByteArray)] 35 (0, 0))) ∧ (w.heap.size ≤ s_) ∧ (w.heap.size ≤ s_) ∧ (gb259 ≠ s_) ∧ (s_ ≠ gb259) ∧ (Below w.heap.size w w')) ?_ ?_
                                                            rotate_left
                                                            · intro hJ2_5_21
                                                              refine join_ (σ := Unit) 9 #[true, true, true, true, true, true, true, true, false, false, true, true, false, false, true, true, false, true, true, false, false, false, false] (fun s_ => [(32, .int .i64 t263), (35, .int .i64 t264)]) (fun s_ w' => (w'.heap[gb259]? = some (.cells #[.int .i64 0, .int .i64 0, .int .u32 0, .int .u32 0, .int .i64 0, .int .i64 0, .slice none 0 0, .string (⟨#[]⟩ : ByteArray)] 35 (0, 0))) ∧ (Below w.heap.size w w')) ?_ ?_
                                                              rotate_left
                                                              · intro hJ2_5
                                                                refine join_ (σ := Nat) 9 #[true, true, true, true, true, false, true, true, false, false, true, true, false, false, true, true, false, true, true, false, false, true, false] (fun s_ => [(32, .int .i64 t263), (8, .pointer (some ⟨s_, 0, none⟩))]) (fun s_ w' => (w'.heap[gb259]? = some (.cells #[.int .i64 0, .int .i64 0, .int .u32 0, .int .u32 0, .int .i64 0, .int .i64 0, .slice none 0 0, .string (⟨#[]⟩ : ByteArray)] 35 (0, 0))) ∧ (w'.heap[s_]? = some (.cells #[.int .i64 0, .int .i64 0, .int .u32 0, .int .u32 0, .int .i64 0, .int .i64 0, .slice none 0 0, .string (⟨#[]⟩ : ByteArray)] 35 (0, 0))) ∧ (w.heap.size ≤ s_) ∧ (w.heap.size ≤ s_) ∧ (gb259 ≠ s_) ∧ (s_ ≠ gb259) ∧ (Below w.heap.size w w')) ?_ ?_
                                                                rotate_left
                                                                · intro hJ2_21
                                                                  refine join_ (σ := Unit) 10 #[true, true, true, true, true, false, true, true, false, false, true, true, false, false, true, true, false, true, true, false, false, false, false] (fun s_ => [(32, .int .i64 t263)]) (fun s_ w' => (w'.heap[gb259]? = some (.cells #[.int .i64 0, .int .i64 0, .int .u32 0, .int .u32 0, .int .i64 0, .int .i64 0, .slice none 0 0, .string (⟨#[]⟩ : ByteArray)] 35 (0, 0))) ∧ (Below w.heap.size w w')) ?_ ?_
                                                                  rotate_left
                                                                  · intro hJ2
                                                                    refine join_ (σ := Nat) 10 #[true, true, false, true, true, false, true, true, false, false, true, true, false, false, true, true, false, true, true, false, false, true, false] (fun s_ => [(8, .pointer (some ⟨s_, 0, none⟩))]) (fun s_ w' => (w'.heap[gb259]? = some (.cells #[.int .i64 0, .int .i64 0, .int .u32 0, .int .u32 0, .int .i64 0, .int .i64 0, .slice none 0 0, .string (⟨#[]⟩ : ByteArray)] 35 (0, 0))) ∧ (w'.heap[s_]? = some (.cells #[.int .i64 0, .int .i64 0, .int .u32 0, .int .u32 0, .int .i64 0, .int .i64 0, .slice none 0 0, .string (⟨#[]⟩ : ByteArray)] 35 (0, 0))) ∧ (w.heap.size ≤ s_) ∧ (w.heap.size ≤ s_) ∧ (gb259 ≠ s_) ∧ (s_ ≠ gb259) ∧ (Below w.heap.size w w')) ?_ ?_
                                                                    rotate_left
                                                                    · intro hJ21
                                                                      refine two_ (i := 2) (j := 21) (Ni := some 32) (Nj := some 8) #[true, true, true, true, true, false, true, true, false, false, true, true, false, false, true, true, false, true, true, false, false, false, false] #[true, true, false, true, true, false, true, true, false, false, true, true, false, false, true, true, false, true, true, false, false, true, false] rfl rfl rfl rfl (two_of HT_.out (by kernel_rfl)) (by decide) (by decide) (fun K hK => ?_) (fun K hK => ?_)
                                                                      · skip
                                                                        refine goes_ Try.func85 (by kernel_rfl) rfl #[.string (a2.extract 0 2)] (by rfl) rfl rfl (by (try simp only [List.map_toArray, List.map_cons, List.map_nil]); first | done | rfl | (simp only [List.length_drop, List.length_take]; rfl)) ?_
                                                                        with_reducible refine (patchbayref3_Read.calls k (a2.extract 0 2) t263 _ A20.out).mono ?_
                                                                        rintro e w' ⟨rfl, ⟨nd, rfl⟩⟩
                                                                        refine ⟨_, rfl, ?_⟩
                                                                        refine hK.out _ _ trivial (fun hHeld => ?_)
                                                                        clear hK K
                                                                        refine norm_ (a' := ?_) ?_ ?_
                                                                        rotate_left
                                                                        · show Act.put _ (some 32) _ = _
                                                                          simp only [Act.put, List.setIfInBounds_toArray, List.set_cons_zero, List.set_cons_succ, i64_w, i32_w]
                                                                          rfl
                                                                        exact norm_ (by first | (simp only [putAll, Act.put, List.setIfInBounds_toArray, List.set_cons_zero, List.set_cons_succ]; done) | (simp only [putAll, Act.put, List.setIfInBounds_toArray, List.set_cons_zero, List.set_cons_succ]; rfl)) (hJ2 () _ ⟨(by (with_reducible repeat (first | refine blk_drewN ?_ _ | refine blk_drew ?_ | refine blk_alloc ?_ _)); exact BK259.out), (by repeat (first | (with_reducible first | exact HB.out | apply below_alloc | apply pw_below_drewN | apply below_drew1 | refine below_set ?_ GE259.out) | exact HB.out))⟩)
                                                                      · skip
                                                                        refine box_step ?hg (N := 8) ?hd (cs := #[.int .i64 0, .int .i64 0, .int .u32 0, .int .u32 0, .int .i64 0, .int .i64 0, .slice none 0 0, .string (⟨#[]⟩ : ByteArray)]) (t := 35) ?hr ?_; (case hd => rfl); (case hg => rfl); (case hr => first | (go_simp; done) | (go_simp; rfl))
                                                                        intro gb269 hg w44 hbox hb
                                                                        have n0_ := Aside0.mk (blk_below (g := gb259) (o := .cells #[.int .i64 0, .int .i64 0, .int .u32 0, .int .u32 0, .int .i64 0, .int .i64 0, .slice none 0 0, .string (⟨#[]⟩ : ByteArray)] 35 (0, 0)) (by (with_reducible repeat (first | refine blk_drewN ?_ _ | refine blk_drew ?_ | refine blk_alloc ?_ _)); exact BK259.out) hb)
                                                                        have n1_ := Aside0.mk (below_step (by repeat (first | (with_reducible first | exact HB.out | apply below_alloc | apply pw_below_drewN | apply below_drew1 | refine below_set ?_ GE259.out) | exact HB.out)) hb)
                                                                        have n2_ := Aside0.mk (hbox)
                                                                        have n3_ := Aside0.mk ((by rw [hg]; exact (below_size (by repeat (first | (with_reducible first | exact HB.out | apply below_alloc | apply pw_below_drewN | apply below_drew1 | refine below_set ?_ GE259.out) | exact HB.out))) : w.heap.size ≤ gb269))
                                                                        have n4_ := Aside0.mk ((by rw [hg]; exact (below_size (by repeat (first | (with_reducible first | exact HB.out | apply below_alloc | apply pw_below_drewN | apply below_drew1 | refine below_set ?_ GE259.out) | exact HB.out))) : w.heap.size ≤ gb269))
                                                                        have n5_ := Aside0.mk ((by rw [hg]; exact Nat.ne_of_lt (blk_lt (g := gb259) (o := .cells #[.int .i64 0, .int .i64 0, .int .u32 0, .int .u32 0, .int .i64 0, .int .i64 0, .slice none 0 0, .string (⟨#[]⟩ : ByteArray)] 35 (0, 0)) (by (with_reducible repeat (first | refine blk_drewN ?_ _ | refine blk_drew ?_ | refine blk_alloc ?_ _)); exact BK259.out)) : gb259 ≠ gb269))
                                                                        have n6_ := Aside0.mk ((by rw [hg]; exact Nat.ne_of_gt (blk_lt (g := gb259) (o := .cells #[.int .i64 0, .int .i64 0, .int .u32 0, .int .u32 0, .int .i64 0, .int .i64 0, .slice none 0 0, .string (⟨#[]⟩ : ByteArray)] 35 (0, 0)) (by (with_reducible repeat (first | refine blk_drewN ?_ _ | refine blk_drew ?_ | refine blk_alloc ?_ _)); exact BK259.out)) : gb269 ≠ gb259))
                                                                        clear BK259
                                                                        clear HB
                                                                        have BK259 := n0_
                                                                        have HB := n1_
                                                                        have BK269 := n2_
                                                                        have GW269 := n3_
                                                                        have GE269 := n4_
                                                                        have NB259_269 := n5_
                                                                        have NB269_259 := n6_
                                                                        clear n0_ n1_ n2_ n3_ n4_ n5_ n6_
                                                                        clear hb hbox hg
                                                                        refine hK.out _ _ trivial (fun hHeld => ?_)
                                                                        clear hK K
                                                                        refine norm_ (a' := ?_) ?_ ?_
                                                                        rotate_left
                                                                        · show Act.put _ (some 8) _ = _
                                                                          simp only [Act.put, List.setIfInBounds_toArray, List.set_cons_zero, List.set_cons_succ, i64_w, i32_w]
                                                                          rfl
                                                                        exact norm_ (by first | (simp only [putAll, Act.put, List.setIfInBounds_toArray, List.set_cons_zero, List.set_cons_succ]; done) | (simp only [putAll, Act.put, List.setIfInBounds_toArray, List.set_cons_zero, List.set_cons_succ]; rfl)) (hJ21 (gb269) _ ⟨(by (with_reducible repeat (first | refine blk_drewN ?_ _ | refine blk_drew ?_ | refine blk_alloc ?_ _)); exact BK259.out), (by (with_reducible repeat (first | refine blk_drewN ?_ _ | refine blk_drew ?_ | refine blk_alloc ?_ _)); exact BK269.out), GW269.out, GE269.out, NB259_269.out, NB269_259.out, (by repeat (first | (with_reducible first | exact HB.out | apply below_alloc | apply pw_below_drewN | apply below_drew1 | refine below_set ?_ GE259.out | refine below_set ?_ GE269.out) | exact HB.out))⟩)
                                                                    · skip
                                                                      rintro gb269 w45 ⟨h0_, h1_, h2_, h3_, h4_, h5_, h6_⟩
                                                                      have n0_ : Aside0 (w45.heap[gb259]? = some (.cells #[.int .i64 0, .int .i64 0, .int .u32 0, .int .u32 0, .int .i64 0, .int .i64 0, .slice none 0 0, .string (⟨#[]⟩ : ByteArray)] 35 (0, 0))) := ⟨h0_⟩
                                                                      have n1_ : Aside0 (w45.heap[gb269]? = some (.cells #[.int .i64 0, .int .i64 0, .int .u32 0, .int .u32 0, .int .i64 0, .int .i64 0, .slice none 0 0, .string (⟨#[]⟩ : ByteArray)] 35 (0, 0))) := ⟨h1_⟩
                                                                      have n2_ : Aside0 (w.heap.size ≤ gb269) := ⟨h2_⟩
                                                                      have n3_ : Aside0 (w.heap.size ≤ gb269) := ⟨h3_⟩
                                                                      have n4_ : Aside0 (gb259 ≠ gb269) := ⟨h4_⟩
                                                                      have n5_ : Aside0 (gb269 ≠ gb259) := ⟨h5_⟩
                                                                      have n6_ : Aside0 (Below w.heap.size w w45) := ⟨h6_⟩
                                                                      clear BK259
                                                                      clear HB
                                                                      clear h0_ h1_ h2_ h3_ h4_ h5_ h6_
                                                                      have BK259 := n0_
                                                                      have BK269 := n1_
                                                                      have GW269 := n2_
                                                                      have GE269 := n3_
                                                                      have NB259_269 := n4_
                                                                      have NB269_259 := n5_
                                                                      have HB := n6_
                                                                      clear n0_ n1_ n2_ n3_ n4_ n5_ n6_
                                                                      have hHeld := trivial
                                                                      refine norm_ (a' := ?_) ?_ ?_
                                                                      rotate_left
                                                                      · simp only [putAll, Act.put, List.setIfInBounds_toArray, List.set_cons_zero, List.set_cons_succ]
                                                                        rfl
                                                                      refine one_ (i := 2) (N := some 32) #[true, true, true, true, true, false, true, true, false, false, true, true, false, false, true, true, false, true, true, false, false, true, false] rfl rfl (one_of HT_.out (by kernel_rfl)) (by decide) (fun K hK => ?_)
                                                                      refine goes_ Try.func85 (by kernel_rfl) rfl #[.string (a2.extract 0 2)] (by rfl) rfl rfl (by (try simp only [List.map_toArray, List.map_cons, List.map_nil]); first | done | rfl | (simp only [List.length_drop, List.length_take]; rfl)) ?_
                                                                      with_reducible refine (patchbayref3_Read.calls k (a2.extract 0 2) t263 _ A20.out).mono ?_
                                                                      rintro e w' ⟨rfl, ⟨nd, rfl⟩⟩
                                                                      refine ⟨_, rfl, ?_⟩
                                                                      refine hK.out _ _ trivial (fun hHeld => ?_)
                                                                      clear hK K
                                                                      refine norm_ (a' := ?_) ?_ ?_
                                                                      rotate_left
                                                                      · show Act.put _ (some 32) _ = _
                                                                        simp only [Act.put, List.setIfInBounds_toArray, List.set_cons_zero, List.set_cons_succ, i64_w, i32_w]
                                                                        rfl
                                                                      exact norm_ (by first | (simp only [putAll, Act.put, List.setIfInBounds_toArray, List.set_cons_zero, List.set_cons_succ]; done) | (simp only [putAll, Act.put, List.setIfInBounds_toArray, List.set_cons_zero, List.set_cons_succ]; rfl)) (hJ2_21 (gb269) _ ⟨(by (with_reducible repeat (first | refine blk_drewN ?_ _ | refine blk_drew ?_ | refine blk_alloc ?_ _)); exact BK259.out), (by (with_reducible repeat (first | refine blk_drewN ?_ _ | refine blk_drew ?_ | refine blk_alloc ?_ _)); exact BK269.out), GW269.out, GE269.out, NB259_269.out, NB269_259.out, (by repeat (first | (with_reducible first | exact HB.out | apply below_alloc | apply pw_below_drewN | apply below_drew1 | refine below_set ?_ GE259.out | refine below_set ?_ GE269.out) | exact HB.out))⟩)
                                                                  · skip
                                                                    rintro _ w44 ⟨h0_, h1_⟩
                                                                    have n0_ : Aside0 (w44.heap[gb259]? = some (.cells #[.int .i64 0, .int .i64 0, .int .u32 0, .int .u32 0, .int .i64 0, .int .i64 0, .slice none 0 0, .string (⟨#[]⟩ : ByteArray)] 35 (0, 0))) := ⟨h0_⟩
                                                                    have n1_ : Aside0 (Below w.heap.size w w44) := ⟨h1_⟩
                                                                    clear BK259
                                                                    clear HB
                                                                    clear h0_ h1_
                                                                    have BK259 := n0_
                                                                    have HB := n1_
                                                                    clear n0_ n1_
                                                                    have hHeld := trivial
                                                                    refine norm_ (a' := ?_) ?_ ?_
                                                                    rotate_left
                                                                    · simp only [putAll, Act.put, List.setIfInBounds_toArray, List.set_cons_zero, List.set_cons_succ]
                                                                      rfl
                                                                    refine two_ (i := 5) (j := 21) (Ni := some 35) (Nj := some 8) #[true, true, true, true, true, true, true, true, false, false, true, true, false, false, true, true, false, true, true, false, false, false, false] #[true, true, true, true, true, false, true, true, false, false, true, true, false, false, true, true, false, true, true, false, false, true, false] rfl rfl rfl rfl (two_of HT_.out (by kernel_rfl)) (by decide) (by decide) (fun K hK => ?_) (fun K hK => ?_)
                                                                    · skip
                                                                      refine goes_ Try.func85 (by kernel_rfl) rfl #[.string (a2.extract 2 4)] (by rfl) rfl rfl (by (try simp only [List.map_toArray, List.map_cons, List.map_nil]); first | done | rfl | (simp only [List.length_drop, List.length_take]; rfl)) ?_
                                                                      with_reducible refine (patchbayref3_Read.calls k (a2.extract 2 4) t264 _ A23.out).mono ?_
                                                                      rintro e w' ⟨rfl, ⟨nd, rfl⟩⟩
                                                                      refine ⟨_, rfl, ?_⟩
                                                                      refine hK.out _ _ trivial (fun hHeld => ?_)
                                                                      clear hK K
                                                                      refine norm_ (a' := ?_) ?_ ?_
                                                                      rotate_left
                                                                      · show Act.put _ (some 35) _ = _
                                                                        simp only [Act.put, List.setIfInBounds_toArray, List.set_cons_zero, List.set_cons_succ, i64_w, i32_w]
                                                                        rfl
                                                                      exact norm_ (by first | (simp only [putAll, Act.put, List.setIfInBounds_toArray, List.set_cons_zero, List.set_cons_succ]; done) | (simp only [putAll, Act.put, List.setIfInBounds_toArray, List.set_cons_zero, List.set_cons_succ]; rfl)) (hJ2_5 () _ ⟨(by (with_reducible repeat (first | refine blk_drewN ?_ _ | refine blk_drew ?_ | refine blk_alloc ?_ _)); exact BK259.out), (by repeat (first | (with_reducible first | exact HB.out | apply below_alloc | apply pw_below_drewN | apply below_drew1 | refine below_set ?_ GE259.out) | exact HB.out))⟩)
                                                                    · skip
                                                                      refine box_step ?hg (N := 8) ?hd (cs := #[.int .i64 0, .int .i64 0, .int .u32 0, .int .u32 0, .int .i64 0, .int .i64 0, .slice none 0 0, .string (⟨#[]⟩ : ByteArray)]) (t := 35) ?hr ?_; (case hd => rfl); (case hg => rfl); (case hr => first | (go_simp; done) | (go_simp; rfl))
                                                                      intro gb269 hg w45 hbox hb
                                                                      have n0_ := Aside0.mk (blk_below (g := gb259) (o := .cells #[.int .i64 0, .int .i64 0, .int .u32 0, .int .u32 0, .int .i64 0, .int .i64 0, .slice none 0 0, .string (⟨#[]⟩ : ByteArray)] 35 (0, 0)) (by (with_reducible repeat (first | refine blk_drewN ?_ _ | refine blk_drew ?_ | refine blk_alloc ?_ _)); exact BK259.out) hb)
                                                                      have n1_ := Aside0.mk (below_step (by repeat (first | (with_reducible first | exact HB.out | apply below_alloc | apply pw_below_drewN | apply below_drew1 | refine below_set ?_ GE259.out) | exact HB.out)) hb)
                                                                      have n2_ := Aside0.mk (hbox)
                                                                      have n3_ := Aside0.mk ((by rw [hg]; exact (below_size (by repeat (first | (with_reducible first | exact HB.out | apply below_alloc | apply pw_below_drewN | apply below_drew1 | refine below_set ?_ GE259.out) | exact HB.out))) : w.heap.size ≤ gb269))
                                                                      have n4_ := Aside0.mk ((by rw [hg]; exact (below_size (by repeat (first | (with_reducible first | exact HB.out | apply below_alloc | apply pw_below_drewN | apply below_drew1 | refine below_set ?_ GE259.out) | exact HB.out))) : w.heap.size ≤ gb269))
                                                                      have n5_ := Aside0.mk ((by rw [hg]; exact Nat.ne_of_lt (blk_lt (g := gb259) (o := .cells #[.int .i64 0, .int .i64 0, .int .u32 0, .int .u32 0, .int .i64 0, .int .i64 0, .slice none 0 0, .string (⟨#[]⟩ : ByteArray)] 35 (0, 0)) (by (with_reducible repeat (first | refine blk_drewN ?_ _ | refine blk_drew ?_ | refine blk_alloc ?_ _)); exact BK259.out)) : gb259 ≠ gb269))
                                                                      have n6_ := Aside0.mk ((by rw [hg]; exact Nat.ne_of_gt (blk_lt (g := gb259) (o := .cells #[.int .i64 0, .int .i64 0, .int .u32 0, .int .u32 0, .int .i64 0, .int .i64 0, .slice none 0 0, .string (⟨#[]⟩ : ByteArray)] 35 (0, 0)) (by (with_reducible repeat (first | refine blk_drewN ?_ _ | refine blk_drew ?_ | refine blk_alloc ?_ _)); exact BK259.out)) : gb269 ≠ gb259))
                                                                      clear BK259
                                                                      clear HB
                                                                      have BK259 := n0_
                                                                      have HB := n1_
                                                                      have BK269 := n2_
                                                                      have GW269 := n3_
                                                                      have GE269 := n4_
                                                                      have NB259_269 := n5_
                                                                      have NB269_259 := n6_
                                                                      clear n0_ n1_ n2_ n3_ n4_ n5_ n6_
                                                                      clear hb hbox hg
                                                                      refine hK.out _ _ trivial (fun hHeld => ?_)
                                                                      clear hK K
                                                                      refine norm_ (a' := ?_) ?_ ?_
                                                                      rotate_left
                                                                      · show Act.put _ (some 8) _ = _
                                                                        simp only [Act.put, List.setIfInBounds_toArray, List.set_cons_zero, List.set_cons_succ, i64_w, i32_w]
                                                                        rfl
                                                                      exact norm_ (by first | (simp only [putAll, Act.put, List.setIfInBounds_toArray, List.set_cons_zero, List.set_cons_succ]; done) | (simp only [putAll, Act.put, List.setIfInBounds_toArray, List.set_cons_zero, List.set_cons_succ]; rfl)) (hJ2_21 (gb269) _ ⟨(by (with_reducible repeat (first | refine blk_drewN ?_ _ | refine blk_drew ?_ | refine blk_alloc ?_ _)); exact BK259.out), (by (with_reducible repeat (first | refine blk_drewN ?_ _ | refine blk_drew ?_ | refine blk_alloc ?_ _)); exact BK269.out), GW269.out, GE269.out, NB259_269.out, NB269_259.out, (by repeat (first | (with_reducible first | exact HB.out | apply below_alloc | apply pw_below_drewN | apply below_drew1 | refine below_set ?_ GE259.out | refine below_set ?_ GE269.out) | exact HB.out))⟩)
                                                                · skip
                                                                  rintro gb269 w45 ⟨h0_, h1_, h2_, h3_, h4_, h5_, h6_⟩
                                                                  have n0_ : Aside0 (w45.heap[gb259]? = some (.cells #[.int .i64 0, .int .i64 0, .int .u32 0, .int .u32 0, .int .i64 0, .int .i64 0, .slice none 0 0, .string (⟨#[]⟩ : ByteArray)] 35 (0, 0))) := ⟨h0_⟩
                                                                  have n1_ : Aside0 (w45.heap[gb269]? = some (.cells #[.int .i64 0, .int .i64 0, .int .u32 0, .int .u32 0, .int .i64 0, .int .i64 0, .slice none 0 0, .string (⟨#[]⟩ : ByteArray)] 35 (0, 0))) := ⟨h1_⟩
                                                                  have n2_ : Aside0 (w.heap.size ≤ gb269) := ⟨h2_⟩
                                                                  have n3_ : Aside0 (w.heap.size ≤ gb269) := ⟨h3_⟩
                                                                  have n4_ : Aside0 (gb259 ≠ gb269) := ⟨h4_⟩
                                                                  have n5_ : Aside0 (gb269 ≠ gb259) := ⟨h5_⟩
                                                                  have n6_ : Aside0 (Below w.heap.size w w45) := ⟨h6_⟩
                                                                  clear BK259
                                                                  clear HB
                                                                  clear h0_ h1_ h2_ h3_ h4_ h5_ h6_
                                                                  have BK259 := n0_
                                                                  have BK269 := n1_
                                                                  have GW269 := n2_
                                                                  have GE269 := n3_
                                                                  have NB259_269 := n4_
                                                                  have NB269_259 := n5_
                                                                  have HB := n6_
                                                                  clear n0_ n1_ n2_ n3_ n4_ n5_ n6_
                                                                  have hHeld := trivial
                                                                  refine norm_ (a' := ?_) ?_ ?_
                                                                  rotate_left
                                                                  · simp only [putAll, Act.put, List.setIfInBounds_toArray, List.set_cons_zero, List.set_cons_succ]
                                                                    rfl
                                                                  refine one_ (i := 5) (N := some 35) #[true, true, true, true, true, true, true, true, false, false, true, true, false, false, true, true, false, true, true, false, false, true, false] rfl rfl (one_of HT_.out (by kernel_rfl)) (by decide) (fun K hK => ?_)
                                                                  refine goes_ Try.func85 (by kernel_rfl) rfl #[.string (a2.extract 2 4)] (by rfl) rfl rfl (by (try simp only [List.map_toArray, List.map_cons, List.map_nil]); first | done | rfl | (simp only [List.length_drop, List.length_take]; rfl)) ?_
                                                                  with_reducible refine (patchbayref3_Read.calls k (a2.extract 2 4) t264 _ A23.out).mono ?_
                                                                  rintro e w' ⟨rfl, ⟨nd, rfl⟩⟩
                                                                  refine ⟨_, rfl, ?_⟩
                                                                  refine hK.out _ _ trivial (fun hHeld => ?_)
                                                                  clear hK K
                                                                  refine norm_ (a' := ?_) ?_ ?_
                                                                  rotate_left
                                                                  · show Act.put _ (some 35) _ = _
                                                                    simp only [Act.put, List.setIfInBounds_toArray, List.set_cons_zero, List.set_cons_succ, i64_w, i32_w]
                                                                    rfl
                                                                  exact norm_ (by first | (simp only [putAll, Act.put, List.setIfInBounds_toArray, List.set_cons_zero, List.set_cons_succ]; done) | (simp only [putAll, Act.put, List.setIfInBounds_toArray, List.set_cons_zero, List.set_cons_succ]; rfl)) (hJ2_5_21 (gb269) _ ⟨(by (with_reducible repeat (first | refine blk_drewN ?_ _ | refine blk_drew ?_ | refine blk_alloc ?_ _)); exact BK259.out), (by (with_reducible repeat (first | refine blk_drewN ?_ _ | refine blk_drew ?_ | refine blk_alloc ?_ _)); exact BK269.out), GW269.out, GE269.out, NB259_269.out, NB269_259.out, (by repeat (first | (with_reducible first | exact HB.out | apply below_alloc | apply pw_below_drewN | apply below_drew1 | refine below_set ?_ GE259.out | refine below_set ?_ GE269.out) | exact HB.out))⟩)
                                                              · skip
                                                                rintro _ w44 ⟨h0_, h1_⟩
                                                                have n0_ : Aside0 (w44.heap[gb259]? = some (.cells #[.int .i64 0, .int .i64 0, .int .u32 0, .int .u32 0, .int .i64 0, .int .i64 0, .slice none 0 0, .string (⟨#[]⟩ : ByteArray)] 35 (0, 0))) := ⟨h0_⟩
                                                                have n1_ : Aside0 (Below w.heap.size w w44) := ⟨h1_⟩
                                                                clear BK259
                                                                clear HB
                                                                clear h0_ h1_
                                                                have BK259 := n0_
                                                                have HB := n1_
                                                                clear n0_ n1_
                                                                have hHeld := trivial
                                                                refine norm_ (a' := ?_) ?_ ?_
                                                                rotate_left
                                                                · simp only [putAll, Act.put, List.setIfInBounds_toArray, List.set_cons_zero, List.set_cons_succ]
                                                                  rfl
                                                                refine two_ (i := 8) (j := 21) (Ni := some 38) (Nj := some 8) #[true, true, true, true, true, true, true, true, true, false, true, true, false, false, true, true, false, true, true, false, false, false, false] #[true, true, true, true, true, true, true, true, false, false, true, true, false, false, true, true, false, true, true, false, false, true, false] rfl rfl rfl rfl (two_of HT_.out (by kernel_rfl)) (by decide) (by decide) (fun K hK => ?_) (fun K hK => ?_)
                                                                · skip
                                                                  refine goes_ Try.func85 (by kernel_rfl) rfl #[.string (a2.extract 4 8)] (by rfl) rfl rfl (by (try simp only [List.map_toArray, List.map_cons, List.map_nil]); first | done | rfl | (simp only [List.length_drop, List.length_take]; rfl)) ?_
                                                                  with_reducible refine (patchbayref3_Read.calls k (a2.extract 4 8) t265 _ A26.out).mono ?_
                                                                  rintro e w' ⟨rfl, ⟨nd, rfl⟩⟩
                                                                  refine ⟨_, rfl, ?_⟩
                                                                  refine hK.out _ _ trivial (fun hHeld => ?_)
                                                                  clear hK K
                                                                  refine norm_ (a' := ?_) ?_ ?_
                                                                  rotate_left
                                                                  · show Act.put _ (some 38) _ = _
                                                                    simp only [Act.put, List.setIfInBounds_toArray, List.set_cons_zero, List.set_cons_succ, i64_w, i32_w]
                                                                    rfl
                                                                  refine pure_ (i := 9) (N := some 39) (v := ?_) (a' := ?_) #[true, true, true, true, true, true, true, true, true, true, true, true, false, false, true, true, false, true, true, false, false, false, false] rfl rfl (any_of HT_.out (by kernel_rfl)) (fun _ _ _ h => h) (Or.inl ⟨by rfl, ?_⟩) ?_ ?_
                                                                  rotate_left
                                                                  · intro w'
                                                                    go_simp
                                                                    with_reducible rfl
                                                                  rotate_left
                                                                  · simp only [Act.put, List.setIfInBounds_toArray, List.set_cons_zero, List.set_cons_succ, i64_w, i32_w]
                                                                    rfl
                                                                  exact norm_ (by first | (simp only [putAll, Act.put, List.setIfInBounds_toArray, List.set_cons_zero, List.set_cons_succ]; done) | (simp only [putAll, Act.put, List.setIfInBounds_toArray, List.set_cons_zero, List.set_cons_succ]; rfl)) (hJ2_5_8 () _ ⟨(by (with_reducible repeat (first | refine blk_drewN ?_ _ | refine blk_drew ?_ | refine blk_alloc ?_ _)); exact BK259.out), (by repeat (first | (with_reducible first | exact HB.out | apply below_alloc | apply pw_below_drewN | apply below_drew1 | refine below_set ?_ GE259.out) | exact HB.out))⟩)
                                                                · skip
                                                                  refine box_step ?hg (N := 8) ?hd (cs := #[.int .i64 0, .int .i64 0, .int .u32 0, .int .u32 0, .int .i64 0, .int .i64 0, .slice none 0 0, .string (⟨#[]⟩ : ByteArray)]) (t := 35) ?hr ?_; (case hd => rfl); (case hg => rfl); (case hr => first | (go_simp; done) | (go_simp; rfl))
                                                                  intro gb269 hg w45 hbox hb
                                                                  have n0_ := Aside0.mk (blk_below (g := gb259) (o := .cells #[.int .i64 0, .int .i64 0, .int .u32 0, .int .u32 0, .int .i64 0, .int .i64 0, .slice none 0 0, .string (⟨#[]⟩ : ByteArray)] 35 (0, 0)) (by (with_reducible repeat (first | refine blk_drewN ?_ _ | refine blk_drew ?_ | refine blk_alloc ?_ _)); exact BK259.out) hb)
                                                                  have n1_ := Aside0.mk (below_step (by repeat (first | (with_reducible first | exact HB.out | apply below_alloc | apply pw_below_drewN | apply below_drew1 | refine below_set ?_ GE259.out) | exact HB.out)) hb)
                                                                  have n2_ := Aside0.mk (hbox)
                                                                  have n3_ := Aside0.mk ((by rw [hg]; exact (below_size (by repeat (first | (with_reducible first | exact HB.out | apply below_alloc | apply pw_below_drewN | apply below_drew1 | refine below_set ?_ GE259.out) | exact HB.out))) : w.heap.size ≤ gb269))
                                                                  have n4_ := Aside0.mk ((by rw [hg]; exact (below_size (by repeat (first | (with_reducible first | exact HB.out | apply below_alloc | apply pw_below_drewN | apply below_drew1 | refine below_set ?_ GE259.out) | exact HB.out))) : w.heap.size ≤ gb269))
                                                                  have n5_ := Aside0.mk ((by rw [hg]; exact Nat.ne_of_lt (blk_lt (g := gb259) (o := .cells #[.int .i64 0, .int .i64 0, .int .u32 0, .int .u32 0, .int .i64 0, .int .i64 0, .slice none 0 0, .string (⟨#[]⟩ : ByteArray)] 35 (0, 0)) (by (with_reducible repeat (first | refine blk_drewN ?_ _ | refine blk_drew ?_ | refine blk_alloc ?_ _)); exact BK259.out)) : gb259 ≠ gb269))
                                                                  have n6_ := Aside0.mk ((by rw [hg]; exact Nat.ne_of_gt (blk_lt (g := gb259) (o := .cells #[.int .i64 0, .int .i64 0, .int .u32 0, .int .u32 0, .int .i64 0, .int .i64 0, .slice none 0 0, .string (⟨#[]⟩ : ByteArray)] 35 (0, 0)) (by (with_reducible repeat (first | refine blk_drewN ?_ _ | refine blk_drew ?_ | refine blk_alloc ?_ _)); exact BK259.out)) : gb269 ≠ gb259))
                                                                  clear BK259
                                                                  clear HB
                                                                  have BK259 := n0_
                                                                  have HB := n1_
                                                                  have BK269 := n2_
                                                                  have GW269 := n3_
                                                                  have GE269 := n4_
                                                                  have NB259_269 := n5_
                                                                  have NB269_259 := n6_
                                                                  clear n0_ n1_ n2_ n3_ n4_ n5_ n6_
                                                                  clear hb hbox hg
                                                                  refine hK.out _ _ trivial (fun hHeld => ?_)
                                                                  clear hK K
                                                                  refine norm_ (a' := ?_) ?_ ?_
                                                                  rotate_left
                                                                  · show Act.put _ (some 8) _ = _
                                                                    simp only [Act.put, List.setIfInBounds_toArray, List.set_cons_zero, List.set_cons_succ, i64_w, i32_w]
                                                                    rfl
                                                                  exact norm_ (by first | (simp only [putAll, Act.put, List.setIfInBounds_toArray, List.set_cons_zero, List.set_cons_succ]; done) | (simp only [putAll, Act.put, List.setIfInBounds_toArray, List.set_cons_zero, List.set_cons_succ]; rfl)) (hJ2_5_21 (gb269) _ ⟨(by (with_reducible repeat (first | refine blk_drewN ?_ _ | refine blk_drew ?_ | refine blk_alloc ?_ _)); exact BK259.out), (by (with_reducible repeat (first | refine blk_drewN ?_ _ | refine blk_drew ?_ | refine blk_alloc ?_ _)); exact BK269.out), GW269.out, GE269.out, NB259_269.out, NB269_259.out, (by repeat (first | (with_reducible first | exact HB.out | apply below_alloc | apply pw_below_drewN | apply below_drew1 | refine below_set ?_ GE259.out | refine below_set ?_ GE269.out) | exact HB.out))⟩)
                                                            · skip
                                                              rintro gb269 w45 ⟨h0_, h1_, h2_, h3_, h4_, h5_, h6_⟩
                                                              have n0_ : Aside0 (w45.heap[gb259]? = some (.cells #[.int .i64 0, .int .i64 0, .int .u32 0, .int .u32 0, .int .i64 0, .int .i64 0, .slice none 0 0, .string (⟨#[]⟩ : ByteArray)] 35 (0, 0))) := ⟨h0_⟩
                                                              have n1_ : Aside0 (w45.heap[gb269]? = some (.cells #[.int .i64 0, .int .i64 0, .int .u32 0, .int .u32 0, .int .i64 0, .int .i64 0, .slice none 0 0, .string (⟨#[]⟩ : ByteArray)] 35 (0, 0))) := ⟨h1_⟩
                                                              have n2_ : Aside0 (w.heap.size ≤ gb269) := ⟨h2_⟩
                                                              have n3_ : Aside0 (w.heap.size ≤ gb269) := ⟨h3_⟩
                                                              have n4_ : Aside0 (gb259 ≠ gb269) := ⟨h4_⟩
                                                              have n5_ : Aside0 (gb269 ≠ gb259) := ⟨h5_⟩
                                                              have n6_ : Aside0 (Below w.heap.size w w45) := ⟨h6_⟩
                                                              clear BK259
                                                              clear HB
                                                              clear h0_ h1_ h2_ h3_ h4_ h5_ h6_
                                                              have BK259 := n0_
                                                              have BK269 := n1_
                                                              have GW269 := n2_
                                                              have GE269 := n3_
                                                              have NB259_269 := n4_
                                                              have NB269_259 := n5_
                                                              have HB := n6_
                                                              clear n0_ n1_ n2_ n3_ n4_ n5_ n6_
                                                              have hHeld := trivial
                                                              refine norm_ (a' := ?_) ?_ ?_
                                                              rotate_left
                                                              · simp only [putAll, Act.put, List.setIfInBounds_toArray, List.set_cons_zero, List.set_cons_succ]
                                                                rfl
                                                              refine one_ (i := 8) (N := some 38) #[true, true, true, true, true, true, true, true, true, false, true, true, false, false, true, true, false, true, true, false, false, true, false] rfl rfl (one_of HT_.out (by kernel_rfl)) (by decide) (fun K hK => ?_)
                                                              refine goes_ Try.func85 (by kernel_rfl) rfl #[.string (a2.extract 4 8)] (by rfl) rfl rfl (by (try simp only [List.map_toArray, List.map_cons, List.map_nil]); first | done | rfl | (simp only [List.length_drop, List.length_take]; rfl)) ?_
                                                              with_reducible refine (patchbayref3_Read.calls k (a2.extract 4 8) t265 _ A26.out).mono ?_
                                                              rintro e w' ⟨rfl, ⟨nd, rfl⟩⟩
                                                              refine ⟨_, rfl, ?_⟩
                                                              refine hK.out _ _ trivial (fun hHeld => ?_)
                                                              clear hK K
                                                              refine norm_ (a' := ?_) ?_ ?_
                                                              rotate_left
                                                              · show Act.put _ (some 38) _ = _
                                                                simp only [Act.put, List.setIfInBounds_toArray, List.set_cons_zero, List.set_cons_succ, i64_w, i32_w]
                                                                rfl
                                                              refine pure_ (i := 9) (N := some 39) (v := ?_) (a' := ?_) #[true, true, true, true, true, true, true, true, true, true, true, true, false, false, true, true, false, true, true, false, false, true, false] rfl rfl (any_of HT_.out (by kernel_rfl)) (fun _ _ _ h => h) (Or.inl ⟨by rfl, ?_⟩) ?_ ?_
                                                              rotate_left
                                                              · intro w'
                                                                go_simp
                                                                with_reducible rfl
                                                              rotate_left
                                                              · simp only [Act.put, List.setIfInBounds_toArray, List.set_cons_zero, List.set_cons_succ, i64_w, i32_w]
                                                                rfl
                                                              exact norm_ (by first | (simp only [putAll, Act.put, List.setIfInBounds_toArray, List.set_cons_zero, List.set_cons_succ]; done) | (simp only [putAll, Act.put, List.setIfInBounds_toArray, List.set_cons_zero, List.set_cons_succ]; rfl)) (hJ2_5_8_21 (gb269) _ ⟨(by (with_reducible repeat (first | refine blk_drewN ?_ _ | refine blk_drew ?_ | refine blk_alloc ?_ _)); exact BK259.out), (by (with_reducible repeat (first | refine blk_drewN ?_ _ | refine blk_drew ?_ | refine blk_alloc ?_ _)); exact BK269.out), GW269.out, GE269.out, NB259_269.out, NB269_259.out, (by repeat (first | (with_reducible first | exact HB.out | apply below_alloc | apply pw_below_drewN | apply below_drew1 | refine below_set ?_ GE259.out | refine below_set ?_ GE269.out) | exact HB.out))⟩)
                                                          · skip
                                                            rintro _ w44 ⟨h0_, h1_⟩
                                                            have n0_ : Aside0 (w44.heap[gb259]? = some (.cells #[.int .i64 0, .int .i64 0, .int .u32 0, .int .u32 0, .int .i64 0, .int .i64 0, .slice none 0 0, .string (⟨#[]⟩ : ByteArray)] 35 (0, 0))) := ⟨h0_⟩
                                                            have n1_ : Aside0 (Below w.heap.size w w44) := ⟨h1_⟩
                                                            clear BK259
                                                            clear HB
                                                            clear h0_ h1_
                                                            have BK259 := n0_
                                                            have HB := n1_
                                                            clear n0_ n1_
                                                            have hHeld := trivial
                                                            refine norm_ (a' := ?_) ?_ ?_
                                                            rotate_left
                                                            · simp only [putAll, Act.put, List.setIfInBounds_toArray, List.set_cons_zero, List.set_cons_succ]
                                                              rfl
                                                            refine two_ (i := 12) (j := 21) (Ni := some 42) (Nj := some 8) #[true, true, true, true, true, true, true, true, true, true, true, true, true, false, true, true, false, true, true, false, false, false, false] #[true, true, true, true, true, true, true, true, true, true, true, true, false, false, true, true, false, true, true, false, false, true, false] rfl rfl rfl rfl (two_of HT_.out (by kernel_rfl)) (by decide) (by decide) (fun K hK => ?_) (fun K hK => ?_)
                                                            · skip
                                                              refine goes_ Try.func85 (by kernel_rfl) rfl #[.string (a2.extract 8 12)] (by rfl) rfl rfl (by (try simp only [List.map_toArray, List.map_cons, List.map_nil]); first | done | rfl | (simp only [List.length_drop, List.length_take]; rfl)) ?_
                                                              with_reducible refine (patchbayref3_Read.calls k (a2.extract 8 12) t266 _ A29.out).mono ?_
                                                              rintro e w' ⟨rfl, ⟨nd, rfl⟩⟩
                                                              refine ⟨_, rfl, ?_⟩
                                                              refine hK.out _ _ trivial (fun hHeld => ?_)
                                                              clear hK K
                                                              refine norm_ (a' := ?_) ?_ ?_
                                                              rotate_left
                                                              · show Act.put _ (some 42) _ = _
                                                                simp only [Act.put, List.setIfInBounds_toArray, List.set_cons_zero, List.set_cons_succ, i64_w, i32_w]
                                                                rfl
                                                              refine pure_ (i := 13) (N := some 43) (v := ?_) (a' := ?_) #[true, true, true, true, true, true, true, true, true, true, true, true, true, true, true, true, false, true, true, false, false, false, false] rfl rfl (any_of HT_.out (by kernel_rfl)) (fun _ _ _ h => h) (Or.inl ⟨by rfl, ?_⟩) ?_ ?_
                                                              rotate_left
                                                              · intro w'
                                                                go_simp
                                                                with_reducible rfl
                                                              rotate_left
                                                              · simp only [Act.put, List.setIfInBounds_toArray, List.set_cons_zero, List.set_cons_succ, i64_w, i32_w]
                                                                rfl
                                                              exact norm_ (by first | (simp only [putAll, Act.put, List.setIfInBounds_toArray, List.set_cons_zero, List.set_cons_succ]; done) | (simp only [putAll, Act.put, List.setIfInBounds_toArray, List.set_cons_zero, List.set_cons_succ]; rfl)) (hJ2_5_8_12 () _ ⟨(by (with_reducible repeat (first | refine blk_drewN ?_ _ | refine blk_drew ?_ | refine blk_alloc ?_ _)); exact BK259.out), (by repeat (first | (with_reducible first | exact HB.out | apply below_alloc | apply pw_below_drewN | apply below_drew1 | refine below_set ?_ GE259.out) | exact HB.out))⟩)
                                                            · skip
                                                              refine box_step ?hg (N := 8) ?hd (cs := #[.int .i64 0, .int .i64 0, .int .u32 0, .int .u32 0, .int .i64 0, .int .i64 0, .slice none 0 0, .string (⟨#[]⟩ : ByteArray)]) (t := 35) ?hr ?_; (case hd => rfl); (case hg => rfl); (case hr => first | (go_simp; done) | (go_simp; rfl))
                                                              intro gb269 hg w45 hbox hb
                                                              have n0_ := Aside0.mk (blk_below (g := gb259) (o := .cells #[.int .i64 0, .int .i64 0, .int .u32 0, .int .u32 0, .int .i64 0, .int .i64 0, .slice none 0 0, .string (⟨#[]⟩ : ByteArray)] 35 (0, 0)) (by (with_reducible repeat (first | refine blk_drewN ?_ _ | refine blk_drew ?_ | refine blk_alloc ?_ _)); exact BK259.out) hb)
                                                              have n1_ := Aside0.mk (below_step (by repeat (first | (with_reducible first | exact HB.out | apply below_alloc | apply pw_below_drewN | apply below_drew1 | refine below_set ?_ GE259.out) | exact HB.out)) hb)
                                                              have n2_ := Aside0.mk (hbox)
                                                              have n3_ := Aside0.mk ((by rw [hg]; exact (below_size (by repeat (first | (with_reducible first | exact HB.out | apply below_alloc | apply pw_below_drewN | apply below_drew1 | refine below_set ?_ GE259.out) | exact HB.out))) : w.heap.size ≤ gb269))
                                                              have n4_ := Aside0.mk ((by rw [hg]; exact (below_size (by repeat (first | (with_reducible first | exact HB.out | apply below_alloc | apply pw_below_drewN | apply below_drew1 | refine below_set ?_ GE259.out) | exact HB.out))) : w.heap.size ≤ gb269))
                                                              have n5_ := Aside0.mk ((by rw [hg]; exact Nat.ne_of_lt (blk_lt (g := gb259) (o := .cells #[.int .i64 0, .int .i64 0, .int .u32 0, .int .u32 0, .int .i64 0, .int .i64 0, .slice none 0 0, .string (⟨#[]⟩ : ByteArray)] 35 (0, 0)) (by (with_reducible repeat (first | refine blk_drewN ?_ _ | refine blk_drew ?_ | refine blk_alloc ?_ _)); exact BK259.out)) : gb259 ≠ gb269))
                                                              have n6_ := Aside0.mk ((by rw [hg]; exact Nat.ne_of_gt (blk_lt (g := gb259) (o := .cells #[.int .i64 0, .int .i64 0, .int .u32 0, .int .u32 0, .int .i64 0, .int .i64 0, .slice none 0 0, .string (⟨#[]⟩ : ByteArray)] 35 (0, 0)) (by (with_reducible repeat (first | refine blk_drewN ?_ _ | refine blk_drew ?_ | refine blk_alloc ?_ _)); exact BK259.out)) : gb269 ≠ gb259))
                                                              clear BK259
                                                              clear HB
                                                              have BK259 := n0_
                                                              have HB := n1_
                                                              have BK269 := n2_
                                                              have GW269 := n3_
                                                              have GE269 := n4_
                                                              have NB259_269 := n5_
                                                              have NB269_259 := n6_
                                                              clear n0_ n1_ n2_ n3_ n4_ n5_ n6_
                                                              clear hb hbox hg
                                                              refine hK.out _ _ trivial (fun hHeld => ?_)
                                                              clear hK K
                                                              refine norm_ (a' := ?_) ?_ ?_
                                                              rotate_left
                                                              · show Act.put _ (some 8) _ = _
                                                                simp only [Act.put, List.setIfInBounds_toArray, List.set_cons_zero, List.set_cons_succ, i64_w, i32_w]
                                                                rfl
                                                              exact norm_ (by first | (simp only [putAll, Act.put, List.setIfInBounds_toArray, List.set_cons_zero, List.set_cons_succ]; done) | (simp only [putAll, Act.put, List.setIfInBounds_toArray, List.set_cons_zero, List.set_cons_succ]; rfl)) (hJ2_5_8_21 (gb269) _ ⟨(by (with_reducible repeat (first | refine blk_drewN ?_ _ | refine blk_drew ?_ | refine blk_alloc ?_ _)); exact BK259.out), (by (with_reducible repeat (first | refine blk_drewN ?_ _ | refine blk_drew ?_ | refine blk_alloc ?_ _)); exact BK269.out), GW269.out, GE269.out, NB259_269.out, NB269_259.out, (by repeat (first | (with_reducible first | exact HB.out | apply below_alloc | apply pw_below_drewN | apply below_drew1 | refine below_set ?_ GE259.out | refine below_set ?_ GE269.out) | exact HB.out))⟩)
                                                        · skip
                                                          rintro gb269 w45 ⟨h0_, h1_, h2_, h3_, h4_, h5_, h6_⟩
                                                          have n0_ : Aside0 (w45.heap[gb259]? = some (.cells #[.int .i64 0, .int .i64 0, .int .u32 0, .int .u32 0, .int .i64 0, .int .i64 0, .slice none 0 0, .string (⟨#[]⟩ : ByteArray)] 35 (0, 0))) := ⟨h0_⟩
                                                          have n1_ : Aside0 (w45.heap[gb269]? = some (.cells #[.int .i64 0, .int .i64 0, .int .u32 0, .int .u32 0, .int .i64 0, .int .i64 0, .slice none 0 0, .string (⟨#[]⟩ : ByteArray)] 35 (0, 0))) := ⟨h1_⟩
                                                          have n2_ : Aside0 (w.heap.size ≤ gb269) := ⟨h2_⟩
                                                          have n3_ : Aside0 (w.heap.size ≤ gb269) := ⟨h3_⟩
                                                          have n4_ : Aside0 (gb259 ≠ gb269) := ⟨h4_⟩
                                                          have n5_ : Aside0 (gb269 ≠ gb259) := ⟨h5_⟩
                                                          have n6_ : Aside0 (Below w.heap.size w w45) := ⟨h6_⟩
                                                          clear BK259
                                                          clear HB
                                                          clear h0_ h1_ h2_ h3_ h4_ h5_ h6_
                                                          have BK259 := n0_
                                                          have BK269 := n1_
                                                          have GW269 := n2_
                                                          have GE269 := n3_
                                                          have NB259_269 := n4_
                                                          have NB269_259 := n5_
                                                          have HB := n6_
                                                          clear n0_ n1_ n2_ n3_ n4_ n5_ n6_
                                                          have hHeld := trivial
                                                          refine norm_ (a' := ?_) ?_ ?_
                                                          rotate_left
                                                          · simp only [putAll, Act.put, List.setIfInBounds_toArray, List.set_cons_zero, List.set_cons_succ]
                                                            rfl
                                                          refine one_ (i := 12) (N := some 42) #[true, true, true, true, true, true, true, true, true, true, true, true, true, false, true, true, false, true, true, false, false, true, false] rfl rfl (one_of HT_.out (by kernel_rfl)) (by decide) (fun K hK => ?_)
                                                          refine goes_ Try.func85 (by kernel_rfl) rfl #[.string (a2.extract 8 12)] (by rfl) rfl rfl (by (try simp only [List.map_toArray, List.map_cons, List.map_nil]); first | done | rfl | (simp only [List.length_drop, List.length_take]; rfl)) ?_
                                                          with_reducible refine (patchbayref3_Read.calls k (a2.extract 8 12) t266 _ A29.out).mono ?_
                                                          rintro e w' ⟨rfl, ⟨nd, rfl⟩⟩
                                                          refine ⟨_, rfl, ?_⟩
                                                          refine hK.out _ _ trivial (fun hHeld => ?_)
                                                          clear hK K
                                                          refine norm_ (a' := ?_) ?_ ?_
                                                          rotate_left
                                                          · show Act.put _ (some 42) _ = _
                                                            simp only [Act.put, List.setIfInBounds_toArray, List.set_cons_zero, List.set_cons_succ, i64_w, i32_w]
                                                            rfl
                                                          refine pure_ (i := 13) (N := some 43) (v := ?_) (a' := ?_) #[true, true, true, true, true, true, true, true, true, true, true, true, true, true, true, true, false, true, true, false, false, true, false] rfl rfl (any_of HT_.out (by kernel_rfl)) (fun _ _ _ h => h) (Or.inl ⟨by rfl, ?_⟩) ?_ ?_
                                                          rotate_left
                                                          · intro w'
                                                            go_simp
                                                            with_reducible rfl
                                                          rotate_left
                                                          · simp only [Act.put, List.setIfInBounds_toArray, List.set_cons_zero, List.set_cons_succ, i64_w, i32_w]
                                                            rfl
                                                          exact norm_ (by first | (simp only [putAll, Act.put, List.setIfInBounds_toArray, List.set_cons_zero, List.set_cons_succ]; done) | (simp only [putAll, Act.put, List.setIfInBounds_toArray, List.set_cons_zero, List.set_cons_succ]; rfl)) (hJ2_5_8_12_21 (gb269) _ ⟨(by (with_reducible repeat (first | refine blk_drewN ?_ _ | refine blk_drew ?_ | refine blk_alloc ?_ _)); exact BK259.out), (by (with_reducible repeat (first | refine blk_drewN ?_ _ | refine blk_drew ?_ | refine blk_alloc ?_ _)); exact BK269.out), GW269.out, GE269.out, NB259_269.out, NB269_259.out, (by repeat (first | (with_reducible first | exact HB.out | apply below_alloc | apply pw_below_drewN | apply below_drew1 | refine below_set ?_ GE259.out | refine below_set ?_ GE269.out) | exact HB.out))⟩)
                                                      · skip
                                                        rintro _ w44 ⟨h0_, h1_⟩
                                                        have n0_ : Aside0 (w44.heap[gb259]? = some (.cells #[.int .i64 0, .int .i64 0, .int .u32 0, .int .u32 0, .int .i64 0, .int .i64 0, .slice none 0 0, .string (⟨#[]⟩ : ByteArray)] 35 (0, 0))) := ⟨h0_⟩
                                                        have n1_ : Aside0 (Below w.heap.size w w44) := ⟨h1_⟩
                                                        clear BK259
                                                        clear HB
                                                        clear h0_ h1_
                                                        have BK259 := n0_
                                                        have HB := n1_
                                                        clear n0_ n1_
                                                        have hHeld := trivial
                                                        refine norm_ (a' := ?_) ?_ ?_
                                                        rotate_left
                                                        · simp only [putAll, Act.put, List.setIfInBounds_toArray, List.set_cons_zero, List.set_cons_succ]
                                                          rfl
                                                        refine two_ (i := 16) (j := 21) (Ni := some 46) (Nj := some 8) #[true, true, true, true, true, true, true, true, true, true, true, true, true, true, true, true, true, true, true, false, false, false, false] #[true, true, true, true, true, true, true, true, true, true, true, true, true, true, true, true, false, true, true, false, false, true, false] rfl rfl rfl rfl (two_of HT_.out (by kernel_rfl)) (by decide) (by decide) (fun K hK => ?_) (fun K hK => ?_)
                                                        · skip
                                                          refine goes_ Try.func85 (by kernel_rfl) rfl #[.string (a2.extract 12 13)] (by rfl) rfl rfl (by (try simp only [List.map_toArray, List.map_cons, List.map_nil]); first | done | rfl | (simp only [List.length_drop, List.length_take]; rfl)) ?_
                                                          with_reducible refine (patchbayref3_Read.calls k (a2.extract 12 13) t267 _ A32.out).mono ?_
                                                          rintro e w' ⟨rfl, ⟨nd, rfl⟩⟩
                                                          refine ⟨_, rfl, ?_⟩
                                                          refine hK.out _ _ trivial (fun hHeld => ?_)
                                                          clear hK K
                                                          refine norm_ (a' := ?_) ?_ ?_
                                                          rotate_left
                                                          · show Act.put _ (some 46) _ = _
                                                            simp only [Act.put, List.setIfInBounds_toArray, List.set_cons_zero, List.set_cons_succ, i64_w, i32_w]
                                                            rfl
                                                          exact norm_ (by first | (simp only [putAll, Act.put, List.setIfInBounds_toArray, List.set_cons_zero, List.set_cons_succ]; done) | (simp only [putAll, Act.put, List.setIfInBounds_toArray, List.set_cons_zero, List.set_cons_succ]; rfl)) (hJ2_5_8_12_16 () _ ⟨(by (with_reducible repeat (first | refine blk_drewN ?_ _ | refine blk_drew ?_ | refine blk_alloc ?_ _)); exact BK259.out), (by repeat (first | (with_reducible first | exact HB.out | apply below_alloc | apply pw_below_drewN | apply below_drew1 | refine below_set ?_ GE259.out) | exact HB.out))⟩)
                                                        · skip
                                                          refine box_step ?hg (N := 8) ?hd (cs := #[.int .i64 0, .int .i64 0, .int .u32 0, .int .u32 0, .int .i64 0, .int .i64 0, .slice none 0 0, .string (⟨#[]⟩ : ByteArray)]) (t := 35) ?hr ?_; (case hd => rfl); (case hg => rfl); (case hr => first | (go_simp; done) | (go_simp; rfl))
                                                          intro gb269 hg w45 hbox hb
                                                          have n0_ := Aside0.mk (blk_below (g := gb259) (o := .cells #[.int .i64 0, .int .i64 0, .int .u32 0, .int .u32 0, .int .i64 0, .int .i64 0, .slice none 0 0, .string (⟨#[]⟩ : ByteArray)] 35 (0, 0)) (by (with_reducible repeat (first | refine blk_drewN ?_ _ | refine blk_drew ?_ | refine blk_alloc ?_ _)); exact BK259.out) hb)
                                                          have n1_ := Aside0.mk (below_step (by repeat (first | (with_reducible first | exact HB.out | apply below_alloc | apply pw_below_drewN | apply below_drew1 | refine below_set ?_ GE259.out) | exact HB.out)) hb)
                                                          have n2_ := Aside0.mk (hbox)
                                                          have n3_ := Aside0.mk ((by rw [hg]; exact (below_size (by repeat (first | (with_reducible first | exact HB.out | apply below_alloc | apply pw_below_drewN | apply below_drew1 | refine below_set ?_ GE259.out) | exact HB.out))) : w.heap.size ≤ gb269))
                                                          have n4_ := Aside0.mk ((by rw [hg]; exact (below_size (by repeat (first | (with_reducible first | exact HB.out | apply below_alloc | apply pw_below_drewN | apply below_drew1 | refine below_set ?_ GE259.out) | exact HB.out))) : w.heap.size ≤ gb269))
                                                          have n5_ := Aside0.mk ((by rw [hg]; exact Nat.ne_of_lt (blk_lt (g := gb259) (o := .cells #[.int .i64 0, .int .i64 0, .int .u32 0, .int .u32 0, .int .i64 0, .int .i64 0, .slice none 0 0, .string (⟨#[]⟩ : ByteArray)] 35 (0, 0)) (by (with_reducible repeat (first | refine blk_drewN ?_ _ | refine blk_drew ?_ | refine blk_alloc ?_ _)); exact BK259.out)) : gb259 ≠ gb269))
                                                          have n6_ := Aside0.mk ((by rw [hg]; exact Nat.ne_of_gt (blk_lt (g := gb259) (o := .cells #[.int .i64 0, .int .i64 0, .int .u32 0, .int .u32 0, .int .i64 0, .int .i64 0, .slice none 0 0, .string (⟨#[]⟩ : ByteArray)] 35 (0, 0)) (by (with_reducible repeat (first | refine blk_drewN ?_ _ | refine blk_drew ?_ | refine blk_alloc ?_ _)); exact BK259.out)) : gb269 ≠ gb259))
                                                          clear BK259
                                                          clear HB
                                                          have BK259 := n0_
                                                          have HB := n1_
                                                          have BK269 := n2_
                                                          have GW269 := n3_
                                                          have GE269 := n4_
                                                          have NB259_269 := n5_
                                                          have NB269_259 := n6_
                                                          clear n0_ n1_ n2_ n3_ n4_ n5_ n6_
                                                          clear hb hbox hg
                                                          refine hK.out _ _ trivial (fun hHeld => ?_)
                                                          clear hK K
                                                          refine norm_ (a' := ?_) ?_ ?_
                                                          rotate_left
                                                          · show Act.put _ (some 8) _ = _
                                                            simp only [Act.put, List.setIfInBounds_toArray, List.set_cons_zero, List.set_cons_succ, i64_w, i32_w]
                                                            rfl
                                                          exact norm_ (by first | (simp only [putAll, Act.put, List.setIfInBounds_toArray, List.set_cons_zero, List.set_cons_succ]; done) | (simp only [putAll, Act.put, List.setIfInBounds_toArray, List.set_cons_zero, List.set_cons_succ]; rfl)) (hJ2_5_8_12_21 (gb269) _ ⟨(by (with_reducible repeat (first | refine blk_drewN ?_ _ | refine blk_drew ?_ | refine blk_alloc ?_ _)); exact BK259.out), (by (with_reducible repeat (first | refine blk_drewN ?_ _ | refine blk_drew ?_ | refine blk_alloc ?_ _)); exact BK269.out), GW269.out, GE269.out, NB259_269.out, NB269_259.out, (by repeat (first | (with_reducible first | exact HB.out | apply below_alloc | apply pw_below_drewN | apply below_drew1 | refine below_set ?_ GE259.out | refine below_set ?_ GE269.out) | exact HB.out))⟩)
                                                    · skip
                                                      rintro gb269 w45 ⟨h0_, h1_, h2_, h3_, h4_, h5_, h6_⟩
                                                      have n0_ : Aside0 (w45.heap[gb259]? = some (.cells #[.int .i64 0, .int .i64 0, .int .u32 0, .int .u32 0, .int .i64 0, .int .i64 0, .slice none 0 0, .string (⟨#[]⟩ : ByteArray)] 35 (0, 0))) := ⟨h0_⟩
                                                      have n1_ : Aside0 (w45.heap[gb269]? = some (.cells #[.int .i64 0, .int .i64 0, .int .u32 0, .int .u32 0, .int .i64 0, .int .i64 0, .slice none 0 0, .string (⟨#[]⟩ : ByteArray)] 35 (0, 0))) := ⟨h1_⟩
                                                      have n2_ : Aside0 (w.heap.size ≤ gb269) := ⟨h2_⟩
                                                      have n3_ : Aside0 (w.heap.size ≤ gb269) := ⟨h3_⟩
                                                      have n4_ : Aside0 (gb259 ≠ gb269) := ⟨h4_⟩
                                                      have n5_ : Aside0 (gb269 ≠ gb259) := ⟨h5_⟩
                                                      have n6_ : Aside0 (Below w.heap.size w w45) := ⟨h6_⟩
                                                      clear BK259
                                                      clear HB
                                                      clear h0_ h1_ h2_ h3_ h4_ h5_ h6_
                                                      have BK259 := n0_
                                                      have BK269 := n1_
                                                      have GW269 := n2_
                                                      have GE269 := n3_
                                                      have NB259_269 := n4_
                                                      have NB269_259 := n5_
                                                      have HB := n6_
                                                      clear n0_ n1_ n2_ n3_ n4_ n5_ n6_
                                                      have hHeld := trivial
                                                      refine norm_ (a' := ?_) ?_ ?_
                                                      rotate_left
                                                      · simp only [putAll, Act.put, List.setIfInBounds_toArray, List.set_cons_zero, List.set_cons_succ]
                                                        rfl
                                                      refine one_ (i := 16) (N := some 46) #[true, true, true, true, true, true, true, true, true, true, true, true, true, true, true, true, true, true, true, false, false, true, false] rfl rfl (one_of HT_.out (by kernel_rfl)) (by decide) (fun K hK => ?_)
                                                      refine goes_ Try.func85 (by kernel_rfl) rfl #[.string (a2.extract 12 13)] (by rfl) rfl rfl (by (try simp only [List.map_toArray, List.map_cons, List.map_nil]); first | done | rfl | (simp only [List.length_drop, List.length_take]; rfl)) ?_
                                                      with_reducible refine (patchbayref3_Read.calls k (a2.extract 12 13) t267 _ A32.out).mono ?_
                                                      rintro e w' ⟨rfl, ⟨nd, rfl⟩⟩
                                                      refine ⟨_, rfl, ?_⟩
                                                      refine hK.out _ _ trivial (fun hHeld => ?_)
                                                      clear hK K
                                                      refine norm_ (a' := ?_) ?_ ?_
                                                      rotate_left
                                                      · show Act.put _ (some 46) _ = _
                                                        simp only [Act.put, List.setIfInBounds_toArray, List.set_cons_zero, List.set_cons_succ, i64_w, i32_w]
                                                        rfl
                                                      exact norm_ (by first | (simp only [putAll, Act.put, List.setIfInBounds_toArray, List.set_cons_zero, List.set_cons_succ]; done) | (simp only [putAll, Act.put, List.setIfInBounds_toArray, List.set_cons_zero, List.set_cons_succ]; rfl)) (hJ2_5_8_12_16_21 (gb269) _ ⟨(by (with_reducible repeat (first | refine blk_drewN ?_ _ | refine blk_drew ?_ | refine blk_alloc ?_ _)); exact BK259.out), (by (with_reducible repeat (first | refine blk_drewN ?_ _ | refine blk_drew ?_ | refine blk_alloc ?_ _)); exact BK269.out), GW269.out, GE269.out, NB259_269.out, NB269_259.out, (by repeat (first | (with_reducible first | exact HB.out | apply below_alloc | apply pw_below_drewN | apply below_drew1 | refine below_set ?_ GE259.out | refine below_set ?_ GE269.out) | exact HB.out))⟩)
                                                  · skip
                                                    rintro _ w44 ⟨h0_, h1_⟩
                                                    have n0_ : Aside0 (w44.heap[gb259]? = some (.cells #[.int .i64 0, .int .i64 0, .int .u32 0, .int .u32 0, .int .i64 0, .int .i64 0, .slice none 0 0, .string (⟨#[]⟩ : ByteArray)] 35 (0, 0))) := ⟨h0_⟩
                                                    have n1_ : Aside0 (Below w.heap.size w w44) := ⟨h1_⟩
                                                    clear BK259
                                                    clear HB
                                                    clear h0_ h1_
                                                    have BK259 := n0_
                                                    have HB := n1_
                                                    clear n0_ n1_
                                                    have hHeld := trivial
                                                    refine norm_ (a' := ?_) ?_ ?_
                                                    rotate_left
                                                    · simp only [putAll, Act.put, List.setIfInBounds_toArray, List.set_cons_zero, List.set_cons_succ]
                                                      rfl
                                                    refine two_ (i := 19) (j := 21) (Ni := some 49) (Nj := some 8) #[true, true, true, true, true, true, true, true, true, true, true, true, true, true, true, true, true, true, true, true, false, false, false] #[true, true, true, true, true, true, true, true, true, true, true, true, true, true, true, true, true, true, true, false, false, true, false] rfl rfl rfl rfl (two_of HT_.out (by kernel_rfl)) (by decide) (by decide) (fun K hK => ?_) (fun K hK => ?_)
                                                    · skip
                                                      refine goes_ Try.func85 (by kernel_rfl) rfl #[.string (a2.extract 14 16)] (by rfl) rfl rfl (by (try simp only [List.map_toArray, List.map_cons, List.map_nil]); first | done | rfl | (simp only [List.length_drop, List.length_take]; rfl)) ?_
                                                      with_reducible refine (patchbayref3_Read.calls k (a2.extract 14 16) t268 _ A35.out).mono ?_
                                                      rintro e w' ⟨rfl, ⟨nd, rfl⟩⟩
                                                      refine ⟨_, rfl, ?_⟩
                                                      refine hK.out _ _ trivial (fun hHeld => ?_)
                                                      clear hK K
                                                      refine norm_ (a' := ?_) ?_ ?_
                                                      rotate_left
                                                      · show Act.put _ (some 49) _ = _
                                                        simp only [Act.put, List.setIfInBounds_toArray, List.set_cons_zero, List.set_cons_succ, i64_w, i32_w]
                                                        rfl
                                                      refine pure_ (i := 20) (N := some 50) (v := ?_) (a' := ?_) #[true, true, true, true, true, true, true, true, true, true, true, true, true, true, true, true, true, true, true, true, true, false, false] rfl rfl (any_of HT_.out (by kernel_rfl)) (fun _ _ _ h => h) (Or.inl ⟨by rfl, ?_⟩) ?_ ?_
                                                      rotate_left
                                                      · intro w'
                                                        go_simp
                                                        with_reducible rfl
                                                      rotate_left
                                                      · simp only [Act.put, List.setIfInBounds_toArray, List.set_cons_zero, List.set_cons_succ, i64_w, i32_w]
                                                        rfl
                                                      exact norm_ (by first | (simp only [putAll, Act.put, List.setIfInBounds_toArray, List.set_cons_zero, List.set_cons_succ]; done) | (simp only [putAll, Act.put, List.setIfInBounds_toArray, List.set_cons_zero, List.set_cons_succ]; rfl)) (hJ2_5_8_12_16_19 () _ ⟨(by (with_reducible repeat (first | refine blk_drewN ?_ _ | refine blk_drew ?_ | refine blk_alloc ?_ _)); exact BK259.out), (by repeat (first | (with_reducible first | exact HB.out | apply below_alloc | apply pw_below_drewN | apply below_drew1 | refine below_set ?_ GE259.out) | exact HB.out))⟩)
                                                    · skip
                                                      refine box_step ?hg (N := 8) ?hd (cs := #[.int .i64 0, .int .i64 0, .int .u32 0, .int .u32 0, .int .i64 0, .int .i64 0, .slice none 0 0, .string (⟨#[]⟩ : ByteArray)]) (t := 35) ?hr ?_; (case hd => rfl); (case hg => rfl); (case hr => first | (go_simp; done) | (go_simp; rfl))
                                                      intro gb269 hg w45 hbox hb
                                                      have n0_ := Aside0.mk (blk_below (g := gb259) (o := .cells #[.int .i64 0, .int .i64 0, .int .u32 0, .int .u32 0, .int .i64 0, .int .i64 0, .slice none 0 0, .string (⟨#[]⟩ : ByteArray)] 35 (0, 0)) (by (with_reducible repeat (first | refine blk_drewN ?_ _ | refine blk_drew ?_ | refine blk_alloc ?_ _)); exact BK259.out) hb)
                                                      have n1_ := Aside0.mk (below_step (by repeat (first | (with_reducible first | exact HB.out | apply below_alloc | apply pw_below_drewN | apply below_drew1 | refine below_set ?_ GE259.out) | exact HB.out)) hb)
                                                      have n2_ := Aside0.mk (hbox)
                                                      have n3_ := Aside0.mk ((by rw [hg]; exact (below_size (by repeat (first | (with_reducible first | exact HB.out | apply below_alloc | apply pw_below_drewN | apply below_drew1 | refine below_set ?_ GE259.out) | exact HB.out))) : w.heap.size ≤ gb269))
                                                      have n4_ := Aside0.mk ((by rw [hg]; exact (below_size (by repeat (first | (with_reducible first | exact HB.out | apply below_alloc | apply pw_below_drewN | apply below_drew1 | refine below_set ?_ GE259.out) | exact HB.out))) : w.heap.size ≤ gb269))
                                                      have n5_ := Aside0.mk ((by rw [hg]; exact Nat.ne_of_lt (blk_lt (g := gb259) (o := .cells #[.int .i64 0, .int .i64 0, .int .u32 0, .int .u32 0, .int .i64 0, .int .i64 0, .slice none 0 0, .string (⟨#[]⟩ : ByteArray)] 35 (0, 0)) (by (with_reducible repeat (first | refine blk_drewN ?_ _ | refine blk_drew ?_ | refine blk_alloc ?_ _)); exact BK259.out)) : gb259 ≠ gb269))
                                                      have n6_ := Aside0.mk ((by rw [hg]; exact Nat.ne_of_gt (blk_lt (g := gb259) (o := .cells #[.int .i64 0, .int .i64 0, .int .u32 0, .int .u32 0, .int .i64 0, .int .i64 0, .slice none 0 0, .string (⟨#[]⟩ : ByteArray)] 35 (0, 0)) (by (with_reducible repeat (first | refine blk_drewN ?_ _ | refine blk_drew ?_ | refine blk_alloc ?_ _)); exact BK259.out)) : gb269 ≠ gb259))
                                                      clear BK259
                                                      clear HB
                                                      have BK259 := n0_
                                                      have HB := n1_
                                                      have BK269 := n2_
                                                      have GW269 := n3_
                                                      have GE269 := n4_
                                                      have NB259_269 := n5_
                                                      have NB269_259 := n6_
                                                      clear n0_ n1_ n2_ n3_ n4_ n5_ n6_
                                                      clear hb hbox hg
                                                      refine hK.out _ _ trivial (fun hHeld => ?_)
                                                      clear hK K
                                                      refine norm_ (a' := ?_) ?_ ?_
                                                      rotate_left
                                                      · show Act.put _ (some 8) _ = _
                                                        simp only [Act.put, List.setIfInBounds_toArray, List.set_cons_zero, List.set_cons_succ, i64_w, i32_w]
                                                        rfl
                                                      exact norm_ (by first | (simp only [putAll, Act.put, List.setIfInBounds_toArray, List.set_cons_zero, List.set_cons_succ]; done) | (simp only [putAll, Act.put, List.setIfInBounds_toArray, List.set_cons_zero, List.set_cons_succ]; rfl)) (hJ2_5_8_12_16_21 (gb269) _ ⟨(by (with_reducible repeat (first | refine blk_drewN ?_ _ | refine blk_drew ?_ | refine blk_alloc ?_ _)); exact BK259.out), (by (with_reducible repeat (first | refine blk_drewN ?_ _ | refine blk_drew ?_ | refine blk_alloc ?_ _)); exact BK269.out), GW269.out, GE269.out, NB259_269.out, NB269_259.out, (by repeat (first | (with_reducible first | exact HB.out | apply below_alloc | apply pw_below_drewN | apply below_drew1 | refine below_set ?_ GE259.out | refine below_set ?_ GE269.out) | exact HB.out))⟩)
                                                · skip
                                                  rintro gb269 w45 ⟨h0_, h1_, h2_, h3_, h4_, h5_, h6_⟩
                                                  have n0_ : Aside0 (w45.heap[gb259]? = some (.cells #[.int .i64 0, .int .i64 0, .int .u32 0, .int .u32 0, .int .i64 0, .int .i64 0, .slice none 0 0, .string (⟨#[]⟩ : ByteArray)] 35 (0, 0))) := ⟨h0_⟩
                                                  have n1_ : Aside0 (w45.heap[gb269]? = some (.cells #[.int .i64 0, .int .i64 0, .int .u32 0, .int .u32 0, .int .i64 0, .int .i64 0, .slice none 0 0, .string (⟨#[]⟩ : ByteArray)] 35 (0, 0))) := ⟨h1_⟩
                                                  have n2_ : Aside0 (w.heap.size ≤ gb269) := ⟨h2_⟩
                                                  have n3_ : Aside0 (w.heap.size ≤ gb269) := ⟨h3_⟩
                                                  have n4_ : Aside0 (gb259 ≠ gb269) := ⟨h4_⟩
                                                  have n5_ : Aside0 (gb269 ≠ gb259) := ⟨h5_⟩
                                                  have n6_ : Aside0 (Below w.heap.size w w45) := ⟨h6_⟩
                                                  clear BK259
                                                  clear HB
                                                  clear h0_ h1_ h2_ h3_ h4_ h5_ h6_
                                                  have BK259 := n0_
                                                  have BK269 := n1_
                                                  have GW269 := n2_
                                                  have GE269 := n3_
                                                  have NB259_269 := n4_
                                                  have NB269_259 := n5_
                                                  have HB := n6_
                                                  clear n0_ n1_ n2_ n3_ n4_ n5_ n6_
                                                  have hHeld := trivial
                                                  refine norm_ (a' := ?_) ?_ ?_
                                                  rotate_left
                                                  · simp only [putAll, Act.put, List.setIfInBounds_toArray, List.set_cons_zero, List.set_cons_succ]
                                                    rfl
                                                  refine one_ (i := 19) (N := some 49) #[true, true, true, true, true, true, true, true, true, true, true, true, true, true, true, true, true, true, true, true, false, true, false] rfl rfl (one_of HT_.out (by kernel_rfl)) (by decide) (fun K hK => ?_)
                                                  refine goes_ Try.func85 (by kernel_rfl) rfl #[.string (a2.extract 14 16)] (by rfl) rfl rfl (by (try simp only [List.map_toArray, List.map_cons, List.map_nil]); first | done | rfl | (simp only [List.length_drop, List.length_take]; rfl)) ?_
                                                  with_reducible refine (patchbayref3_Read.calls k (a2.extract 14 16) t268 _ A35.out).mono ?_
                                                  rintro e w' ⟨rfl, ⟨nd, rfl⟩⟩
                                                  refine ⟨_, rfl, ?_⟩
                                                  refine hK.out _ _ trivial (fun hHeld => ?_)
                                                  clear hK K
                                                  refine norm_ (a' := ?_) ?_ ?_
                                                  rotate_left
                                                  · show Act.put _ (some 49) _ = _
                                                    simp only [Act.put, List.setIfInBounds_toArray, List.set_cons_zero, List.set_cons_succ, i64_w, i32_w]
                                                    rfl
                                                  refine pure_ (i := 20) (N := some 50) (v := ?_) (a' := ?_) #[true, true, true, true, true, true, true, true, true, true, true, true, true, true, true, true, true, true, true, true, true, true, false] rfl rfl (any_of HT_.out (by kernel_rfl)) (fun _ _ _ h => h) (Or.inl ⟨by rfl, ?_⟩) ?_ ?_
                                                  rotate_left
                                                  · intro w'
                                                    go_simp
                                                    with_reducible rfl
                                                  rotate_left
                                                  · simp only [Act.put, List.setIfInBounds_toArray, List.set_cons_zero, List.set_cons_succ, i64_w, i32_w]
                                                    rfl
                                                  exact norm_ (by first | (simp only [putAll, Act.put, List.setIfInBounds_toArray, List.set_cons_zero, List.set_cons_succ]; done) | (simp only [putAll, Act.put, List.setIfInBounds_toArray, List.set_cons_zero, List.set_cons_succ]; rfl)) (hJ2_5_8_12_16_19_21 (gb269) _ ⟨(by (with_reducible repeat (first | refine blk_drewN ?_ _ | refine blk_drew ?_ | refine blk_alloc ?_ _)); exact BK259.out), (by (with_reducible repeat (first | refine blk_drewN ?_ _ | refine blk_drew ?_ | refine blk_alloc ?_ _)); exact BK269.out), GW269.out, GE269.out, NB259_269.out, NB269_259.out, (by repeat (first | (with_reducible first | exact HB.out | apply below_alloc | apply pw_below_drewN | apply below_drew1 | refine below_set ?_ GE259.out | refine below_set ?_ GE269.out) | exact HB.out))⟩)
                                              · skip
                                                rintro _ w44 ⟨h0_, h1_⟩
                                                have n0_ : Aside0 (w44.heap[gb259]? = some (.cells #[.int .i64 0, .int .i64 0, .int .u32 0, .int .u32 0, .int .i64 0, .int .i64 0, .slice none 0 0, .string (⟨#[]⟩ : ByteArray)] 35 (0, 0))) := ⟨h0_⟩
                                                have n1_ : Aside0 (Below w.heap.size w w44) := ⟨h1_⟩
                                                clear BK259
                                                clear HB
                                                clear h0_ h1_
                                                have BK259 := n0_
                                                have HB := n1_
                                                clear n0_ n1_
                                                have hHeld := trivial
                                                refine norm_ (a' := ?_) ?_ ?_
                                                rotate_left
                                                · simp only [putAll, Act.put, List.setIfInBounds_toArray, List.set_cons_zero, List.set_cons_succ]
                                                  rfl
                                                refine one_ (i := 21) (N := some 8) #[true, true, true, true, true, true, true, true, true, true, true, true, true, true, true, true, true, true, true, true, true, true, false] rfl rfl (one_of HT_.out (by kernel_rfl)) (by decide) (fun K hK => ?_)
                                                refine box_step ?hg (N := 8) ?hd (cs := #[.int .i64 0, .int .i64 0, .int .u32 0, .int .u32 0, .int .i64 0, .int .i64 0, .slice none 0 0, .string (⟨#[]⟩ : ByteArray)]) (t := 35) ?hr ?_; (case hd => rfl); (case hg => rfl); (case hr => first | (go_simp; done) | (go_simp; rfl))
                                                intro gb269 hg w45 hbox hb
                                                have n0_ := Aside0.mk (blk_below (g := gb259) (o := .cells #[.int .i64 0, .int .i64 0, .int .u32 0, .int .u32 0, .int .i64 0, .int .i64 0, .slice none 0 0, .string (⟨#[]⟩ : ByteArray)] 35 (0, 0)) (by (with_reducible repeat (first | refine blk_drewN ?_ _ | refine blk_drew ?_ | refine blk_alloc ?_ _)); exact BK259.out) hb)
                                                have n1_ := Aside0.mk (below_step (by repeat (first | (with_reducible first | exact HB.out | apply below_alloc | apply pw_below_drewN | apply below_drew1 | refine below_set ?_ GE259.out) | exact HB.out)) hb)
                                                have n2_ := Aside0.mk (hbox)
                                                have n3_ := Aside0.mk ((by rw [hg]; exact (below_size (by repeat (first | (with_reducible first | exact HB.out | apply below_alloc | apply pw_below_drewN | apply below_drew1 | refine below_set ?_ GE259.out) | exact HB.out))) : w.heap.size ≤ gb269))
                                                have n4_ := Aside0.mk ((by rw [hg]; exact (below_size (by repeat (first | (with_reducible first | exact HB.out | apply below_alloc | apply pw_below_drewN | apply below_drew1 | refine below_set ?_ GE259.out) | exact HB.out))) : w.heap.size ≤ gb269))
                                                have n5_ := Aside0.mk ((by rw [hg]; exact Nat.ne_of_lt (blk_lt (g := gb259) (o := .cells #[.int .i64 0, .int .i64 0, .int .u32 0, .int .u32 0, .int .i64 0, .int .i64 0, .slice none 0 0, .string (⟨#[]⟩ : ByteArray)] 35 (0, 0)) (by (with_reducible repeat (first | refine blk_drewN ?_ _ | refine blk_drew ?_ | refine blk_alloc ?_ _)); exact BK259.out)) : gb259 ≠ gb269))
                                                have n6_ := Aside0.mk ((by rw [hg]; exact Nat.ne_of_gt (blk_lt (g := gb259) (o := .cells #[.int .i64 0, .int .i64 0, .int .u32 0, .int .u32 0, .int .i64 0, .int .i64 0, .slice none 0 0, .string (⟨#[]⟩ : ByteArray)] 35 (0, 0)) (by (with_reducible repeat (first | refine blk_drewN ?_ _ | refine blk_drew ?_ | refine blk_alloc ?_ _)); exact BK259.out)) : gb269 ≠ gb259))
                                                clear BK259
                                                clear HB
                                                have BK259 := n0_
                                                have HB := n1_
                                                have BK269 := n2_
                                                have GW269 := n3_
                                                have GE269 := n4_
                                                have NB259_269 := n5_
                                                have NB269_259 := n6_
                                                clear n0_ n1_ n2_ n3_ n4_ n5_ n6_
                                                clear hb hbox hg
                                                refine hK.out _ _ trivial (fun hHeld => ?_)
                                                clear hK K
                                                refine norm_ (a' := ?_) ?_ ?_
                                                rotate_left
                                                · show Act.put _ (some 8) _ = _
                                                  simp only [Act.put, List.setIfInBounds_toArray, List.set_cons_zero, List.set_cons_succ, i64_w, i32_w]
                                                  rfl
                                                exact norm_ (by first | (simp only [putAll, Act.put, List.setIfInBounds_toArray, List.set_cons_zero, List.set_cons_succ]; done) | (simp only [putAll, Act.put, List.setIfInBounds_toArray, List.set_cons_zero, List.set_cons_succ]; rfl)) (hJ2_5_8_12_16_19_21 (gb269) _ ⟨(by (with_reducible repeat (first | refine blk_drewN ?_ _ | refine blk_drew ?_ | refine blk_alloc ?_ _)); exact BK259.out), (by (with_reducible repeat (first | refine blk_drewN ?_ _ | refine blk_drew ?_ | refine blk_alloc ?_ _)); exact BK269.out), GW269.out, GE269.out, NB259_269.out, NB269_259.out, (by repeat (first | (with_reducible first | exact HB.out | apply below_alloc | apply pw_below_drewN | apply below_drew1 | refine below_set ?_ GE259.out | refine below_set ?_ GE269.out) | exact HB.out))⟩)
                                            rintro gb269 w45 ⟨h0_, h1_, h2_, h3_, h4_, h5_, h6_⟩
                                            have n0_ : Aside0 (w45.heap[gb259]? = some (.cells #[.int .i64 0, .int .i64 0, .int .u32 0, .int .u32 0, .int .i64 0, .int .i64 0, .slice none 0 0, .string (⟨#[]⟩ : ByteArray)] 35 (0, 0))) := ⟨h0_⟩
                                            have n1_ : Aside0 (w45.heap[gb269]? = some (.cells #[.int .i64 0, .int .i64 0, .int .u32 0, .int .u32 0, .int .i64 0, .int .i64 0, .slice none 0 0, .string (⟨#[]⟩ : ByteArray)] 35 (0, 0))) := ⟨h1_⟩
                                            have n2_ : Aside0 (w.heap.size ≤ gb269) := ⟨h2_⟩
                                            have n3_ : Aside0 (w.heap.size ≤ gb269) := ⟨h3_⟩
                                            have n4_ : Aside0 (gb259 ≠ gb269) := ⟨h4_⟩
                                            have n5_ : Aside0 (gb269 ≠ gb259) := ⟨h5_⟩
                                            have n6_ : Aside0 (Below w.heap.size w w45) := ⟨h6_⟩
                                            clear BK259
                                            clear HB
                                            clear h0_ h1_ h2_ h3_ h4_ h5_ h6_
                                            have BK259 := n0_
                                            have BK269 := n1_
                                            have GW269 := n2_
                                            have GE269 := n3_
                                            have NB259_269 := n4_
                                            have NB269_259 := n5_
                                            have HB := n6_
                                            clear n0_ n1_ n2_ n3_ n4_ n5_ n6_
                                            have hHeld := trivial
                                            refine norm_ (a' := ?_) ?_ ?_
                                            rotate_left
                                            · simp only [putAll, Act.put, List.setIfInBounds_toArray, List.set_cons_zero, List.set_cons_succ]
                                              rfl
                                            refine one_ (i := 22) (N := none) #[true, true, true, true, true, true, true, true, true, true, true, true, true, true, true, true, true, true, true, true, true, true, true] rfl rfl (one_of HT_.out (by kernel_rfl)) (by decide) (fun K hK => ?_)
                                            have hs46 : w45.cell? ⟨gb269, 0, none⟩ = some (.int .i64 0) := (blk_cell BK269.out 0).trans rfl
                                            have hfs46 := blk_frozen BK269.out 0
                                            have hns46_0 := NB259_269.out
                                            have hms46_0 := NB269_259.out
                                            have hs47 : w45.cell? ⟨gb269, 1, none⟩ = some (.int .i64 0) := (blk_cell BK269.out 1).trans rfl
                                            have hfs47 := blk_frozen BK269.out 1
                                            have hns47_0 := NB259_269.out
                                            have hms47_0 := NB269_259.out
                                            have hs48 : w45.cell? ⟨gb269, 2, none⟩ = some (.int .u32 0) := (blk_cell BK269.out 2).trans rfl
                                            have hfs48 := blk_frozen BK269.out 2
                                            have hns48_0 := NB259_269.out
                                            have hms48_0 := NB269_259.out
                                            have hs49 : w45.cell? ⟨gb269, 3, none⟩ = some (.int .u32 0) := (blk_cell BK269.out 3).trans rfl
                                            have hfs49 := blk_frozen BK269.out 3
                                            have hns49_0 := NB259_269.out
                                            have hms49_0 := NB269_259.out
                                            have hs50 : w45.cell? ⟨gb269, 4, none⟩ = some (.int .i64 0) := (blk_cell BK269.out 4).trans rfl
                                            have hfs50 := blk_frozen BK269.out 4
                                            have hns50_0 := NB259_269.out
                                            have hms50_0 := NB269_259.out
                                            have hs51 : w45.cell? ⟨gb269, 5, none⟩ = some (.int .i64 0) := (blk_cell BK269.out 5).trans rfl
                                            have hfs51 := blk_frozen BK269.out 5
                                            have hns51_0 := NB259_269.out
                                            have hms51_0 := NB269_259.out
                                            have hs52 : w45.cell? ⟨gb269, 6, none⟩ = some (.slice none 0 0) := (blk_cell BK269.out 6).trans rfl
                                            have hfs52 := blk_frozen BK269.out 6
                                            have hns52_0 := NB259_269.out
                                            have hms52_0 := NB269_259.out
                                            have hs53 : w45.cell? ⟨gb269, 7, none⟩ = some (.string (⟨#[]⟩ : ByteArray)) := (blk_cell BK269.out 7).trans rfl
                                            have hfs53 := blk_frozen BK269.out 7
                                            have hns53_0 := NB259_269.out
                                            have hms53_0 := NB269_259.out
                                            refine skip_ (w1 := ?_) (by rfl) rfl ?_ ?_
                                            rotate_left
                                            · go_simp
                                              rfl
                                            refine hK.out _ _ trivial (fun hHeld => ?_)
                                            clear hK K
                                            refine done_ (done_of HT_.out (by kernel_rfl)) ?_
                                            try go_wp2_with (first | ((with_reducible refine gate_callee (f := 85) rfl ?_); refine goesL_ (some 53) rfl rfl Try.func85 (by kernel_rfl) rfl #[.string (a2.extract 13 14)] rfl (by (try simp only [List.map_toArray, List.map_cons, List.map_nil]); first | done | rfl | (simp only [List.length_drop, List.length_take]; rfl)) ?_; (with_reducible refine (patchbayref3_Read.calls k (a2.extract 13 14) t270 _ A38.out).mono ?_); rintro e w' ⟨rfl, ⟨nd, rfl⟩⟩; refine ⟨_, rfl, ?_⟩))
                                            go_loopg [9, 10] k (fun kq v9 v10 w' => ∃ (x9_1 : Int) (x10_1 : Int) (x260000_1 : Int) (x260001_1 : Int) (x260002_1 : Int) (x260003_1 : Int) (x260004_1 : Int) (x260005_1 : Int) (x260007_1 : ByteArray) (x270006_1 : List (S77)) (u270006 : Value), v9 = .int .i64 x9_1 ∧ v10 = .int .i64 x10_1 ∧ Aside0 (patchbayref3_SegOf.l0 kq a2 x9_1 x10_1 t263 t264 ((t265) % 4294967296) ((t266) % 4294967296) t267 t268 x270006_1 (⟨#[]⟩ : ByteArray) = some (r1, r2, r3, r4, r5, r6, r7, r8, r9)) ∧ Aside0 (kq ≤ k) ∧ Aside0 (Kd.R k77 77 w' w.heap.size (fun _ => True) u270006 x270006_1) ∧ Aside0 (w'.heap[gb259]? = some (.cells #[.int .i64 x260000_1, .int .i64 x260001_1, .int .u32 x260002_1, .int .u32 x260003_1, .int .i64 x260004_1, .int .i64 x260005_1, (.slice none 0 0), .string x260007_1] 35 (0, 0))) ∧ Aside0 (w'.heap[gb269]? = some (.cells #[.int .i64 t263, .int .i64 t264, .int .u32 ((t265) % 4294967296), .int .u32 ((t266) % 4294967296), .int .i64 t267, .int .i64 t268, u270006, .string (⟨#[]⟩ : ByteArray)] 35 (0, 0))) ∧ Aside0 (Below w.heap.size w w'))
                                            case atStart => exact ⟨(18), (t270), (0), (0), (0), (0), (0), (0), ((⟨#[]⟩ : ByteArray)), (([] : List (S77))), (.slice none 0 0), (by first | rfl | (simp; done) | (simp [*]; done)), (by first | rfl | (simp; done) | (simp [*]; done)), H', ⟨Nat.le_refl _⟩, ⟨by first | exact Kd.R_nil _ _ _ _ _ | exact Kd.N_nil _ _ _ _ _ | exact Kd.V_nil _ _ _ _ _ | exact Kd.Q_nil _ _ _ _ _ | exact Kd.S_nil _ _ _ _ _⟩, ⟨by (with_reducible repeat (first | refine blk_drewN ?_ _ | refine blk_drew ?_ | refine blk_alloc ?_ _)); refine blk_far ?_ NB259_269.out _; (with_reducible repeat (first | refine blk_drewN ?_ _ | refine blk_drew ?_ | refine blk_alloc ?_ _)); refine blk_far ?_ NB259_269.out _; (with_reducible repeat (first | refine blk_drewN ?_ _ | refine blk_drew ?_ | refine blk_alloc ?_ _)); refine blk_far ?_ NB259_269.out _; (with_reducible repeat (first | refine blk_drewN ?_ _ | refine blk_drew ?_ | refine blk_alloc ?_ _)); refine blk_far ?_ NB259_269.out _; (with_reducible repeat (first | refine blk_drewN ?_ _ | refine blk_drew ?_ | refine blk_alloc ?_ _)); refine blk_far ?_ NB259_269.out _; (with_reducible repeat (first | refine blk_drewN ?_ _ | refine blk_drew ?_ | refine blk_alloc ?_ _)); refine blk_far ?_ NB259_269.out _; (with_reducible repeat (first | refine blk_drewN ?_ _ | refine blk_drew ?_ | refine blk_alloc ?_ _)); refine blk_far ?_ NB259_269.out _; (with_reducible repeat (first | refine blk_drewN ?_ _ | refine blk_drew ?_ | refine blk_alloc ?_ _)); refine blk_far ?_ NB259_269.out _; (with_reducible repeat (first | refine blk_drewN ?_ _ | refine blk_drew ?_ | refine blk_alloc ?_ _)); exact BK259.out⟩, ⟨by (with_reducible repeat (first | refine blk_drewN ?_ _ | refine blk_drew ?_ | refine blk_alloc ?_ _)); refine blk_put (cs := #[.int .i64 t263, .int .i64 t264, .int .u32 ((t265) % 4294967296), .int .u32 ((t266) % 4294967296), .int .i64 t267, .int .i64 t268, .slice none 0 0, .string (⟨#[]⟩ : ByteArray)]) ?_ 7 _ rfl; (with_reducible repeat (first | refine blk_drewN ?_ _ | refine blk_drew ?_ | refine blk_alloc ?_ _)); refine blk_put (cs := #[.int .i64 t263, .int .i64 t264, .int .u32 ((t265) % 4294967296), .int .u32 ((t266) % 4294967296), .int .i64 t267, .int .i64 t268, .slice none 0 0, .string (⟨#[]⟩ : ByteArray)]) ?_ 6 _ rfl; (with_reducible repeat (first | refine blk_drewN ?_ _ | refine blk_drew ?_ | refine blk_alloc ?_ _)); refine blk_put (cs := #[.int .i64 t263, .int .i64 t264, .int .u32 ((t265) % 4294967296), .int .u32 ((t266) % 4294967296), .int .i64 t267, .int .i64 0, .slice none 0 0, .string (⟨#[]⟩ : ByteArray)]) ?_ 5 _ rfl; (with_reducible repeat (first | refine blk_drewN ?_ _ | refine blk_drew ?_ | refine blk_alloc ?_ _)); refine blk_put (cs := #[.int .i64 t263, .int .i64 t264, .int .u32 ((t265) % 4294967296), .int .u32 ((t266) % 4294967296), .int .i64 0, .int .i64 0, .slice none 0 0, .string (⟨#[]⟩ : ByteArray)]) ?_ 4 _ rfl; (with_reducible repeat (first | refine blk_drewN ?_ _ | refine blk_drew ?_ | refine blk_alloc ?_ _)); refine blk_put (cs := #[.int .i64 t263, .int .i64 t264, .int .u32 ((t265) % 4294967296), .int .u32 0, .int .i64 0, .int .i64 0, .slice none 0 0, .string (⟨#[]⟩ : ByteArray)]) ?_ 3 _ rfl; (with_reducible repeat (first | refine blk_drewN ?_ _ | refine blk_drew ?_ | refine blk_alloc ?_ _)); refine blk_put (cs := #[.int .i64 t263, .int .i64 t264, .int .u32 0, .int .u32 0, .int .i64 0, .int .i64 0, .slice none 0 0, .string (⟨#[]⟩ : ByteArray)]) ?_ 2 _ rfl; (with_reducible repeat (first | refine blk_drewN ?_ _ | refine blk_drew ?_ | refine blk_alloc ?_ _)); refine blk_put (cs := #[.int .i64 t263, .int .i64 0, .int .u32 0, .int .u32 0, .int .i64 0, .int .i64 0, .slice none 0 0, .string (⟨#[]⟩ : ByteArray)]) ?_ 1 _ rfl; (with_reducible repeat (first | refine blk_drewN ?_ _ | refine blk_drew ?_ | refine blk_alloc ?_ _)); refine blk_put (cs := #[.int .i64 0, .int .i64 0, .int .u32 0, .int .u32 0, .int .i64 0, .int .i64 0, .slice none 0 0, .string (⟨#[]⟩ : ByteArray)]) ?_ 0 _ rfl; (with_reducible repeat (first | refine blk_drewN ?_ _ | refine blk_drew ?_ | refine blk_alloc ?_ _)); exact BK269.out⟩, ⟨by repeat (first | (with_reducible first | exact HB.out | apply below_alloc | apply pw_below_drewN | apply below_drew1 | refine below_set ?_ GE259.out | refine below_set ?_ GE269.out) | exact HB.out)⟩⟩
                                            case round =>
                                              clear H'
                                              try clear p2
                                              try clear c8
                                              obtain ⟨x9_1, x10_1, x260000_1, x260001_1, x260002_1, x260003_1, x260004_1, x260005_1, x260007_1, x270006_1, u270006, rfl, rfl, HA, HK1, HO_270006, BK259, BK269, HB⟩ := hrel
                                              cases gk with
                                              | zero => exact absurd HA.out (by simp [patchbayref3_SegOf.l0])
                                              | succ k1 =>
                                                have H := HA.out
                                                clear HA
                                                simp only [patchbayref3_SegOf.l0] at H
                                                by_cases c54 : x10_1 > 0
                                                · rw [if_pos c54] at H
                                                  have c54b0 : decide (0 < x10_1) = true := decide_eq_true c54
                                                  clear c54
                                                  have HC55 := Aside0.mk H
                                                  clear H
                                                  go_upto_region 10 with (fail)
                                                  go_cut [68] (fun v68 wc => ∃ (kq : Nat) (x68_54 : Bool), v68 = .bool x68_54 ∧ Aside0 (patchbayref3_SegOf.j1 kq a2 x9_1 x10_1 x68_54 t263 t264 ((t265) % 4294967296) ((t266) % 4294967296) t267 t268 x270006_1 (⟨#[]⟩ : ByteArray) = some (r1, r2, r3, r4, r5, r6, r7, r8, r9)) ∧ Aside0 (kq ≤ k1) ∧ Aside0 (Kd.R k77 77 wc w.heap.size (fun _ => True) u270006 x270006_1) ∧ Aside0 (wc.heap[gb259]? = some (.cells #[.int .i64 x260000_1, .int .i64 x260001_1, .int .u32 x260002_1, .int .u32 x260003_1, .int .i64 x260004_1, .int .i64 x260005_1, (.slice none 0 0), .string x260007_1] 35 (0, 0))) ∧ Aside0 (wc.heap[gb269]? = some (.cells #[.int .i64 t263, .int .i64 t264, .int .u32 ((t265) % 4294967296), .int .u32 ((t266) % 4294967296), .int .i64 t267, .int .i64 t268, u270006, .string (⟨#[]⟩ : ByteArray)] 35 (0, 0))) ∧ Aside0 (Below w.heap.size w wc))
                                                  case first =>
                                                    have H := HC55.out
                                                    clear HC55
                                                    by_cases c56 : (a2.size : Int) < (wrap64 (x9_1 + 8))
                                                    · rw [if_pos c56] at H
                                                      have c56b0 : decide ((a2.size : Int) < (wrap64 (x9_1 + 8))) = true := decide_eq_true c56
                                                      clear c56
                                                      (first | rw [c56b0] | (simp only [i64_w, i32_w]; rw [c56b0]) | skip)
                                                      have H' := Aside0.mk H
                                                      clear H
                                                      go_wp2
                                                      go_meet
                                                      case rel => exact ⟨_, (true), (by first | rfl | (simp; done) | (simp [*]; done)), H', ⟨by have := HK1.out; first | omega | exact Nat.le_refl _⟩, ⟨by (with_reducible repeat (first | apply Kd.R_alloc | apply Kd.R_drewN | apply Kd.R_drew)); exact HO_270006.out⟩, ⟨by (with_reducible repeat (first | refine blk_drewN ?_ _ | refine blk_drew ?_ | refine blk_alloc ?_ _)); exact BK259.out⟩, ⟨by (with_reducible repeat (first | refine blk_drewN ?_ _ | refine blk_drew ?_ | refine blk_alloc ?_ _)); exact BK269.out⟩, ⟨by repeat (first | (with_reducible first | exact HB.out | apply below_alloc | apply pw_below_drewN | apply below_drew1 | refine below_set ?_ GE259.out | refine below_set ?_ GE269.out) | exact HB.out)⟩⟩
                                                    · rw [if_neg c56] at H
                                                      have c56b0 : decide ((a2.size : Int) < (wrap64 (x9_1 + 8))) = false := decide_eq_false c56
                                                      clear c56
                                                      (first | rw [c56b0] | (simp only [i64_w, i32_w]; rw [c56b0]) | skip)
                                                      have H' := Aside0.mk H
                                                      clear H
                                                      have hnb57 := NB269_259.out
                                                      have hnc57 := NB259_269.out
                                                      have hcz58_0 : wr.cell? ⟨gb269, 0, none⟩ = some (.int .i64 t263) := (blk_cell BK269.out 0).trans rfl
                                                      have hcz58_1 : wr.cell? ⟨gb269, 1, none⟩ = some (.int .i64 t264) := (blk_cell BK269.out 1).trans rfl
                                                      have hcz58_2 : wr.cell? ⟨gb269, 2, none⟩ = some (.int .u32 ((t265) % 4294967296)) := (blk_cell BK269.out 2).trans rfl
                                                      have hcz58_3 : wr.cell? ⟨gb269, 3, none⟩ = some (.int .u32 ((t266) % 4294967296)) := (blk_cell BK269.out 3).trans rfl
                                                      have hcz58_4 : wr.cell? ⟨gb269, 4, none⟩ = some (.int .i64 t267) := (blk_cell BK269.out 4).trans rfl
                                                      have hcz58_5 : wr.cell? ⟨gb269, 5, none⟩ = some (.int .i64 t268) := (blk_cell BK269.out 5).trans rfl
                                                      have hcz58_6 : wr.cell? ⟨gb269, 6, none⟩ = some (u270006) := (blk_cell BK269.out 6).trans rfl
                                                      have hcz58_7 : wr.cell? ⟨gb269, 7, none⟩ = some (.string (⟨#[]⟩ : ByteArray)) := (blk_cell BK269.out 7).trans rfl
                                                      have hfz58_0 := blk_frozen BK269.out 0
                                                      have hfz58_1 := blk_frozen BK269.out 1
                                                      have hfz58_2 := blk_frozen BK269.out 2
                                                      have hfz58_3 := blk_frozen BK269.out 3
                                                      have hfz58_4 := blk_frozen BK269.out 4
                                                      have hfz58_5 := blk_frozen BK269.out 5
                                                      have hfz58_6 := blk_frozen BK269.out 6
                                                      have hfz58_7 := blk_frozen BK269.out 7
                                                      obtain ⟨Ao59, co59, eo59⟩ := Kd.R_slice HO_270006.out
                                                      subst eo59
                                                      go_wp2
                                                      go_meet
                                                      case rel => exact ⟨_, (((x270006_1.length : Int) == 3)), (by first | rfl | (simp; done) | (simp [*]; done)), H', ⟨by have := HK1.out; first | omega | exact Nat.le_refl _⟩, ⟨by (with_reducible repeat (first | apply Kd.R_alloc | apply Kd.R_drewN | apply Kd.R_drew)); exact HO_270006.out⟩, ⟨by (with_reducible repeat (first | refine blk_drewN ?_ _ | refine blk_drew ?_ | refine blk_alloc ?_ _)); exact BK259.out⟩, ⟨by (with_reducible repeat (first | refine blk_drewN ?_ _ | refine blk_drew ?_ | refine blk_alloc ?_ _)); exact BK269.out⟩, ⟨by repeat (first | (with_reducible first | exact HB.out | apply below_alloc | apply pw_below_drewN | apply below_drew1 | refine below_set ?_ GE259.out | refine below_set ?_ GE269.out) | exact HB.out)⟩⟩
                                                  case rest =>
                                                    clear HC55
                                                    try clear p2
                                                    try clear c5
                                                    try clear p6
                                                    try clear c8
                                                    try clear c54
                                                    try clear c54b0
                                                    try clear c56
                                                    try clear c56b0
                                                    try clear c57
                                                    try clear hcz58_0
                                                    try clear hcz58_1
                                                    try clear hcz58_2
                                                    try clear hcz58_3
                                                    try clear hcz58_4
                                                    try clear hcz58_5
                                                    try clear hcz58_6
                                                    try clear hcz58_7
                                                    try clear hfz58_0
                                                    try clear hfz58_1
                                                    try clear hfz58_2
                                                    try clear hfz58_3
                                                    try clear hfz58_4
                                                    try clear hfz58_5
                                                    try clear hfz58_6
                                                    try clear hfz58_7
                                                    try clear p2
                                                    obtain ⟨kq, x68_54, rfl, HA, HJ54, HO_270006, BK259, BK269, HB⟩ := hcut
                                                    cases kq with
                                                    | zero => exact absurd HA.out (by simp [patchbayref3_SegOf.j1])
                                                    | succ kj54 =>
                                                      have H := HA.out
                                                      clear HA
                                                      simp only [patchbayref3_SegOf.j1] at H
                                                      by_cases c60 : x68_54 = true
                                                      · subst c60
                                                        have H1 : (some (0, 0, 0, 0, 0, 0, ([] : List (S77)), (⟨#[]⟩ : ByteArray), 3)) = some (r1, r2, r3, r4, r5, r6, r7, r8, r9) := by rw [if_pos rfl] at H; exact H
                                                        clear H
                                                        have H := H1
                                                        clear H1
                                                        simp only [Option.some.injEq, Prod.mk.injEq] at H
                                                        obtain ⟨rfl, rfl, rfl, rfl, rfl, rfl, rfl, rfl, rfl⟩ := H
                                                        have hnb61 := NB259_269.out
                                                        have hnc61 := NB269_259.out
                                                        have hcz62_0 : wc.cell? ⟨gb259, 0, none⟩ = some (.int .i64 x260000_1) := (blk_cell BK259.out 0).trans rfl
                                                        have hcz62_1 : wc.cell? ⟨gb259, 1, none⟩ = some (.int .i64 x260001_1) := (blk_cell BK259.out 1).trans rfl
                                                        have hcz62_2 : wc.cell? ⟨gb259, 2, none⟩ = some (.int .u32 x260002_1) := (blk_cell BK259.out 2).trans rfl
                                                        have hcz62_3 : wc.cell? ⟨gb259, 3, none⟩ = some (.int .u32 x260003_1) := (blk_cell BK259.out 3).trans rfl
                                                        have hcz62_4 : wc.cell? ⟨gb259, 4, none⟩ = some (.int .i64 x260004_1) := (blk_cell BK259.out 4).trans rfl
                                                        have hcz62_5 : wc.cell? ⟨gb259, 5, none⟩ = some (.int .i64 x260005_1) := (blk_cell BK259.out 5).trans rfl
                                                        have hcz62_6 : wc.cell? ⟨gb259, 6, none⟩ = some (.slice none 0 0) := (blk_cell BK259.out 6).trans rfl
                                                        have hcz62_7 : wc.cell? ⟨gb259, 7, none⟩ = some (.string x260007_1) := (blk_cell BK259.out 7).trans rfl
                                                        have hfz62_0 := blk_frozen BK259.out 0
                                                        have hfz62_1 := blk_frozen BK259.out 1
                                                        have hfz62_2 := blk_frozen BK259.out 2
                                                        have hfz62_3 := blk_frozen BK259.out 3
                                                        have hfz62_4 := blk_frozen BK259.out 4
                                                        have hfz62_5 := blk_frozen BK259.out 5
                                                        have hfz62_6 := blk_frozen BK259.out 6
                                                        have hfz62_7 := blk_frozen BK259.out 7
                                                        go_wp2
                                                        refine bodyPost_ret (results_ct rfl _ _ gb259 35 #[.int .i64 0, .int .i64 0, .int .u32 0, .int .u32 0, .int .i64 0, .int .i64 0, .slice none 0 0, .string (⟨#[]⟩ : ByteArray)] (0, 0) _ rfl (by (with_reducible repeat (first | refine blk_drewN ?_ _ | refine blk_drew ?_ | refine blk_alloc ?_ _)); refine blk_put (cs := #[.int .i64 0, .int .i64 0, .int .u32 0, .int .u32 0, .int .i64 0, .int .i64 0, .slice none 0 0, .string x260007_1]) ?_ 7 _ rfl; (with_reducible repeat (first | refine blk_drewN ?_ _ | refine blk_drew ?_ | refine blk_alloc ?_ _)); refine blk_put (cs := #[.int .i64 0, .int .i64 0, .int .u32 0, .int .u32 0, .int .i64 0, .int .i64 0, .slice none 0 0, .string x260007_1]) ?_ 6 _ rfl; (with_reducible repeat (first | refine blk_drewN ?_ _ | refine blk_drew ?_ | refine blk_alloc ?_ _)); refine blk_put (cs := #[.int .i64 0, .int .i64 0, .int .u32 0, .int .u32 0, .int .i64 0, .int .i64 x260005_1, .slice none 0 0, .string x260007_1]) ?_ 5 _ rfl; (with_reducible repeat (first | refine blk_drewN ?_ _ | refine blk_drew ?_ | refine blk_alloc ?_ _)); refine blk_put (cs := #[.int .i64 0, .int .i64 0, .int .u32 0, .int .u32 0, .int .i64 x260004_1, .int .i64 x260005_1, .slice none 0 0, .string x260007_1]) ?_ 4 _ rfl; (with_reducible repeat (first | refine blk_drewN ?_ _ | refine blk_drew ?_ | refine blk_alloc ?_ _)); refine blk_put (cs := #[.int .i64 0, .int .i64 0, .int .u32 0, .int .u32 x260003_1, .int .i64 x260004_1, .int .i64 x260005_1, .slice none 0 0, .string x260007_1]) ?_ 3 _ rfl; (with_reducible repeat (first | refine blk_drewN ?_ _ | refine blk_drew ?_ | refine blk_alloc ?_ _)); refine blk_put (cs := #[.int .i64 0, .int .i64 0, .int .u32 x260002_1, .int .u32 x260003_1, .int .i64 x260004_1, .int .i64 x260005_1, .slice none 0 0, .string x260007_1]) ?_ 2 _ rfl; (with_reducible repeat (first | refine blk_drewN ?_ _ | refine blk_drew ?_ | refine blk_alloc ?_ _)); refine blk_put (cs := #[.int .i64 0, .int .i64 x260001_1, .int .u32 x260002_1, .int .u32 x260003_1, .int .i64 x260004_1, .int .i64 x260005_1, .slice none 0 0, .string x260007_1]) ?_ 1 _ rfl; (with_reducible repeat (first | refine blk_drewN ?_ _ | refine blk_drew ?_ | refine blk_alloc ?_ _)); refine blk_put (cs := #[.int .i64 x260000_1, .int .i64 x260001_1, .int .u32 x260002_1, .int .u32 x260003_1, .int .i64 x260004_1, .int .i64 x260005_1, .slice none 0 0, .string x260007_1]) ?_ 0 _ rfl; (with_reducible repeat (first | refine blk_drewN ?_ _ | refine blk_drew ?_ | refine blk_alloc ?_ _)); exact BK259.out) Try.underlying35 rfl (by kernel_rfl)) rfl ?_
                                                        exact ⟨_, by first | rfl | (simp [errW_none, errW_some] <;> rfl) | (simp [*, errW_none, errW_some] <;> rfl), by first | exact Kd.R_nil _ _ _ _ _ | exact Kd.N_nil _ _ _ _ _ | exact Kd.V_nil _ _ _ _ _ | exact Kd.Q_nil _ _ _ _ _ | exact Kd.S_nil _ _ _ _ _, by repeat (first | (with_reducible first | exact HB.out | apply below_alloc | apply pw_below_drewN | apply below_drew1 | refine below_set ?_ GE259.out | refine below_set ?_ GE269.out) | exact HB.out)⟩
                                                      · replace c60 := Bool.eq_false_iff.mpr c60
                                                        subst c60
                                                        have H1 : (if 0 ≤ x9_1 then (if x9_1 ≤ (wrap64 (x9_1 + 4)) then (if (wrap64 (x9_1 + 4)) ≤ (a2.size : Int) then ((patchbayref3_Read.f kj54 (a2.extract (x9_1 : Int).toNat ((wrap64 (x9_1 + 4)) : Int).toNat)).bind fun t272 => (if 0 ≤ (wrap64 (x9_1 + 4)) then (if (wrap64 (x9_1 + 4)) ≤ (wrap64 (x9_1 + 8)) then (if (wrap64 (x9_1 + 8)) ≤ (a2.size : Int) then ((patchbayref3_Read.f kj54 (a2.extract ((wrap64 (x9_1 + 4)) : Int).toNat ((wrap64 (x9_1 + 8)) : Int).toNat)).bind fun t273 => (if x270006_1.length < 17592186044416 then (patchbayref3_SegOf.l0 kj54 a2 (wrap64 (x9_1 + 8)) (wrap64 (x10_1 - 1)) t263 t264 ((t265) % 4294967296) ((t266) % 4294967296) t267 t268 (x270006_1 ++ [(⟨(t272) % 4294967296, (t273) % 4294967296⟩ : S77)]) (⟨#[]⟩ : ByteArray)) else (none))) else (none)) else (none)) else (none))) else (none)) else (none)) else (none)) = some (r1, r2, r3, r4, r5, r6, r7, r8, r9) := by rw [if_neg (show ¬ (false = true) by decide)] at H; exact H
                                                        clear H
                                                        have H := H1
                                                        clear H1
                                                        by_cases c63 : 0 ≤ x9_1
                                                        · rw [if_pos c63] at H
                                                          have c63b0 := eq_true c63
                                                          have c63b1 : decide (0 ≤ x9_1) = true := decide_eq_true c63
                                                          clear c63
                                                          by_cases c64 : x9_1 ≤ (wrap64 (x9_1 + 4))
                                                          · rw [if_pos c64] at H
                                                            have c64b0 := eq_true c64
                                                            have c64b1 : decide (x9_1 ≤ (wrap64 (x9_1 + 4))) = true := decide_eq_true c64
                                                            by_cases c65 : (wrap64 (x9_1 + 4)) ≤ (a2.size : Int)
                                                            · rw [if_pos c65] at H
                                                              have c65b0 := eq_true c65
                                                              have c65b1 : decide ((wrap64 (x9_1 + 4)) ≤ (a2.size : Int)) = true := decide_eq_true c65
                                                              replace H := Option.bind_eq_some_iff.mp H
                                                              obtain ⟨t272, A660, H⟩ := H
                                                              replace H : (if 0 ≤ (wrap64 (x9_1 + 4)) then (if (wrap64 (x9_1 + 4)) ≤ (wrap64 (x9_1 + 8)) then (if (wrap64 (x9_1 + 8)) ≤ (a2.size : Int) then ((patchbayref3_Read.f kj54 (a2.extract ((wrap64 (x9_1 + 4)) : Int).toNat ((wrap64 (x9_1 + 8)) : Int).toNat)).bind fun t273 => (if x270006_1.length < 17592186044416 then (patchbayref3_SegOf.l0 kj54 a2 (wrap64 (x9_1 + 8)) (wrap64 (x10_1 - 1)) t263 t264 ((t265) % 4294967296) ((t266) % 4294967296) t267 t268 (x270006_1 ++ [(⟨(t272) % 4294967296, (t273) % 4294967296⟩ : S77)]) (⟨#[]⟩ : ByteArray)) else (none))) else (none)) else (none)) else (none)) = some (r1, r2, r3, r4, r5, r6, r7, r8, r9) := H
                                                              have A66 := Aside0.mk A660
                                                              clear A660
                                                              obtain ⟨ji67, hji67⟩ : ∃ j_ : Int, (wrap64 (x9_1 + 4)) = j_ := ⟨_, rfl⟩
                                                              replace H : (if 0 ≤ (ji67) then (if (ji67) ≤ (wrap64 (x9_1 + 8)) then (if (wrap64 (x9_1 + 8)) ≤ (a2.size : Int) then ((patchbayref3_Read.f kj54 (a2.extract ((ji67) : Int).toNat ((wrap64 (x9_1 + 8)) : Int).toNat)).bind fun t273 => (if x270006_1.length < 17592186044416 then (patchbayref3_SegOf.l0 kj54 a2 (wrap64 (x9_1 + 8)) (wrap64 (x10_1 - 1)) t263 t264 ((t265) % 4294967296) ((t266) % 4294967296) t267 t268 (x270006_1 ++ [(⟨(t272) % 4294967296, (t273) % 4294967296⟩ : S77)]) (⟨#[]⟩ : ByteArray)) else (none))) else (none)) else (none)) else (none)) = some (r1, r2, r3, r4, r5, r6, r7, r8, r9) := by first | (rw [hji67] at H; exact H) | (simp only [hji67] at H ⊢; exact H)
                                                              (try rw [hji67] at c64b0)
                                                              (try rw [hji67] at c64b1)
                                                              (try rw [hji67] at c64)
                                                              (try rw [hji67] at c65b0)
                                                              (try rw [hji67] at c65b1)
                                                              (try rw [hji67] at c65)
                                                              (try rw [hji67] at A66)
                                                              have hji67w : (IntKind.i64.wrap (x9_1 + 4)) = ji67 := (i64_w _).trans hji67
                                                              by_cases c68 : 0 ≤ (ji67)
                                                              · rw [if_pos c68] at H
                                                                have c68b0 := eq_true c68
                                                                have c68b1 : decide (0 ≤ (ji67)) = true := decide_eq_true c68
                                                                clear c68
                                                                by_cases c69 : (ji67) ≤ (wrap64 (x9_1 + 8))
                                                                · rw [if_pos c69] at H
                                                                  have c69b0 := eq_true c69
                                                                  have c69b1 : decide ((ji67) ≤ (wrap64 (x9_1 + 8))) = true := decide_eq_true c69
                                                                  by_cases c70 : (wrap64 (x9_1 + 8)) ≤ (a2.size : Int)
                                                                  · rw [if_pos c70] at H
                                                                    have c70b0 := eq_true c70
                                                                    have c70b1 : decide ((wrap64 (x9_1 + 8)) ≤ (a2.size : Int)) = true := decide_eq_true c70
                                                                    replace H := Option.bind_eq_some_iff.mp H
                                                                    obtain ⟨t273, A710, H⟩ := H
                                                                    replace H : (if x270006_1.length < 17592186044416 then (patchbayref3_SegOf.l0 kj54 a2 (wrap64 (x9_1 + 8)) (wrap64 (x10_1 - 1)) t263 t264 ((t265) % 4294967296) ((t266) % 4294967296) t267 t268 (x270006_1 ++ [(⟨(t272) % 4294967296, (t273) % 4294967296⟩ : S77)]) (⟨#[]⟩ : ByteArray)) else (none)) = some (r1, r2, r3, r4, r5, r6, r7, r8, r9) := H
                                                                    have A71 := Aside0.mk A710
                                                                    clear A710
                                                                    by_cases c72 : x270006_1.length < 17592186044416
                                                                    · rw [if_pos c72] at H
                                                                      have LMc72 := Aside0.mk c72
                                                                      clear c72
                                                                      obtain ⟨y274, hy274⟩ : ∃ y_ : List (S77), y_ = (x270006_1 ++ [(⟨(t272) % 4294967296, (t273) % 4294967296⟩ : S77)]) := ⟨_, rfl⟩
                                                                      replace H : (patchbayref3_SegOf.l0 kj54 a2 (wrap64 (x9_1 + 8)) (wrap64 (x10_1 - 1)) t263 t264 ((t265) % 4294967296) ((t266) % 4294967296) t267 t268 y274 (⟨#[]⟩ : ByteArray)) = some (r1, r2, r3, r4, r5, r6, r7, r8, r9) := by first | (rw [hy274]; with_reducible exact H) | (have H2_ := (Option.bind_some _ _).symm.trans H; rw [hy274]; with_reducible exact H2_) | (have H2_ := (Option.bind_some _ _).symm.trans H; with_reducible exact H2_) | with_reducible exact H | (rw [hy274]; exact H) | exact H
                                                                      have Ny274 := Aside0.mk hy274
                                                                      clear hy274
                                                                      have H' := Aside0.mk H
                                                                      clear H
                                                                      try go_wp2
                                                                      have n0_ := Aside0.mk (Kd.R_drew HO_270006.out)
                                                                      have n1_ := Aside0.mk (blk_drew BK259.out)
                                                                      have n2_ := Aside0.mk (blk_drew BK269.out)
                                                                      have n3_ := Aside0.mk (below_drew1 HB.out)
                                                                      clear HO_270006
                                                                      clear BK259
                                                                      clear BK269
                                                                      clear HB
                                                                      have HO_270006 := n0_
                                                                      have BK259 := n1_
                                                                      have BK269 := n2_
                                                                      have HB := n3_
                                                                      clear n0_ n1_ n2_ n3_
                                                                      refine start_ (n := 22) (S := fun w' => w'.cell? ⟨gb269, 0, none⟩ = some (.int .i64 t263) ∧ w'.cell? ⟨gb269, 1, none⟩ = some (.int .i64 t264) ∧ w'.cell? ⟨gb269, 2, none⟩ = some (.int .u32 ((t265) % 4294967296)) ∧ w'.cell? ⟨gb269, 3, none⟩ = some (.int .u32 ((t266) % 4294967296)) ∧ w'.cell? ⟨gb269, 4, none⟩ = some (.int .i64 t267) ∧ w'.cell? ⟨gb269, 5, none⟩ = some (.int .i64 t268) ∧ w'.cell? ⟨gb269, 6, none⟩ = some (u270006) ∧ w'.cell? ⟨gb269, 7, none⟩ = some (.string (⟨#[]⟩ : ByteArray))) (ds := [21]) #[false, false, false, false, false, false, false, false, false, false, false, false, false, false, false, false, false, false, false, false, false, false] (by kernel_rfl) rfl rfl ⟨(blk_cell BK269.out 0).trans rfl, (blk_cell BK269.out 1).trans rfl, (blk_cell BK269.out 2).trans rfl, (blk_cell BK269.out 3).trans rfl, (blk_cell BK269.out 4).trans rfl, (blk_cell BK269.out 5).trans rfl, (blk_cell BK269.out 6).trans rfl, (blk_cell BK269.out 7).trans rfl⟩ (fun hHeld => ?_); refine with_tabW patchbayref3_SegOf.tab12 patchbayref3_SegOf.bits12 (fun HT_ HW_ => ?_)
                                                                      generalize wc.drew = w73 at HO_270006 BK259 BK269 HB hHeld ⊢
                                                                      refine pure_ (i := 0) (N := some 70) (v := ?_) (a' := ?_) #[true, false, false, false, false, false, false, false, false, false, false, false, false, false, false, false, false, false, false, false, false, false] rfl rfl (any_of HT_.out (by kernel_rfl)) (fun _ _ _ h => h) (Or.inl ⟨by rfl, ?_⟩) ?_ ?_
                                                                      rotate_left
                                                                      · intro w'
                                                                        go_simp
                                                                        with_reducible rfl
                                                                      rotate_left
                                                                      · simp only [Act.put, List.setIfInBounds_toArray, List.set_cons_zero, List.set_cons_succ, i64_w, i32_w]
                                                                        rfl
                                                                      refine pure_ (i := 2) (N := some 72) (v := ?_) (a' := ?_) #[true, false, true, false, false, false, false, false, false, false, false, false, false, false, false, false, false, false, false, false, false, false] rfl rfl (any_of HT_.out (by kernel_rfl)) (fun _ _ _ h => h) (Or.inl ⟨by rfl, ?_⟩) ?_ ?_
                                                                      rotate_left
                                                                      · intro w'
                                                                        go_simp
                                                                        with_reducible rfl
                                                                      rotate_left
                                                                      · simp only [Act.put, List.setIfInBounds_toArray, List.set_cons_zero, List.set_cons_succ, i64_w, i32_w]
                                                                        rfl
                                                                      refine pure_ (i := 3) (N := some 73) (v := ?_) (a' := ?_) #[true, false, true, true, false, false, false, false, false, false, false, false, false, false, false, false, false, false, false, false, false, false] rfl rfl (any_of HT_.out (by kernel_rfl)) (fun _ _ _ h => h) (Or.inl ⟨by rfl, ?_⟩) ?_ ?_
                                                                      rotate_left
                                                                      · intro w'
                                                                        go_simp
                                                                        with_reducible rfl
                                                                      rotate_left
                                                                      · simp only [Act.put, List.setIfInBounds_toArray, List.set_cons_zero, List.set_cons_succ, i64_w, i32_w]
                                                                        rfl
                                                                      refine pure_ (i := 4) (N := some 74) (v := ?_) (a' := ?_) #[true, false, true, true, true, false, false, false, false, false, false, false, false, false, false, false, false, false, false, false, false, false] rfl rfl (any_of HT_.out (by kernel_rfl)) (fun _ _ _ h => h) (Or.inl ⟨by rfl, ?_⟩) ?_ ?_
                                                                      rotate_left
                                                                      · intro w'
                                                                        go_simp
                                                                        with_reducible rfl
                                                                      rotate_left
                                                                      · simp only [Act.put, List.setIfInBounds_toArray, List.set_cons_zero, List.set_cons_succ, i64_w, i32_w]
                                                                        rfl
                                                                      refine pure_ (i := 5) (N := some 75) (v := ?_) (a' := ?_) #[true, false, true, true, true, true, false, false, false, false, false, false, false, false, false, false, false, false, false, false, false, false] rfl rfl (any_of HT_.out (by kernel_rfl)) (fun _ _ _ h => h) (Or.inl ⟨by rfl, ?_⟩) ?_ ?_
                                                                      rotate_left
                                                                      · intro w'
                                                                        go_simp
                                                                        with_reducible rfl
                                                                      rotate_left
                                                                      · simp only [Act.put, List.setIfInBounds_toArray, List.set_cons_zero, List.set_cons_succ, i64_w, i32_w]
                                                                        rfl
                                                                      refine pure_ (i := 6) (N := some 76) (v := ?_) (a' := ?_) #[true, false, true, true, true, true, true, false, false, false, false, false, false, false, false, false, false, false, false, false, false, false] rfl rfl (any_of HT_.out (by kernel_rfl)) (fun _ _ _ h => h) (Or.inl ⟨by rfl, ?_⟩) ?_ ?_
                                                                      rotate_left
                                                                      · intro w'
                                                                        go_simp
                                                                        with_reducible rfl
                                                                      rotate_left
                                                                      · simp only [Act.put, List.setIfInBounds_toArray, List.set_cons_zero, List.set_cons_succ, i64_w, i32_w]
                                                                        rfl
                                                                      refine pure_ (i := 9) (N := some 79) (v := ?_) (a' := ?_) #[true, false, true, true, true, true, true, false, false, true, false, false, false, false, false, false, false, false, false, false, false, false] rfl rfl (any_of HT_.out (by kernel_rfl)) (fun _ _ _ h => h) (Or.inl ⟨by rfl, ?_⟩) ?_ ?_
                                                                      rotate_left
                                                                      · intro w'
                                                                        go_simp
                                                                        with_reducible rfl
                                                                      rotate_left
                                                                      · simp only [Act.put, List.setIfInBounds_toArray, List.set_cons_zero, List.set_cons_succ, i64_w, i32_w]
                                                                        rfl
                                                                      refine pure_ (i := 10) (N := some 80) (v := ?_) (a' := ?_) #[true, false, true, true, true, true, true, false, false, true, true, false, false, false, false, false, false, false, false, false, false, false] rfl rfl (any_of HT_.out (by kernel_rfl)) (fun _ _ _ h => h) (Or.inl ⟨by rfl, ?_⟩) ?_ ?_
                                                                      rotate_left
                                                                      · intro w'
                                                                        go_simp
                                                                        with_reducible rfl
                                                                      rotate_left
                                                                      · simp only [Act.put, List.setIfInBounds_toArray, List.set_cons_zero, List.set_cons_succ, i64_w, i32_w]
                                                                        rfl
                                                                      refine pure_ (i := 11) (N := some 81) (v := ?_) (a' := ?_) #[true, false, true, true, true, true, true, false, false, true, true, true, false, false, false, false, false, false, false, false, false, false] rfl rfl (any_of HT_.out (by kernel_rfl)) (fun _ _ _ h => h) (Or.inl ⟨by rfl, ?_⟩) ?_ ?_
                                                                      rotate_left
                                                                      · intro w'
                                                                        go_simp
                                                                        with_reducible rfl
                                                                      rotate_left
                                                                      · simp only [Act.put, List.setIfInBounds_toArray, List.set_cons_zero, List.set_cons_succ, i64_w, i32_w]
                                                                        rfl
                                                                      refine pure_ (i := 12) (N := some 82) (v := ?_) (a' := ?_) #[true, false, true, true, true, true, true, false, false, true, true, true, true, false, false, false, false, false, false, false, false, false] rfl rfl (any_of HT_.out (by kernel_rfl)) (fun _ _ _ h => h) (Or.inl ⟨by rfl, ?_⟩) ?_ ?_
                                                                      rotate_left
                                                                      · intro w'
                                                                        go_simp
                                                                        with_reducible rfl
                                                                      rotate_left
                                                                      · simp only [Act.put, List.setIfInBounds_toArray, List.set_cons_zero, List.set_cons_succ, i64_w, i32_w]
                                                                        rfl
                                                                      refine pure_ (i := 13) (N := some 83) (v := ?_) (a' := ?_) #[true, false, true, true, true, true, true, false, false, true, true, true, true, true, false, false, false, false, false, false, false, false] rfl rfl (any_of HT_.out (by kernel_rfl)) (fun _ _ _ h => h) (Or.inl ⟨by rfl, ?_⟩) ?_ ?_
                                                                      rotate_left
                                                                      · intro w'
                                                                        go_simp
                                                                        with_reducible rfl
                                                                      rotate_left
                                                                      · simp only [Act.put, List.setIfInBounds_toArray, List.set_cons_zero, List.set_cons_succ, i64_w, i32_w]
                                                                        rfl
                                                                      refine pure_ (i := 14) (N := some 84) (v := ?_) (a' := ?_) #[true, false, true, true, true, true, true, false, false, true, true, true, true, true, true, false, false, false, false, false, false, false] rfl rfl (any_of HT_.out (by kernel_rfl)) (fun _ _ _ h => h) (Or.inl ⟨by rfl, ?_⟩) ?_ ?_
                                                                      rotate_left
                                                                      · intro w'
                                                                        go_simp
                                                                        with_reducible rfl
                                                                      rotate_left
                                                                      · simp only [Act.put, List.setIfInBounds_toArray, List.set_cons_zero, List.set_cons_succ, i64_w, i32_w]
                                                                        rfl
                                                                      refine take_ (i := 1) (N := some 71) (v := ?_) (a' := ?_) #[true, true, true, true, true, true, true, false, false, true, true, true, true, true, true, false, false, false, false, false, false, false] rfl rfl (take_ofW HT_.out HW_.out (by kernel_rfl)) (fun _ _ _ h => h) (Or.inl ⟨by rfl, ?_⟩) hHeld ?_ ?_
                                                                      rotate_left
                                                                      · rintro w' ⟨s0, s1, s2, s3, s4, s5, s6, s7⟩
                                                                        go_simp
                                                                        with_reducible rfl
                                                                      rotate_left
                                                                      · simp only [Act.put, List.setIfInBounds_toArray, List.set_cons_zero, List.set_cons_succ, i64_w, i32_w]
                                                                        rfl
                                                                      refine one_ (i := 7) (N := some 77) #[true, true, true, true, true, true, true, true, false, true, true, true, true, true, true, false, false, false, false, false, false, false] rfl rfl (one_of HT_.out (by kernel_rfl)) (by decide) (fun K hK => ?_)
                                                                      refine goes_ Try.func85 (by kernel_rfl) rfl #[.string (a2.extract (x9_1 : Int).toNat ((ji67) : Int).toNat)] (by rfl) rfl rfl (by (try simp only [List.map_toArray, List.map_cons, List.map_nil]); first | done | (simp only [hji67]; rfl) | rfl | (simp only [List.length_drop, List.length_take]; rfl)) ?_
                                                                      with_reducible refine (patchbayref3_Read.calls kj54 (a2.extract (x9_1 : Int).toNat ((ji67) : Int).toNat) t272 _ A66.out).mono ?_
                                                                      rintro e w' ⟨rfl, ⟨nd, rfl⟩⟩
                                                                      refine ⟨_, rfl, ?_⟩
                                                                      refine hK.out _ _ ⟨(blk_cell BK269.out 0).trans rfl, (blk_cell BK269.out 1).trans rfl, (blk_cell BK269.out 2).trans rfl, (blk_cell BK269.out 3).trans rfl, (blk_cell BK269.out 4).trans rfl, (blk_cell BK269.out 5).trans rfl, (blk_cell BK269.out 6).trans rfl, (blk_cell BK269.out 7).trans rfl⟩ (fun hHeld => ?_)
                                                                      clear hK K
                                                                      refine norm_ (a' := ?_) ?_ ?_
                                                                      rotate_left
                                                                      · show Act.put _ (some 77) _ = _
                                                                        simp only [Act.put, List.setIfInBounds_toArray, List.set_cons_zero, List.set_cons_succ, i64_w, i32_w]
                                                                        rfl
                                                                      refine pure_ (i := 8) (N := some 78) (v := ?_) (a' := ?_) #[true, true, true, true, true, true, true, true, true, true, true, true, true, true, true, false, false, false, false, false, false, false] rfl rfl (any_of HT_.out (by kernel_rfl)) (fun _ _ _ h => h) (Or.inl ⟨by rfl, ?_⟩) ?_ ?_
                                                                      rotate_left
                                                                      · intro w'
                                                                        go_simp
                                                                        with_reducible rfl
                                                                      rotate_left
                                                                      · simp only [Act.put, List.setIfInBounds_toArray, List.set_cons_zero, List.set_cons_succ, i64_w, i32_w]
                                                                        rfl
                                                                      refine one_ (i := 15) (N := some 85) #[true, true, true, true, true, true, true, true, true, true, true, true, true, true, true, true, false, false, false, false, false, false] rfl rfl (one_of HT_.out (by kernel_rfl)) (by decide) (fun K hK => ?_)
                                                                      refine goes_ Try.func85 (by kernel_rfl) rfl #[.string (a2.extract ((ji67) : Int).toNat ((wrap64 (x9_1 + 8)) : Int).toNat)] (by rfl) rfl rfl (by (try simp only [List.map_toArray, List.map_cons, List.map_nil]); first | done | (simp only [hji67]; rfl) | rfl | (simp only [List.length_drop, List.length_take]; rfl)) ?_
                                                                      with_reducible refine (patchbayref3_Read.calls kj54 (a2.extract ((ji67) : Int).toNat ((wrap64 (x9_1 + 8)) : Int).toNat) t273 _ A71.out).mono ?_
                                                                      rintro e w' ⟨rfl, ⟨nd, rfl⟩⟩
                                                                      refine ⟨_, rfl, ?_⟩
                                                                      refine hK.out _ _ ⟨(blk_cell BK269.out 0).trans rfl, (blk_cell BK269.out 1).trans rfl, (blk_cell BK269.out 2).trans rfl, (blk_cell BK269.out 3).trans rfl, (blk_cell BK269.out 4).trans rfl, (blk_cell BK269.out 5).trans rfl, (blk_cell BK269.out 6).trans rfl, (blk_cell BK269.out 7).trans rfl⟩ (fun hHeld => ?_)
                                                                      clear hK K
                                                                      refine norm_ (a' := ?_) ?_ ?_
                                                                      rotate_left
                                                                      · show Act.put _ (some 85) _ = _
                                                                        simp only [Act.put, List.setIfInBounds_toArray, List.set_cons_zero, List.set_cons_succ, i64_w, i32_w]
                                                                        rfl
                                                                      refine pure_ (i := 16) (N := some 86) (v := ?_) (a' := ?_) #[true, true, true, true, true, true, true, true, true, true, true, true, true, true, true, true, true, false, false, false, false, false] rfl rfl (any_of HT_.out (by kernel_rfl)) (fun _ _ _ h => h) (Or.inl ⟨by rfl, ?_⟩) ?_ ?_
                                                                      rotate_left
                                                                      · intro w'
                                                                        go_simp
                                                                        with_reducible rfl
                                                                      rotate_left
                                                                      · simp only [Act.put, List.setIfInBounds_toArray, List.set_cons_zero, List.set_cons_succ, i64_w, i32_w]
                                                                        rfl
                                                                      refine pure_ (i := 17) (N := some 87) (v := ?_) (a' := ?_) #[true, true, true, true, true, true, true, true, true, true, true, true, true, true, true, true, true, true, false, false, false, false] rfl rfl (any_of HT_.out (by kernel_rfl)) (fun _ _ _ h => h) (Or.inl ⟨by rfl, ?_⟩) ?_ ?_
                                                                      rotate_left
                                                                      · intro w'
                                                                        go_simp
                                                                        with_reducible rfl
                                                                      rotate_left
                                                                      · simp only [Act.put, List.setIfInBounds_toArray, List.set_cons_zero, List.set_cons_succ, i64_w, i32_w]
                                                                        rfl
                                                                      refine one_ (i := 18) (N := some 88) #[true, true, true, true, true, true, true, true, true, true, true, true, true, true, true, true, true, true, true, false, false, false] rfl rfl (one_of HT_.out (by kernel_rfl)) (by decide) (fun K hK => ?_)
                                                                      refine value_ (w1 := ?_) (v := ?_) (by rfl) rfl ?_ ?_
                                                                      rotate_left 2
                                                                      · go_simp
                                                                        constructor
                                                                        · rfl
                                                                        · rfl
                                                                      refine hK.out _ _ ⟨(blk_cell (blk_alloc BK269.out _) 0).trans rfl, (blk_cell (blk_alloc BK269.out _) 1).trans rfl, (blk_cell (blk_alloc BK269.out _) 2).trans rfl, (blk_cell (blk_alloc BK269.out _) 3).trans rfl, (blk_cell (blk_alloc BK269.out _) 4).trans rfl, (blk_cell (blk_alloc BK269.out _) 5).trans rfl, (blk_cell (blk_alloc BK269.out _) 6).trans rfl, (blk_cell (blk_alloc BK269.out _) 7).trans rfl⟩ (fun hHeld => ?_)
                                                                      clear hK K
                                                                      refine norm_ (a' := ?_) ?_ ?_
                                                                      rotate_left
                                                                      · show Act.put _ (some 88) _ = _
                                                                        simp only [Act.put, List.setIfInBounds_toArray, List.set_cons_zero, List.set_cons_succ, i64_w, i32_w]
                                                                        rfl
                                                                      refine one_ (i := 19) (N := some 89) #[true, true, true, true, true, true, true, true, true, true, true, true, true, true, true, true, true, true, true, true, false, false] rfl rfl (one_of HT_.out (by kernel_rfl)) (by decide) (fun K hK => ?_)
                                                                      refine Kd.R_append_step k77 (w0 := w) w.heap.size (by rfl) (.tmp 71) (.tmp 88) 33 77 (.agg #[(.int .u32 0), (.int .u32 0)]) 8 rfl Try.underlying33 info77 rfl (by decide) (by omega) u270006 x270006_1 (⟨(t272) % 4294967296, (t273) % 4294967296⟩ : S77) [.int .u32 ((t272) % 4294967296), .int .u32 ((t273) % 4294967296)] (fun _ => True) (fun _ => False) rfl rfl ?aP (fun _ hk => hk.elim) ?aF ?aO ?aB ?aS ?aL ?_
                                                                      (case aP => exact k77_mkM _ _ _ (⟨(t272) % 4294967296, (t273) % 4294967296⟩ : S77))
                                                                      (case aB => exact (by repeat (first | (with_reducible first | exact HB.out | apply below_alloc | apply pw_below_drewN | apply below_drew1 | refine below_set ?_ GE259.out | refine below_set ?_ GE269.out) | exact HB.out)))
                                                                      (case aF => exact (fun _ _ => trivial))
                                                                      (case aO => exact (by (with_reducible repeat (first | apply Kd.R_alloc | apply Kd.R_drewN | apply Kd.R_drew)); exact HO_270006.out))
                                                                      (case aS => exact (below_size (by repeat (first | (with_reducible first | exact HB.out | apply below_alloc | apply pw_below_drewN | apply below_drew1 | refine below_set ?_ GE259.out | refine below_set ?_ GE269.out) | exact HB.out))))
                                                                      (case aL => have := LMc72.out; omega)
                                                                      intro v275 w74 ho hb hg hat
                                                                      rw [← Ny274.out] at ho
                                                                      have n0_ := Aside0.mk (blk_grown (g := gb259) (o := .cells #[.int .i64 x260000_1, .int .i64 x260001_1, .int .u32 x260002_1, .int .u32 x260003_1, .int .i64 x260004_1, .int .i64 x260005_1, .slice none 0 0, .string x260007_1] 35 (0, 0)) (by (with_reducible repeat (first | refine blk_drewN ?_ _ | refine blk_drew ?_ | refine blk_alloc ?_ _)); exact BK259.out) hg (Kd.R_ne HO_270006.out BK259.out (by decide)))
                                                                      have n1_ := Aside0.mk (blk_grown (g := gb269) (o := .cells #[.int .i64 t263, .int .i64 t264, .int .u32 ((t265) % 4294967296), .int .u32 ((t266) % 4294967296), .int .i64 t267, .int .i64 t268, u270006, .string (⟨#[]⟩ : ByteArray)] 35 (0, 0)) (by (with_reducible repeat (first | refine blk_drewN ?_ _ | refine blk_drew ?_ | refine blk_alloc ?_ _)); exact BK269.out) hg (Kd.R_ne HO_270006.out BK269.out (by decide)))
                                                                      have n2_ := Aside0.mk (hb)
                                                                      have n3_ := Aside0.mk (ho)
                                                                      clear BK259
                                                                      clear BK269
                                                                      clear HB
                                                                      clear HO_270006
                                                                      have BK259 := n0_
                                                                      have BK269 := n1_
                                                                      have HB := n2_
                                                                      have HO276 := n3_
                                                                      clear n0_ n1_ n2_ n3_
                                                                      clear ho hb hg hat
                                                                      obtain ⟨Ao75, co75, eo75⟩ := Kd.R_slice HO276.out
                                                                      (first | subst eo75 | (injection eo75 with f1_ f2_ f3_; have f4_ := f1_.symm; have f5_ := f3_.symm; clear f1_ f2_ f3_; subst f4_; subst f5_))
                                                                      refine hK.out _ _ ⟨(blk_cell BK269.out 0).trans rfl, (blk_cell BK269.out 1).trans rfl, (blk_cell BK269.out 2).trans rfl, (blk_cell BK269.out 3).trans rfl, (blk_cell BK269.out 4).trans rfl, (blk_cell BK269.out 5).trans rfl, (blk_cell BK269.out 6).trans rfl, (blk_cell BK269.out 7).trans rfl⟩ (fun hHeld => ?_)
                                                                      clear hK K
                                                                      refine norm_ (a' := ?_) ?_ ?_
                                                                      rotate_left
                                                                      · show Act.put _ (some 89) _ = _
                                                                        simp only [Act.put, List.setIfInBounds_toArray, List.set_cons_zero, List.set_cons_succ, i64_w, i32_w]
                                                                        rfl
                                                                      refine pure_ (i := 20) (N := some 90) (v := ?_) (a' := ?_) #[true, true, true, true, true, true, true, true, true, true, true, true, true, true, true, true, true, true, true, true, true, false] rfl rfl (any_of HT_.out (by kernel_rfl)) (fun _ _ _ h => h) (Or.inl ⟨by rfl, ?_⟩) ?_ ?_
                                                                      rotate_left
                                                                      · intro w'
                                                                        go_simp
                                                                        with_reducible rfl
                                                                      rotate_left
                                                                      · simp only [Act.put, List.setIfInBounds_toArray, List.set_cons_zero, List.set_cons_succ, i64_w, i32_w]
                                                                        rfl
                                                                      refine last_ (i := 21) (N := none) #[true, true, true, true, true, true, true, true, true, true, true, true, true, true, true, true, true, true, true, true, true, true] rfl rfl (one_of HT_.out (by kernel_rfl)) (by decide) (fun K hK => ?_)
                                                                      have hs76 : w74.cell? ⟨gb269, 6, none⟩ = some (u270006) := (blk_cell BK269.out 6).trans rfl
                                                                      have hfs76 := blk_frozen BK269.out 6
                                                                      have hns76_0 := NB259_269.out
                                                                      have hms76_0 := NB269_259.out
                                                                      refine skip_ (w1 := ?_) (by rfl) rfl ?_ ?_
                                                                      rotate_left
                                                                      · go_simp
                                                                        rfl
                                                                      refine hK.out _ _ ?_
                                                                      clear hK K
                                                                      refine done_ (done_of HT_.out (by kernel_rfl)) ?_
                                                                      try go_wp2
                                                                      go_roundg kj54
                                                                      case measure => have := HK1.out; have := HJ54.out; omega
                                                                      case rel => exact ⟨(wrap64 (x9_1 + 8)), (wrap64 (x10_1 - 1)), (x260000_1), (x260001_1), (x260002_1), (x260003_1), (x260004_1), (x260005_1), (x260007_1), (y274), (.slice Ao75 y274.length co75), (by first | rfl | (simp; done) | (simp [*]; done)), (by first | rfl | (simp; done) | (simp [*]; done)), H', ⟨by have := HK1.out; have := HJ54.out; omega⟩, ⟨by (with_reducible repeat (first | apply Kd.R_alloc | apply Kd.R_drewN | apply Kd.R_drew)); exact Kd.R_mono (Kd.R_far (p := ⟨gb269, 6, none⟩) (Kd.R_types HO276.out BK269.out (by decide)) (fun _ hk => hk.2) (.slice Ao75 y274.length co75)) (fun _ hk => trivial)⟩, ⟨by (with_reducible repeat (first | refine blk_drewN ?_ _ | refine blk_drew ?_ | refine blk_alloc ?_ _)); refine blk_far ?_ NB259_269.out _; (with_reducible repeat (first | refine blk_drewN ?_ _ | refine blk_drew ?_ | refine blk_alloc ?_ _)); exact BK259.out⟩, ⟨by (with_reducible repeat (first | refine blk_drewN ?_ _ | refine blk_drew ?_ | refine blk_alloc ?_ _)); refine blk_put (cs := #[.int .i64 t263, .int .i64 t264, .int .u32 ((t265) % 4294967296), .int .u32 ((t266) % 4294967296), .int .i64 t267, .int .i64 t268, u270006, .string (⟨#[]⟩ : ByteArray)]) ?_ 6 _ rfl; (with_reducible repeat (first | refine blk_drewN ?_ _ | refine blk_drew ?_ | refine blk_alloc ?_ _)); exact BK269.out⟩, ⟨by repeat (first | (with_reducible first | exact HB.out | apply below_alloc | apply pw_below_drewN | apply below_drew1 | refine below_set ?_ GE259.out | refine below_set ?_ GE269.out) | exact HB.out)⟩⟩
                                                                    · rw [if_neg c72] at H
                                                                      exact absurd H (by simp)
                                                                  · rw [if_neg c70] at H
                                                                    exact absurd H (by simp)
                                                                · rw [if_neg c69] at H
                                                                  exact absurd H (by simp)
                                                              · rw [if_neg c68] at H
                                                                exact absurd H (by simp)
                                                            · rw [if_neg c65] at H
                                                              exact absurd H (by simp)
                                                          · rw [if_neg c64] at H
                                                            exact absurd H (by simp)
                                                        · rw [if_neg c63] at H
                                                          exact absurd H (by simp)
                                                · rw [if_neg c54] at H
                                                  have c54b0 : decide (0 < x10_1) = false := decide_eq_false c54
                                                  clear c54
                                                  by_cases c77 : 0 ≤ x9_1
                                                  · rw [if_pos c77] at H
                                                    have c77b0 := eq_true c77
                                                    have c77b1 : decide (0 ≤ x9_1) = true := decide_eq_true c77
                                                    clear c77
                                                    by_cases c78 : x9_1 ≤ (a2.size : Int)
                                                    · rw [if_pos c78] at H
                                                      have c78b0 := eq_true c78
                                                      have c78b1 : decide (x9_1 ≤ (a2.size : Int)) = true := decide_eq_true c78
                                                      clear c78
                                                      replace H := Option.bind_eq_some_iff.mp H
                                                      obtain ⟨t271, A790, H⟩ := H
                                                      replace H : (if t271 = 0 then (some (t263, t264, ((t265) % 4294967296), ((t266) % 4294967296), t267, t268, x270006_1, a2.extract (x9_1 : Int).toNat a2.size, 0)) else (some (0, 0, 0, 0, 0, 0, ([] : List (S77)), (⟨#[]⟩ : ByteArray), 3))) = some (r1, r2, r3, r4, r5, r6, r7, r8, r9) := H
                                                      have A79 := Aside0.mk A790
                                                      clear A790
                                                      by_cases c80 : t271 = 0
                                                      · rw [if_pos c80] at H
                                                        have c80b0 : (t271 == 0) = true := beq_iff_eq.mpr c80
                                                        have c80b1 : (t271 != 0) = false := bne_eq_false_iff_eq.mpr c80
                                                        clear c80
                                                        simp only [Option.some.injEq, Prod.mk.injEq] at H
                                                        obtain ⟨rfl, rfl, rfl, rfl, rfl, rfl, rfl, rfl, rfl⟩ := H
                                                        have hnb81 := NB269_259.out
                                                        have hnc81 := NB259_269.out
                                                        have hcz82_0 : wr.cell? ⟨gb269, 0, none⟩ = some (.int .i64 t263) := (blk_cell BK269.out 0).trans rfl
                                                        have hcz82_1 : wr.cell? ⟨gb269, 1, none⟩ = some (.int .i64 t264) := (blk_cell BK269.out 1).trans rfl
                                                        have hcz82_2 : wr.cell? ⟨gb269, 2, none⟩ = some (.int .u32 ((t265) % 4294967296)) := (blk_cell BK269.out 2).trans rfl
                                                        have hcz82_3 : wr.cell? ⟨gb269, 3, none⟩ = some (.int .u32 ((t266) % 4294967296)) := (blk_cell BK269.out 3).trans rfl
                                                        have hcz82_4 : wr.cell? ⟨gb269, 4, none⟩ = some (.int .i64 t267) := (blk_cell BK269.out 4).trans rfl
                                                        have hcz82_5 : wr.cell? ⟨gb269, 5, none⟩ = some (.int .i64 t268) := (blk_cell BK269.out 5).trans rfl
                                                        have hcz82_6 : wr.cell? ⟨gb269, 6, none⟩ = some (u270006) := (blk_cell BK269.out 6).trans rfl
                                                        have hcz82_7 : wr.cell? ⟨gb269, 7, none⟩ = some (.string (⟨#[]⟩ : ByteArray)) := (blk_cell BK269.out 7).trans rfl
                                                        have hfz82_0 := blk_frozen BK269.out 0
                                                        have hfz82_1 := blk_frozen BK269.out 1
                                                        have hfz82_2 := blk_frozen BK269.out 2
                                                        have hfz82_3 := blk_frozen BK269.out 3
                                                        have hfz82_4 := blk_frozen BK269.out 4
                                                        have hfz82_5 := blk_frozen BK269.out 5
                                                        have hfz82_6 := blk_frozen BK269.out 6
                                                        have hfz82_7 := blk_frozen BK269.out 7
                                                        obtain ⟨Ao83, co83, eo83⟩ := Kd.R_slice HO_270006.out
                                                        subst eo83
                                                        go_wp2_with (first | ((with_reducible refine gate_callee (f := 21) rfl ?_); refine goesL_ (some 98) rfl rfl Try.func21 (by kernel_rfl) rfl #[.agg #[.int .i64 t263, .int .i64 t264, .int .u32 ((t265) % 4294967296), .int .u32 ((t266) % 4294967296), .int .i64 t267, .int .i64 t268, .slice Ao83 x270006_1.length co83, .string (a2.extract (x9_1 : Int).toNat a2.size)]] rfl (by (try simp only [List.map_toArray, List.map_cons, List.map_nil]); first | done | rfl | (simp only [List.length_drop, List.length_take]; rfl)) ?_; (with_reducible refine (patchbayref3_SegFault.calls k1 t263 t264 ((t265) % 4294967296) ((t266) % 4294967296) t267 t268 _ _ x270006_1 (a2.extract (x9_1 : Int).toNat a2.size) t271 _ ?side1 ?side2 A79.out).mono ?_); (case side1 => refine (Kd.R_reads' (e := 77) (base := w.heap.size) (ok := fun k_ => True) (n := x270006_1.length) (c := co83) ?_).2.2; exact (by (with_reducible repeat (first | apply Kd.R_alloc | apply Kd.R_drewN | apply Kd.R_drew)); exact (Kd.R_mono (Kd.R_far (p := ⟨gb269, 7, none⟩) (Kd.R_types HO_270006.out BK269.out (by decide)) (fun _ hk => hk.2) (.string (a2.extract (x9_1 : Int).toNat a2.size))) (fun _ h_ => h_.1)))); (case side2 => exact (Kd.R_reads' HO_270006.out).2.1); rintro e w84 ⟨rfl, hb⟩; refine ⟨_, rfl, ?_⟩; have n0_ := Aside0.mk (Kd.R_below (by (with_reducible repeat (first | apply Kd.R_alloc | apply Kd.R_drewN | apply Kd.R_drew)); exact (Kd.R_mono (Kd.R_far (p := ⟨gb269, 7, none⟩) (Kd.R_types HO_270006.out BK269.out (by decide)) (fun _ hk => hk.2) (.string (a2.extract (x9_1 : Int).toNat a2.size))) (fun _ h_ => h_.1))) hb); have n1_ := Aside0.mk (blk_below (g := gb259) (o := .cells #[.int .i64 x260000_1, .int .i64 x260001_1, .int .u32 x260002_1, .int .u32 x260003_1, .int .i64 x260004_1, .int .i64 x260005_1, .slice none 0 0, .string x260007_1] 35 (0, 0)) (by (with_reducible repeat (first | refine blk_drewN ?_ _ | refine blk_drew ?_ | refine blk_alloc ?_ _)); refine blk_far ?_ NB259_269.out _; (with_reducible repeat (first | refine blk_drewN ?_ _ | refine blk_drew ?_ | refine blk_alloc ?_ _)); exact BK259.out) hb); have n2_ := Aside0.mk (blk_below (g := gb269) (o := .cells #[.int .i64 t263, .int .i64 t264, .int .u32 ((t265) % 4294967296), .int .u32 ((t266) % 4294967296), .int .i64 t267, .int .i64 t268, .slice Ao83 x270006_1.length co83, .string (a2.extract (x9_1 : Int).toNat a2.size)] 35 (0, 0)) (by (with_reducible repeat (first | refine blk_drewN ?_ _ | refine blk_drew ?_ | refine blk_alloc ?_ _)); refine blk_put (cs := #[.int .i64 t263, .int .i64 t264, .int .u32 ((t265) % 4294967296), .int .u32 ((t266) % 4294967296), .int .i64 t267, .int .i64 t268, .slice Ao83 x270006_1.length co83, .string (⟨#[]⟩ : ByteArray)]) ?_ 7 _ rfl; (with_reducible repeat (first | refine blk_drewN ?_ _ | refine blk_drew ?_ | refine blk_alloc ?_ _)); exact BK269.out) hb); have n3_ := Aside0.mk (below_step (by repeat (first | (with_reducible first | exact HB.out | apply below_alloc | apply pw_below_drewN | apply below_drew1 | refine below_set ?_ GE259.out | refine below_set ?_ GE269.out) | exact HB.out)) hb); clear HO_270006; clear BK259; clear BK269; clear HB; have HO_270006 := n0_; have BK259 := n1_; have BK269 := n2_; have HB := n3_; clear n0_ n1_ n2_ n3_; (try clear hb); (try clear hb2); (try clear hk); (try clear hi); have hcz85_0 : w84.cell? ⟨gb269, 0, none⟩ = some (.int .i64 t263) := (blk_cell BK269.out 0).trans rfl; have hcz85_1 : w84.cell? ⟨gb269, 1, none⟩ = some (.int .i64 t264) := (blk_cell BK269.out 1).trans rfl; have hcz85_2 : w84.cell? ⟨gb269, 2, none⟩ = some (.int .u32 ((t265) % 4294967296)) := (blk_cell BK269.out 2).trans rfl; have hcz85_3 : w84.cell? ⟨gb269, 3, none⟩ = some (.int .u32 ((t266) % 4294967296)) := (blk_cell BK269.out 3).trans rfl; have hcz85_4 : w84.cell? ⟨gb269, 4, none⟩ = some (.int .i64 t267) := (blk_cell BK269.out 4).trans rfl; have hcz85_5 : w84.cell? ⟨gb269, 5, none⟩ = some (.int .i64 t268) := (blk_cell BK269.out 5).trans rfl; have hcz85_6 : w84.cell? ⟨gb269, 6, none⟩ = some (.slice Ao83 x270006_1.length co83) := (blk_cell BK269.out 6).trans rfl; have hcz85_7 : w84.cell? ⟨gb269, 7, none⟩ = some (.string (a2.extract (x9_1 : Int).toNat a2.size)) := (blk_cell BK269.out 7).trans rfl; have hfz85_0 := blk_frozen BK269.out 0; have hfz85_1 := blk_frozen BK269.out 1; have hfz85_2 := blk_frozen BK269.out 2; have hfz85_3 := blk_frozen BK269.out 3; have hfz85_4 := blk_frozen BK269.out 4; have hfz85_5 := blk_frozen BK269.out 5; have hfz85_6 := blk_frozen BK269.out 6; have hfz85_7 := blk_frozen BK269.out 7; have hcz86_0 : w84.cell? ⟨gb259, 0, none⟩ = some (.int .i64 x260000_1) := (blk_cell BK259.out 0).trans rfl; have hcz86_1 : w84.cell? ⟨gb259, 1, none⟩ = some (.int .i64 x260001_1) := (blk_cell BK259.out 1).trans rfl; have hcz86_2 : w84.cell? ⟨gb259, 2, none⟩ = some (.int .u32 x260002_1) := (blk_cell BK259.out 2).trans rfl; have hcz86_3 : w84.cell? ⟨gb259, 3, none⟩ = some (.int .u32 x260003_1) := (blk_cell BK259.out 3).trans rfl; have hcz86_4 : w84.cell? ⟨gb259, 4, none⟩ = some (.int .i64 x260004_1) := (blk_cell BK259.out 4).trans rfl; have hcz86_5 : w84.cell? ⟨gb259, 5, none⟩ = some (.int .i64 x260005_1) := (blk_cell BK259.out 5).trans rfl; have hcz86_6 : w84.cell? ⟨gb259, 6, none⟩ = some (.slice none 0 0) := (blk_cell BK259.out 6).trans rfl; have hcz86_7 : w84.cell? ⟨gb259, 7, none⟩ = some (.string x260007_1) := (blk_cell BK259.out 7).trans rfl; have hfz86_0 := blk_frozen BK259.out 0; have hfz86_1 := blk_frozen BK259.out 1; have hfz86_2 := blk_frozen BK259.out 2; have hfz86_3 := blk_frozen BK259.out 3; have hfz86_4 := blk_frozen BK259.out 4; have hfz86_5 := blk_frozen BK259.out 5; have hfz86_6 := blk_frozen BK259.out 6; have hfz86_7 := blk_frozen BK259.out 7))
                                                        refine bodyPost_ret (results_ct rfl _ _ gb259 35 #[.int .i64 t263, .int .i64 t264, .int .u32 ((t265) % 4294967296), .int .u32 ((t266) % 4294967296), .int .i64 t267, .int .i64 t268, .slice Ao83 x270006_1.length co83, .string (a2.extract (x9_1 : Int).toNat a2.size)] (0, 0) _ rfl (by (with_reducible repeat (first | refine blk_drewN ?_ _ | refine blk_drew ?_ | refine blk_alloc ?_ _)); refine blk_put (cs := #[.int .i64 t263, .int .i64 t264, .int .u32 ((t265) % 4294967296), .int .u32 ((t266) % 4294967296), .int .i64 t267, .int .i64 t268, .slice Ao83 x270006_1.length co83, .string x260007_1]) ?_ 7 _ rfl; (with_reducible repeat (first | refine blk_drewN ?_ _ | refine blk_drew ?_ | refine blk_alloc ?_ _)); refine blk_put (cs := #[.int .i64 t263, .int .i64 t264, .int .u32 ((t265) % 4294967296), .int .u32 ((t266) % 4294967296), .int .i64 t267, .int .i64 t268, .slice none 0 0, .string x260007_1]) ?_ 6 _ rfl; (with_reducible repeat (first | refine blk_drewN ?_ _ | refine blk_drew ?_ | refine blk_alloc ?_ _)); refine blk_put (cs := #[.int .i64 t263, .int .i64 t264, .int .u32 ((t265) % 4294967296), .int .u32 ((t266) % 4294967296), .int .i64 t267, .int .i64 x260005_1, .slice none 0 0, .string x260007_1]) ?_ 5 _ rfl; (with_reducible repeat (first | refine blk_drewN ?_ _ | refine blk_drew ?_ | refine blk_alloc ?_ _)); refine blk_put (cs := #[.int .i64 t263, .int .i64 t264, .int .u32 ((t265) % 4294967296), .int .u32 ((t266) % 4294967296), .int .i64 x260004_1, .int .i64 x260005_1, .slice none 0 0, .string x260007_1]) ?_ 4 _ rfl; (with_reducible repeat (first | refine blk_drewN ?_ _ | refine blk_drew ?_ | refine blk_alloc ?_ _)); refine blk_put (cs := #[.int .i64 t263, .int .i64 t264, .int .u32 ((t265) % 4294967296), .int .u32 x260003_1, .int .i64 x260004_1, .int .i64 x260005_1, .slice none 0 0, .string x260007_1]) ?_ 3 _ rfl; (with_reducible repeat (first | refine blk_drewN ?_ _ | refine blk_drew ?_ | refine blk_alloc ?_ _)); refine blk_put (cs := #[.int .i64 t263, .int .i64 t264, .int .u32 x260002_1, .int .u32 x260003_1, .int .i64 x260004_1, .int .i64 x260005_1, .slice none 0 0, .string x260007_1]) ?_ 2 _ rfl; (with_reducible repeat (first | refine blk_drewN ?_ _ | refine blk_drew ?_ | refine blk_alloc ?_ _)); refine blk_put (cs := #[.int .i64 t263, .int .i64 x260001_1, .int .u32 x260002_1, .int .u32 x260003_1, .int .i64 x260004_1, .int .i64 x260005_1, .slice none 0 0, .string x260007_1]) ?_ 1 _ rfl; (with_reducible repeat (first | refine blk_drewN ?_ _ | refine blk_drew ?_ | refine blk_alloc ?_ _)); refine blk_put (cs := #[.int .i64 x260000_1, .int .i64 x260001_1, .int .u32 x260002_1, .int .u32 x260003_1, .int .i64 x260004_1, .int .i64 x260005_1, .slice none 0 0, .string x260007_1]) ?_ 0 _ rfl; (with_reducible repeat (first | refine blk_drewN ?_ _ | refine blk_drew ?_ | refine blk_alloc ?_ _)); exact BK259.out) Try.underlying35 rfl (by kernel_rfl)) rfl ?_
                                                        exact ⟨_, by first | rfl | (simp [errW_none, errW_some] <;> rfl) | (simp [*, errW_none, errW_some] <;> rfl), by (with_reducible repeat (first | apply Kd.R_alloc | apply Kd.R_drewN | apply Kd.R_drew)); exact Kd.R_mono (Kd.R_far (p := ⟨gb259, 7, none⟩) (Kd.R_far (p := ⟨gb259, 6, none⟩) (Kd.R_far (p := ⟨gb259, 5, none⟩) (Kd.R_far (p := ⟨gb259, 4, none⟩) (Kd.R_far (p := ⟨gb259, 3, none⟩) (Kd.R_far (p := ⟨gb259, 2, none⟩) (Kd.R_far (p := ⟨gb259, 1, none⟩) (Kd.R_far (p := ⟨gb259, 0, none⟩) (Kd.R_types HO_270006.out BK259.out (by decide)) (fun _ hk => hk.2) (.int .i64 t263)) (fun _ hk => hk.2) (.int .i64 t264)) (fun _ hk => hk.2) (.int .u32 ((t265) % 4294967296))) (fun _ hk => hk.2) (.int .u32 ((t266) % 4294967296))) (fun _ hk => hk.2) (.int .i64 t267)) (fun _ hk => hk.2) (.int .i64 t268)) (fun _ hk => hk.2) (.slice Ao83 x270006_1.length co83)) (fun _ hk => hk.2) (.string (a2.extract (x9_1 : Int).toNat a2.size))) (fun _ hk => trivial), by repeat (first | (with_reducible first | exact HB.out | apply below_alloc | apply pw_below_drewN | apply below_drew1 | refine below_set ?_ GE259.out | refine below_set ?_ GE269.out) | exact HB.out)⟩
                                                      · rw [if_neg c80] at H
                                                        have c80b0 : (t271 == 0) = false := beq_eq_false_iff_ne.mpr c80
                                                        have c80b1 : (t271 != 0) = true := bne_iff_ne.mpr c80
                                                        simp only [Option.some.injEq, Prod.mk.injEq] at H
                                                        obtain ⟨rfl, rfl, rfl, rfl, rfl, rfl, rfl, rfl, rfl⟩ := H
                                                        have hnb87 := NB269_259.out
                                                        have hnc87 := NB259_269.out
                                                        have hcz88_0 : wr.cell? ⟨gb269, 0, none⟩ = some (.int .i64 t263) := (blk_cell BK269.out 0).trans rfl
                                                        have hcz88_1 : wr.cell? ⟨gb269, 1, none⟩ = some (.int .i64 t264) := (blk_cell BK269.out 1).trans rfl
                                                        have hcz88_2 : wr.cell? ⟨gb269, 2, none⟩ = some (.int .u32 ((t265) % 4294967296)) := (blk_cell BK269.out 2).trans rfl
                                                        have hcz88_3 : wr.cell? ⟨gb269, 3, none⟩ = some (.int .u32 ((t266) % 4294967296)) := (blk_cell BK269.out 3).trans rfl
                                                        have hcz88_4 : wr.cell? ⟨gb269, 4, none⟩ = some (.int .i64 t267) := (blk_cell BK269.out 4).trans rfl
                                                        have hcz88_5 : wr.cell? ⟨gb269, 5, none⟩ = some (.int .i64 t268) := (blk_cell BK269.out 5).trans rfl
                                                        have hcz88_6 : wr.cell? ⟨gb269, 6, none⟩ = some (u270006) := (blk_cell BK269.out 6).trans rfl
                                                        have hcz88_7 : wr.cell? ⟨gb269, 7, none⟩ = some (.string (⟨#[]⟩ : ByteArray)) := (blk_cell BK269.out 7).trans rfl
                                                        have hfz88_0 := blk_frozen BK269.out 0
                                                        have hfz88_1 := blk_frozen BK269.out 1
                                                        have hfz88_2 := blk_frozen BK269.out 2
                                                        have hfz88_3 := blk_frozen BK269.out 3
                                                        have hfz88_4 := blk_frozen BK269.out 4
                                                        have hfz88_5 := blk_frozen BK269.out 5
                                                        have hfz88_6 := blk_frozen BK269.out 6
                                                        have hfz88_7 := blk_frozen BK269.out 7
                                                        obtain ⟨Ao89, co89, eo89⟩ := Kd.R_slice HO_270006.out
                                                        subst eo89
                                                        go_wp2_with (first | ((with_reducible refine gate_callee (f := 21) rfl ?_); refine goesL_ (some 98) rfl rfl Try.func21 (by kernel_rfl) rfl #[.agg #[.int .i64 t263, .int .i64 t264, .int .u32 ((t265) % 4294967296), .int .u32 ((t266) % 4294967296), .int .i64 t267, .int .i64 t268, .slice Ao89 x270006_1.length co89, .string (a2.extract (x9_1 : Int).toNat a2.size)]] rfl (by (try simp only [List.map_toArray, List.map_cons, List.map_nil]); first | done | rfl | (simp only [List.length_drop, List.length_take]; rfl)) ?_; (with_reducible refine (patchbayref3_SegFault.calls k1 t263 t264 ((t265) % 4294967296) ((t266) % 4294967296) t267 t268 _ _ x270006_1 (a2.extract (x9_1 : Int).toNat a2.size) t271 _ ?side1 ?side2 A79.out).mono ?_); (case side1 => refine (Kd.R_reads' (e := 77) (base := w.heap.size) (ok := fun k_ => True) (n := x270006_1.length) (c := co89) ?_).2.2; exact (by (with_reducible repeat (first | apply Kd.R_alloc | apply Kd.R_drewN | apply Kd.R_drew)); exact (Kd.R_mono (Kd.R_far (p := ⟨gb269, 7, none⟩) (Kd.R_types HO_270006.out BK269.out (by decide)) (fun _ hk => hk.2) (.string (a2.extract (x9_1 : Int).toNat a2.size))) (fun _ h_ => h_.1)))); (case side2 => exact (Kd.R_reads' HO_270006.out).2.1); rintro e w90 ⟨rfl, hb⟩; refine ⟨_, rfl, ?_⟩; have n0_ := Aside0.mk (Kd.R_below (by (with_reducible repeat (first | apply Kd.R_alloc | apply Kd.R_drewN | apply Kd.R_drew)); exact (Kd.R_mono (Kd.R_far (p := ⟨gb269, 7, none⟩) (Kd.R_types HO_270006.out BK269.out (by decide)) (fun _ hk => hk.2) (.string (a2.extract (x9_1 : Int).toNat a2.size))) (fun _ h_ => h_.1))) hb); have n1_ := Aside0.mk (blk_below (g := gb259) (o := .cells #[.int .i64 x260000_1, .int .i64 x260001_1, .int .u32 x260002_1, .int .u32 x260003_1, .int .i64 x260004_1, .int .i64 x260005_1, .slice none 0 0, .string x260007_1] 35 (0, 0)) (by (with_reducible repeat (first | refine blk_drewN ?_ _ | refine blk_drew ?_ | refine blk_alloc ?_ _)); refine blk_far ?_ NB259_269.out _; (with_reducible repeat (first | refine blk_drewN ?_ _ | refine blk_drew ?_ | refine blk_alloc ?_ _)); exact BK259.out) hb); have n2_ := Aside0.mk (blk_below (g := gb269) (o := .cells #[.int .i64 t263, .int .i64 t264, .int .u32 ((t265) % 4294967296), .int .u32 ((t266) % 4294967296), .int .i64 t267, .int .i64 t268, .slice Ao89 x270006_1.length co89, .string (a2.extract (x9_1 : Int).toNat a2.size)] 35 (0, 0)) (by (with_reducible repeat (first | refine blk_drewN ?_ _ | refine blk_drew ?_ | refine blk_alloc ?_ _)); refine blk_put (cs := #[.int .i64 t263, .int .i64 t264, .int .u32 ((t265) % 4294967296), .int .u32 ((t266) % 4294967296), .int .i64 t267, .int .i64 t268, .slice Ao89 x270006_1.length co89, .string (⟨#[]⟩ : ByteArray)]) ?_ 7 _ rfl; (with_reducible repeat (first | refine blk_drewN ?_ _ | refine blk_drew ?_ | refine blk_alloc ?_ _)); exact BK269.out) hb); have n3_ := Aside0.mk (below_step (by repeat (first | (with_reducible first | exact HB.out | apply below_alloc | apply pw_below_drewN | apply below_drew1 | refine below_set ?_ GE259.out | refine below_set ?_ GE269.out) | exact HB.out)) hb); clear HO_270006; clear BK259; clear BK269; clear HB; have HO_270006 := n0_; have BK259 := n1_; have BK269 := n2_; have HB := n3_; clear n0_ n1_ n2_ n3_; (try clear hb); (try clear hb2); (try clear hk); (try clear hi); have hcz91_0 : w90.cell? ⟨gb259, 0, none⟩ = some (.int .i64 x260000_1) := (blk_cell BK259.out 0).trans rfl; have hcz91_1 : w90.cell? ⟨gb259, 1, none⟩ = some (.int .i64 x260001_1) := (blk_cell BK259.out 1).trans rfl; have hcz91_2 : w90.cell? ⟨gb259, 2, none⟩ = some (.int .u32 x260002_1) := (blk_cell BK259.out 2).trans rfl; have hcz91_3 : w90.cell? ⟨gb259, 3, none⟩ = some (.int .u32 x260003_1) := (blk_cell BK259.out 3).trans rfl; have hcz91_4 : w90.cell? ⟨gb259, 4, none⟩ = some (.int .i64 x260004_1) := (blk_cell BK259.out 4).trans rfl; have hcz91_5 : w90.cell? ⟨gb259, 5, none⟩ = some (.int .i64 x260005_1) := (blk_cell BK259.out 5).trans rfl; have hcz91_6 : w90.cell? ⟨gb259, 6, none⟩ = some (.slice none 0 0) := (blk_cell BK259.out 6).trans rfl; have hcz91_7 : w90.cell? ⟨gb259, 7, none⟩ = some (.string x260007_1) := (blk_cell BK259.out 7).trans rfl; have hfz91_0 := blk_frozen BK259.out 0; have hfz91_1 := blk_frozen BK259.out 1; have hfz91_2 := blk_frozen BK259.out 2; have hfz91_3 := blk_frozen BK259.out 3; have hfz91_4 := blk_frozen BK259.out 4; have hfz91_5 := blk_frozen BK259.out 5; have hfz91_6 := blk_frozen BK259.out 6; have hfz91_7 := blk_frozen BK259.out 7))
                                                        refine bodyPost_ret (results_ct rfl _ _ gb259 35 #[.int .i64 0, .int .i64 0, .int .u32 0, .int .u32 0, .int .i64 0, .int .i64 0, .slice none 0 0, .string (⟨#[]⟩ : ByteArray)] (0, 0) _ rfl (by (with_reducible repeat (first | refine blk_drewN ?_ _ | refine blk_drew ?_ | refine blk_alloc ?_ _)); refine blk_put (cs := #[.int .i64 0, .int .i64 0, .int .u32 0, .int .u32 0, .int .i64 0, .int .i64 0, .slice none 0 0, .string x260007_1]) ?_ 7 _ rfl; (with_reducible repeat (first | refine blk_drewN ?_ _ | refine blk_drew ?_ | refine blk_alloc ?_ _)); refine blk_put (cs := #[.int .i64 0, .int .i64 0, .int .u32 0, .int .u32 0, .int .i64 0, .int .i64 0, .slice none 0 0, .string x260007_1]) ?_ 6 _ rfl; (with_reducible repeat (first | refine blk_drewN ?_ _ | refine blk_drew ?_ | refine blk_alloc ?_ _)); refine blk_put (cs := #[.int .i64 0, .int .i64 0, .int .u32 0, .int .u32 0, .int .i64 0, .int .i64 x260005_1, .slice none 0 0, .string x260007_1]) ?_ 5 _ rfl; (with_reducible repeat (first | refine blk_drewN ?_ _ | refine blk_drew ?_ | refine blk_alloc ?_ _)); refine blk_put (cs := #[.int .i64 0, .int .i64 0, .int .u32 0, .int .u32 0, .int .i64 x260004_1, .int .i64 x260005_1, .slice none 0 0, .string x260007_1]) ?_ 4 _ rfl; (with_reducible repeat (first | refine blk_drewN ?_ _ | refine blk_drew ?_ | refine blk_alloc ?_ _)); refine blk_put (cs := #[.int .i64 0, .int .i64 0, .int .u32 0, .int .u32 x260003_1, .int .i64 x260004_1, .int .i64 x260005_1, .slice none 0 0, .string x260007_1]) ?_ 3 _ rfl; (with_reducible repeat (first | refine blk_drewN ?_ _ | refine blk_drew ?_ | refine blk_alloc ?_ _)); refine blk_put (cs := #[.int .i64 0, .int .i64 0, .int .u32 x260002_1, .int .u32 x260003_1, .int .i64 x260004_1, .int .i64 x260005_1, .slice none 0 0, .string x260007_1]) ?_ 2 _ rfl; (with_reducible repeat (first | refine blk_drewN ?_ _ | refine blk_drew ?_ | refine blk_alloc ?_ _)); refine blk_put (cs := #[.int .i64 0, .int .i64 x260001_1, .int .u32 x260002_1, .int .u32 x260003_1, .int .i64 x260004_1, .int .i64 x260005_1, .slice none 0 0, .string x260007_1]) ?_ 1 _ rfl; (with_reducible repeat (first | refine blk_drewN ?_ _ | refine blk_drew ?_ | refine blk_alloc ?_ _)); refine blk_put (cs := #[.int .i64 x260000_1, .int .i64 x260001_1, .int .u32 x260002_1, .int .u32 x260003_1, .int .i64 x260004_1, .int .i64 x260005_1, .slice none 0 0, .string x260007_1]) ?_ 0 _ rfl; (with_reducible repeat (first | refine blk_drewN ?_ _ | refine blk_drew ?_ | refine blk_alloc ?_ _)); exact BK259.out) Try.underlying35 rfl (by kernel_rfl)) rfl ?_
                                                        exact ⟨_, by first | rfl | (simp [errW_none, errW_some] <;> rfl) | (simp [*, errW_none, errW_some] <;> rfl), by first | exact Kd.R_nil _ _ _ _ _ | exact Kd.N_nil _ _ _ _ _ | exact Kd.V_nil _ _ _ _ _ | exact Kd.Q_nil _ _ _ _ _ | exact Kd.S_nil _ _ _ _ _, by repeat (first | (with_reducible first | exact HB.out | apply below_alloc | apply pw_below_drewN | apply below_drew1 | refine below_set ?_ GE259.out | refine below_set ?_ GE269.out) | exact HB.out)⟩
                                                    · rw [if_neg c78] at H
                                                      exact absurd H (by simp)
                                                  · rw [if_neg c77] at H
                                                    exact absurd H (by simp)
                                          · rw [if_neg c37] at H
                                            exact absurd H (by simp)
                                        · rw [if_neg c36] at H
                                          exact absurd H (by simp)
                                      · rw [if_neg c33] at H
                                        exact absurd H (by simp)
                                    · rw [if_neg c31] at H
                                      exact absurd H (by simp)
                                  · rw [if_neg c30] at H
                                    exact absurd H (by simp)
                                · rw [if_neg c28] at H
                                  exact absurd H (by simp)
                              · rw [if_neg c27] at H
                                exact absurd H (by simp)
                            · rw [if_neg c25] at H
                              exact absurd H (by simp)
                          · rw [if_neg c24] at H
                            exact absurd H (by simp)
                        · rw [if_neg c22] at H
                          exact absurd H (by simp)
                      · rw [if_neg c21] at H
                        exact absurd H (by simp)
                    · rw [if_neg c19] at H
                      exact absurd H (by simp)
                  · rw [if_neg c18] at H
                    exact absurd H (by simp)
                · rw [if_neg c17] at H
                  have c17b0 : (t260 == t262) = false := beq_eq_false_iff_ne.mpr c17
                  have c17b1 : (t260 != t262) = true := bne_iff_ne.mpr c17
                  simp only [Option.some.injEq, Prod.mk.injEq] at H
                  obtain ⟨rfl, rfl, rfl, rfl, rfl, rfl, rfl, rfl, rfl⟩ := H
                  go_enter Try.func59, Try.ntmps59
                  try go_wp2_with (first | ((with_reducible refine gate_dst (N := 6) rfl ?_); (try (refine gate_guard (by rfl) ?_; dsimp only)); refine box_event ?hg (N := 6) ?hd (cs := #[.int .i64 0, .int .i64 0, .int .u32 0, .int .u32 0, .int .i64 0, .int .i64 0, .slice none 0 0, .string (⟨#[]⟩ : ByteArray)]) (t := 35) ?hr ?_; (case hd => rfl); (case hg => rfl); (case hr => first | (go_simp; done) | (go_simp; rfl)); intro gb259 hg w92 hbox hb; have n0_ := Aside0.mk (below_step (by repeat (first | (with_reducible first | exact HB.out | apply below_alloc | apply pw_below_drewN | apply below_drew1) | exact HB.out)) hb); have n1_ := Aside0.mk (hbox); have n2_ := Aside0.mk ((by rw [hg]; exact (below_size (by repeat (first | (with_reducible first | exact HB.out | apply below_alloc | apply pw_below_drewN | apply below_drew1) | exact HB.out))) : w.heap.size ≤ gb259)); have n3_ := Aside0.mk ((by rw [hg]; exact (below_size (by repeat (first | (with_reducible first | exact HB.out | apply below_alloc | apply pw_below_drewN | apply below_drew1) | exact HB.out))) : w.heap.size ≤ gb259)); clear HB; have HB := n0_; have BK259 := n1_; have GW259 := n2_; have GE259 := n3_; clear n0_ n1_ n2_ n3_; clear hb hbox hg))
                  have n0_ := Aside0.mk (blk_drew BK259.out)
                  have n1_ := Aside0.mk (below_drew1 HB.out)
                  clear BK259
                  clear HB
                  have BK259 := n0_
                  have HB := n1_
                  clear n0_ n1_
                  refine start_ (n := 14) (S := fun w' => True) (ds := []) #[false, false, false, false, false, false, false, false, false, false, false, false, false, false] (by kernel_rfl) rfl rfl trivial (fun hHeld => ?_); refine with_tabW patchbayref3_SegOf.tab3 patchbayref3_SegOf.bits3 (fun HT_ HW_ => ?_)
                  generalize w92.drew = w93 at BK259 HB hHeld ⊢
                  refine pure_ (i := 0) (N := some 15) (v := ?_) (a' := ?_) #[true, false, false, false, false, false, false, false, false, false, false, false, false, false] rfl rfl (any_of HT_.out (by kernel_rfl)) (fun _ _ _ h => h) (Or.inl ⟨by rfl, ?_⟩) ?_ ?_
                  rotate_left
                  · intro w'
                    go_simp
                    with_reducible rfl
                  rotate_left
                  · simp only [Act.put, List.setIfInBounds_toArray, List.set_cons_zero, List.set_cons_succ, i64_w, i32_w]
                    rfl
                  refine pure_ (i := 1) (N := some 16) (v := ?_) (a' := ?_) #[true, true, false, false, false, false, false, false, false, false, false, false, false, false] rfl rfl (any_of HT_.out (by kernel_rfl)) (fun _ _ _ h => h) (Or.inl ⟨by rfl, ?_⟩) ?_ ?_
                  rotate_left
                  · intro w'
                    go_simp
                    with_reducible rfl
                  rotate_left
                  · simp only [Act.put, List.setIfInBounds_toArray, List.set_cons_zero, List.set_cons_succ, i64_w, i32_w]
                    rfl
                  refine pure_ (i := 3) (N := some 18) (v := ?_) (a' := ?_) #[true, true, false, true, false, false, false, false, false, false, false, false, false, false] rfl rfl (any_of HT_.out (by kernel_rfl)) (fun _ _ _ h => h) (Or.inl ⟨by rfl, ?_⟩) ?_ ?_
                  rotate_left
                  · intro w'
                    go_simp
                    with_reducible rfl
                  rotate_left
                  · simp only [Act.put, List.setIfInBounds_toArray, List.set_cons_zero, List.set_cons_succ, i64_w, i32_w]
                    rfl
                  refine pure_ (i := 4) (N := some 19) (v := ?_) (a' := ?_) #[true, true, false, true, true, false, false, false, false, false, false, false, false, false] rfl rfl (any_of HT_.out (by kernel_rfl)) (fun _ _ _ h => h) (Or.inl ⟨by rfl, ?_⟩) ?_ ?_
                  rotate_left
                  · intro w'
                    go_simp
                    with_reducible rfl
                  rotate_left
                  · simp only [Act.put, List.setIfInBounds_toArray, List.set_cons_zero, List.set_cons_succ, i64_w, i32_w]
                    rfl
                  refine pure_ (i := 5) (N := some 20) (v := ?_) (a' := ?_) #[true, true, false, true, true, true, false, false, false, false, false, false, false, false] rfl rfl (any_of HT_.out (by kernel_rfl)) (fun _ _ _ h => h) (Or.inl ⟨by rfl, ?_⟩) ?_ ?_
                  rotate_left
                  · intro w'
                    go_simp
                    with_reducible rfl
                  rotate_left
                  · simp only [Act.put, List.setIfInBounds_toArray, List.set_cons_zero, List.set_cons_succ, i64_w, i32_w]
                    rfl
                  refine pure_ (i := 6) (N := some 21) (v := ?_) (a' := ?_) #[true, true, false, true, true, true, true, false, false, false, false, false, false, false] rfl rfl (any_of HT_.out (by kernel_rfl)) (fun _ _ _ h => h) (Or.inl ⟨by rfl, ?_⟩) ?_ ?_
                  rotate_left
                  · intro w'
                    go_simp
                    with_reducible rfl
                  rotate_left
                  · simp only [Act.put, List.setIfInBounds_toArray, List.set_cons_zero, List.set_cons_succ, i64_w, i32_w]
                    rfl
                  refine pure_ (i := 9) (N := some 24) (v := ?_) (a' := ?_) #[true, true, false, true, true, true, true, false, false, true, false, false, false, false] rfl rfl (any_of HT_.out (by kernel_rfl)) (fun _ _ _ h => h) (Or.inl ⟨by rfl, ?_⟩) ?_ ?_
                  rotate_left
                  · intro w'
                    go_simp
                    with_reducible rfl
                  rotate_left
                  · simp only [Act.put, List.setIfInBounds_toArray, List.set_cons_zero, List.set_cons_succ, i64_w, i32_w]
                    rfl
                  refine pure_ (i := 10) (N := some 25) (v := ?_) (a' := ?_) #[true, true, false, true, true, true, true, false, false, true, true, false, false, false] rfl rfl (any_of HT_.out (by kernel_rfl)) (fun _ _ _ h => h) (Or.inl ⟨by rfl, ?_⟩) ?_ ?_
                  rotate_left
                  · intro w'
                    go_simp
                    with_reducible rfl
                  rotate_left
                  · simp only [Act.put, List.setIfInBounds_toArray, List.set_cons_zero, List.set_cons_succ, i64_w, i32_w]
                    rfl
                  refine one_ (i := 2) (N := some 17) #[true, true, true, true, true, true, true, false, false, true, true, false, false, false] rfl rfl (one_of HT_.out (by kernel_rfl)) (by decide) (fun K hK => ?_)
                  refine goes_ Try.func85 (by kernel_rfl) rfl #[.string (a2.extract 16 18)] (by rfl) rfl rfl (by (try simp only [List.map_toArray, List.map_cons, List.map_nil]); first | done | rfl | (simp only [List.length_drop, List.length_take]; rfl)) ?_
                  with_reducible refine (patchbayref3_Read.calls k (a2.extract 16 18) t260 _ A9.out).mono ?_
                  rintro e w' ⟨rfl, ⟨nd, rfl⟩⟩
                  refine ⟨_, rfl, ?_⟩
                  refine hK.out _ _ trivial (fun hHeld => ?_)
                  clear hK K
                  refine norm_ (a' := ?_) ?_ ?_
                  rotate_left
                  · show Act.put _ (some 17) _ = _
                    simp only [Act.put, List.setIfInBounds_toArray, List.set_cons_zero, List.set_cons_succ, i64_w, i32_w]
                    rfl
                  refine one_ (i := 7) (N := some 22) #[true, true, true, true, true, true, true, true, false, true, true, false, false, false] rfl rfl (one_of HT_.out (by kernel_rfl)) (by decide) (fun K hK => ?_)
                  refine goes_ Try.func86 (by kernel_rfl) rfl #[.int .i64 0, .int .i64 2] (by rfl) rfl rfl (by (try simp only [List.map_toArray, List.map_cons, List.map_nil]); first | done | rfl | (simp only [List.length_drop, List.length_take]; rfl)) ?_
                  with_reducible refine (patchbayref3_Number.calls k 0 2 t261 _ A12.out).mono ?_
                  rintro e w94 ⟨rfl, hb⟩
                  refine ⟨_, rfl, ?_⟩
                  have n0_ := Aside0.mk (blk_below (g := gb259) (o := .cells #[.int .i64 0, .int .i64 0, .int .u32 0, .int .u32 0, .int .i64 0, .int .i64 0, .slice none 0 0, .string (⟨#[]⟩ : ByteArray)] 35 (0, 0)) (by (with_reducible repeat (first | refine blk_drewN ?_ _ | refine blk_drew ?_ | refine blk_alloc ?_ _)); exact BK259.out) hb)
                  have n1_ := Aside0.mk (below_step (by repeat (first | (with_reducible first | exact HB.out | apply below_alloc | apply pw_below_drewN | apply below_drew1 | refine below_set ?_ GE259.out) | exact HB.out)) hb)
                  clear BK259
                  clear HB
                  have BK259 := n0_
                  have HB := n1_
                  clear n0_ n1_
                  (try clear hb)
                  (try clear hb2)
                  (try clear hk)
                  (try clear hi)
                  refine hK.out _ _ trivial (fun hHeld => ?_)
                  clear hK K
                  refine norm_ (a' := ?_) ?_ ?_
                  rotate_left
                  · show Act.put _ (some 22) _ = _
                    simp only [Act.put, List.setIfInBounds_toArray, List.set_cons_zero, List.set_cons_succ, i64_w, i32_w]
                    rfl
                  refine pure_ (i := 8) (N := some 23) (v := ?_) (a' := ?_) #[true, true, true, true, true, true, true, true, true, true, true, false, false, false] rfl rfl (any_of HT_.out (by kernel_rfl)) (fun _ _ _ h => h) (Or.inl ⟨by rfl, ?_⟩) ?_ ?_
                  rotate_left
                  · intro w'
                    go_simp
                    with_reducible rfl
                  rotate_left
                  · simp only [Act.put, List.setIfInBounds_toArray, List.set_cons_zero, List.set_cons_succ, i64_w, i32_w]
                    rfl
                  refine pure_ (i := 11) (N := some 26) (v := ?_) (a' := ?_) #[true, true, true, true, true, true, true, true, true, true, true, true, false, false] rfl rfl (any_of HT_.out (by kernel_rfl)) (fun _ _ _ h => h) (Or.inl ⟨by rfl, ?_⟩) ?_ ?_
                  rotate_left
                  · intro w'
                    go_simp
                    with_reducible rfl
                  rotate_left
                  · simp only [Act.put, List.setIfInBounds_toArray, List.set_cons_zero, List.set_cons_succ, i64_w, i32_w]
                    rfl
                  refine one_ (i := 12) (N := some 27) #[true, true, true, true, true, true, true, true, true, true, true, true, true, false] rfl rfl (one_of HT_.out (by kernel_rfl)) (by decide) (fun K hK => ?_)
                  refine goes_ Try.func80 (by kernel_rfl) rfl #[.int .u32 a0, .int .u32 a1, .string (((a2.extract 0 16) ++ t261) ++ (a2.extract 18 a2.size))] (by rfl) rfl rfl (by (try simp only [List.map_toArray, List.map_cons, List.map_nil]); first | done | rfl | (simp only [List.length_drop, List.length_take]; rfl)) ?_
                  with_reducible refine (patchbayref3_SegSum.calls k a0 a1 (((a2.extract 0 16) ++ t261) ++ (a2.extract 18 a2.size)) t262 _ A16.out).mono ?_
                  rintro e w95 ⟨rfl, hb⟩
                  refine ⟨_, rfl, ?_⟩
                  have n0_ := Aside0.mk (blk_below (g := gb259) (o := .cells #[.int .i64 0, .int .i64 0, .int .u32 0, .int .u32 0, .int .i64 0, .int .i64 0, .slice none 0 0, .string (⟨#[]⟩ : ByteArray)] 35 (0, 0)) (by (with_reducible repeat (first | refine blk_drewN ?_ _ | refine blk_drew ?_ | refine blk_alloc ?_ _)); exact BK259.out) hb)
                  have n1_ := Aside0.mk (below_step (by repeat (first | (with_reducible first | exact HB.out | apply below_alloc | apply pw_below_drewN | apply below_drew1 | refine below_set ?_ GE259.out) | exact HB.out)) hb)
                  clear BK259
                  clear HB
                  have BK259 := n0_
                  have HB := n1_
                  clear n0_ n1_
                  (try clear hb)
                  (try clear hb2)
                  (try clear hk)
                  (try clear hi)
                  refine hK.out _ _ trivial (fun hHeld => ?_)
                  clear hK K
                  refine norm_ (a' := ?_) ?_ ?_
                  rotate_left
                  · show Act.put _ (some 27) _ = _
                    simp only [Act.put, List.setIfInBounds_toArray, List.set_cons_zero, List.set_cons_succ, i64_w, i32_w]
                    rfl
                  refine pure_ (i := 13) (N := some 28) (v := ?_) (a' := ?_) #[true, true, true, true, true, true, true, true, true, true, true, true, true, true] rfl rfl (any_of HT_.out (by kernel_rfl)) (fun _ _ _ h => h) (Or.inl ⟨by rfl, ?_⟩) ?_ ?_
                  rotate_left
                  · intro w'
                    go_simp
                    with_reducible rfl
                  rotate_left
                  · simp only [Act.put, List.setIfInBounds_toArray, List.set_cons_zero, List.set_cons_succ, i64_w, i32_w]
                    rfl
                  refine done_ (done_of HT_.out (by kernel_rfl)) ?_
                  have hcz96_0 : w95.cell? ⟨gb259, 0, none⟩ = some (.int .i64 0) := (blk_cell BK259.out 0).trans rfl
                  have hcz96_1 : w95.cell? ⟨gb259, 1, none⟩ = some (.int .i64 0) := (blk_cell BK259.out 1).trans rfl
                  have hcz96_2 : w95.cell? ⟨gb259, 2, none⟩ = some (.int .u32 0) := (blk_cell BK259.out 2).trans rfl
                  have hcz96_3 : w95.cell? ⟨gb259, 3, none⟩ = some (.int .u32 0) := (blk_cell BK259.out 3).trans rfl
                  have hcz96_4 : w95.cell? ⟨gb259, 4, none⟩ = some (.int .i64 0) := (blk_cell BK259.out 4).trans rfl
                  have hcz96_5 : w95.cell? ⟨gb259, 5, none⟩ = some (.int .i64 0) := (blk_cell BK259.out 5).trans rfl
                  have hcz96_6 : w95.cell? ⟨gb259, 6, none⟩ = some (.slice none 0 0) := (blk_cell BK259.out 6).trans rfl
                  have hcz96_7 : w95.cell? ⟨gb259, 7, none⟩ = some (.string (⟨#[]⟩ : ByteArray)) := (blk_cell BK259.out 7).trans rfl
                  have hfz96_0 := blk_frozen BK259.out 0
                  have hfz96_1 := blk_frozen BK259.out 1
                  have hfz96_2 := blk_frozen BK259.out 2
                  have hfz96_3 := blk_frozen BK259.out 3
                  have hfz96_4 := blk_frozen BK259.out 4
                  have hfz96_5 := blk_frozen BK259.out 5
                  have hfz96_6 := blk_frozen BK259.out 6
                  have hfz96_7 := blk_frozen BK259.out 7
                  try go_wp2
                  refine bodyPost_ret (results_ct rfl _ _ gb259 35 #[.int .i64 0, .int .i64 0, .int .u32 0, .int .u32 0, .int .i64 0, .int .i64 0, .slice none 0 0, .string (⟨#[]⟩ : ByteArray)] (0, 0) _ rfl (by (with_reducible repeat (first | refine blk_drewN ?_ _ | refine blk_drew ?_ | refine blk_alloc ?_ _)); refine blk_put (cs := #[.int .i64 0, .int .i64 0, .int .u32 0, .int .u32 0, .int .i64 0, .int .i64 0, .slice none 0 0, .string (⟨#[]⟩ : ByteArray)]) ?_ 7 _ rfl; (with_reducible repeat (first | refine blk_drewN ?_ _ | refine blk_drew ?_ | refine blk_alloc ?_ _)); refine blk_put (cs := #[.int .i64 0, .int .i64 0, .int .u32 0, .int .u32 0, .int .i64 0, .int .i64 0, .slice none 0 0, .string (⟨#[]⟩ : ByteArray)]) ?_ 6 _ rfl; (with_reducible repeat (first | refine blk_drewN ?_ _ | refine blk_drew ?_ | refine blk_alloc ?_ _)); refine blk_put (cs := #[.int .i64 0, .int .i64 0, .int .u32 0, .int .u32 0, .int .i64 0, .int .i64 0, .slice none 0 0, .string (⟨#[]⟩ : ByteArray)]) ?_ 5 _ rfl; (with_reducible repeat (first | refine blk_drewN ?_ _ | refine blk_drew ?_ | refine blk_alloc ?_ _)); refine blk_put (cs := #[.int .i64 0, .int .i64 0, .int .u32 0, .int .u32 0, .int .i64 0, .int .i64 0, .slice none 0 0, .string (⟨#[]⟩ : ByteArray)]) ?_ 4 _ rfl; (with_reducible repeat (first | refine blk_drewN ?_ _ | refine blk_drew ?_ | refine blk_alloc ?_ _)); refine blk_put (cs := #[.int .i64 0, .int .i64 0, .int .u32 0, .int .u32 0, .int .i64 0, .int .i64 0, .slice none 0 0, .string (⟨#[]⟩ : ByteArray)]) ?_ 3 _ rfl; (with_reducible repeat (first | refine blk_drewN ?_ _ | refine blk_drew ?_ | refine blk_alloc ?_ _)); refine blk_put (cs := #[.int .i64 0, .int .i64 0, .int .u32 0, .int .u32 0, .int .i64 0, .int .i64 0, .slice none 0 0, .string (⟨#[]⟩ : ByteArray)]) ?_ 2 _ rfl; (with_reducible repeat (first | refine blk_drewN ?_ _ | refine blk_drew ?_ | refine blk_alloc ?_ _)); refine blk_put (cs := #[.int .i64 0, .int .i64 0, .int .u32 0, .int .u32 0, .int .i64 0, .int .i64 0, .slice none 0 0, .string (⟨#[]⟩ : ByteArray)]) ?_ 1 _ rfl; (with_reducible repeat (first | refine blk_drewN ?_ _ | refine blk_drew ?_ | refine blk_alloc ?_ _)); refine blk_put (cs := #[.int .i64 0, .int .i64 0, .int .u32 0, .int .u32 0, .int .i64 0, .int .i64 0, .slice none 0 0, .string (⟨#[]⟩ : ByteArray)]) ?_ 0 _ rfl; (with_reducible repeat (first | refine blk_drewN ?_ _ | refine blk_drew ?_ | refine blk_alloc ?_ _)); exact BK259.out) Try.underlying35 rfl (by kernel_rfl)) rfl ?_
                  exact ⟨_, by first | rfl | (simp [errW_none, errW_some] <;> rfl) | (simp [*, errW_none, errW_some] <;> rfl), by first | exact Kd.R_nil _ _ _ _ _ | exact Kd.N_nil _ _ _ _ _ | exact Kd.V_nil _ _ _ _ _ | exact Kd.Q_nil _ _ _ _ _ | exact Kd.S_nil _ _ _ _ _, by repeat (first | (with_reducible first | exact HB.out | apply below_alloc | apply pw_below_drewN | apply below_drew1 | refine below_set ?_ GE259.out) | exact HB.out)⟩
              · rw [if_neg c15] at H
                exact absurd H (by simp)
            · rw [if_neg c13] at H
              exact absurd H (by simp)
          · rw [if_neg c11] at H
            exact absurd H (by simp)
        · rw [if_neg c10] at H
          exact absurd H (by simp)
      · rw [if_neg c8] at H
        exact absurd H (by simp)
    · rw [if_neg c7] at H
      exact absurd H (by simp)

end Go.Proofs.Ytjiiejeldgkdiaa.PSegSays
