/- Turned from a printed text of this claim. -/
import Derived.Test.YtcllcjflgeiehaaBCastX0
import Derived.Test.YtcllcjflgeiehaaBCastX1
import Derived.Test.YtcllcjflgeiehaaBCastX2
namespace Go.Proofs.Ytcllcjflgeiehaa.PCastPlays
open Go.RowKit Go.Proofs.YtcllcjflgeiehaaW.PrintWords Go.Proofs.YtcllcjflgeiehaaW.PrintLast Go.Proofs.YtcllcjflgeiehaaW.PrintMore
attribute [local go_sem] max2_int min2_int max_two min_two max_three min_three max_four min_four   -- for this text's walks alone
set_option linter.unusedVariables false
set_option linter.unusedSimpArgs false

/-! ### patchbayref3_Cast_Out: function 28 -/
mutual
def patchbayref3_Cast_Out.l0 : Nat → Int → List (S56) → Int → Int → List Bool → List Bool → List Bool → List ByteArray → List Int → List Int → Int → Int → Int → Option (Int × List Bool × List Bool × List Bool × List ByteArray × List Int × List Int × Int × Int × Int × (List (S56)) × Int)
 | 0, _, _, _, _, _, _, _, _, _, _, _, _, _ => none
 | k + 1, x1, x7, x8, x290000, x290001, x290002, x290003, x290004, x290005, x290006, x290007, x290008, x290009 => if x8 < (x290001.length : Int) then (if 0 ≤ x8 then (if x8 < (x290002.length : Int) then (if rdOf false x290002 x8 = true then (patchbayref3_Cast_Out.j1 k x1 x7 x8 true x290000 x290001 x290002 x290003 x290004 x290005 x290006 x290007 x290008 x290009) else (if rdOf false x290001 x8 = true then (if x8 < (x290003.length : Int) then (if rdOf false x290003 x8 = true then (if x8 < (x290006.length : Int) then (patchbayref3_Cast_Out.j1 k x1 x7 x8 (decide ((rd x290006 x8) ≤ x1)) x290000 x290001 x290002 x290003 x290004 x290005 x290006 x290007 x290008 x290009) else (none)) else (patchbayref3_Cast_Out.j1 k x1 x7 x8 false x290000 x290001 x290002 x290003 x290004 x290005 x290006 x290007 x290008 x290009)) else (none)) else (patchbayref3_Cast_Out.j1 k x1 x7 x8 false x290000 x290001 x290002 x290003 x290004 x290005 x290006 x290007 x290008 x290009))) else (none)) else (none)) else (if x290000 = 0 then (if (x290001.length : Int) > 0 then (if x290007 ≤ x1 then (if x7.length < 3518437208883 then (some (x290000, x290001, x290002, x290003, x290004, x290005, x290006, wrap64 (x1 + 50), x290008, x290009, (x7 ++ [(⟨3, 0, (x290001.length : Int), (⟨#[]⟩ : ByteArray)⟩ : S56)]), 0)) else (none)) else (some (x290000, x290001, x290002, x290003, x290004, x290005, x290006, x290007, x290008, x290009, x7, 0))) else (some (x290000, x290001, x290002, x290003, x290004, x290005, x290006, x290007, x290008, x290009, x7, 0))) else (some (x290000, x290001, x290002, x290003, x290004, x290005, x290006, x290007, x290008, x290009, x7, 0)))
def patchbayref3_Cast_Out.j1 : Nat → Int → List (S56) → Int → Bool → Int → List Bool → List Bool → List Bool → List ByteArray → List Int → List Int → Int → Int → Int → Option (Int × List Bool × List Bool × List Bool × List ByteArray × List Int × List Int × Int × Int × Int × (List (S56)) × Int)
 | 0, _, _, _, _, _, _, _, _, _, _, _, _, _, _ => none
 | k + 1, x1, x7, x8, x56, x290000, x290001, x290002, x290003, x290004, x290005, x290006, x290007, x290008, x290009 => if x56 = true then (if 0 ≤ x8 then (if x8 < (x290004.length : Int) then (if x7.length < 3518437208883 then (if x8 < (x290002.length : Int) then (if x8 < (x290003.length : Int) then (patchbayref3_Cast_Out.l0 k x1 (x7 ++ [(⟨1, x290000, x8, rdOf ByteArray.empty x290004 x8⟩ : S56)]) (wrap64 (x8 + 1)) x290000 x290001 (x290002.set (x8 : Int).toNat false) (x290003.set (x8 : Int).toNat false) x290004 x290005 x290006 x290007 x290008 x290009) else (none)) else (none)) else (none)) else (none)) else (none)) else (if 0 ≤ x8 then (if x8 < (x290001.length : Int) then (if rdOf false x290001 x8 = true then (patchbayref3_Cast_Out.l0 k x1 x7 (wrap64 (x8 + 1)) x290000 x290001 x290002 x290003 x290004 x290005 x290006 x290007 x290008 x290009) else (if x8 < (x290005.length : Int) then (if (rd x290005 x8) ≤ x1 then (if x7.length < 3518437208883 then (patchbayref3_Cast_Out.l0 k x1 (x7 ++ [(⟨2, x290000, x8, (⟨#[]⟩ : ByteArray)⟩ : S56)]) (wrap64 (x8 + 1)) x290000 x290001 x290002 x290003 x290004 (x290005.set (x8 : Int).toNat (wrap64 (x1 + 20))) x290006 x290007 x290008 x290009) else (none)) else (patchbayref3_Cast_Out.l0 k x1 x7 (wrap64 (x8 + 1)) x290000 x290001 x290002 x290003 x290004 x290005 x290006 x290007 x290008 x290009)) else (none))) else (none)) else (none))
end
def patchbayref3_Cast_Out.f (k : Nat) (a0_0 : Int) (l0_1 : List Bool) (l0_2 : List Bool) (l0_3 : List Bool) (l0_4 : List ByteArray) (l0_5 : List Int) (l0_6 : List Int) (a0_7 : Int) (a0_8 : Int) (a0_9 : Int) (a1 : Int) : Option (Int × List Bool × List Bool × List Bool × List ByteArray × List Int × List Int × Int × Int × Int × (List (S56)) × Int) := (patchbayref3_In.f a1 0 1000000000).bind fun t291 => (if t291 = true then (if a1 < a0_8 then (some (a0_0, l0_1, l0_2, l0_3, l0_4, l0_5, l0_6, a0_7, a0_8, a0_9, ([] : List (S56)), 13)) else ((patchbayref3_Cast_Copied.f a0_0 l0_1 l0_2 l0_3 l0_4 l0_5 l0_6 a0_7 a0_8 a0_9).bind fun bt292 => (patchbayref3_Cast_Out.l0 k a1 ([] : List (S56)) 0 bt292.1 bt292.2.1 bt292.2.2.1 bt292.2.2.2.1 bt292.2.2.2.2.1 bt292.2.2.2.2.2.1 bt292.2.2.2.2.2.2.1 bt292.2.2.2.2.2.2.2.1 a1 bt292.2.2.2.2.2.2.2.2.2))) else (some (a0_0, l0_1, l0_2, l0_3, l0_4, l0_5, l0_6, a0_7, a0_8, a0_9, ([] : List (S56)), 1)))
theorem patchbayref3_Cast_Out.mono_l : ∀ k, (∀ y0 y1 y2 y3 y4 y5 y6 y7 y8 y9 y10 y11 y12, LeO (patchbayref3_Cast_Out.l0 k y0 y1 y2 y3 y4 y5 y6 y7 y8 y9 y10 y11 y12) (patchbayref3_Cast_Out.l0 (k + 1) y0 y1 y2 y3 y4 y5 y6 y7 y8 y9 y10 y11 y12)) ∧ (∀ y0 y1 y2 y3 y4 y5 y6 y7 y8 y9 y10 y11 y12 y13, LeO (patchbayref3_Cast_Out.j1 k y0 y1 y2 y3 y4 y5 y6 y7 y8 y9 y10 y11 y12 y13) (patchbayref3_Cast_Out.j1 (k + 1) y0 y1 y2 y3 y4 y5 y6 y7 y8 y9 y10 y11 y12 y13))
 | 0 => ⟨fun _ _ _ _ _ _ _ _ _ _ _ _ _ r h => by simp [patchbayref3_Cast_Out.l0] at h, fun _ _ _ _ _ _ _ _ _ _ _ _ _ _ r h => by simp [patchbayref3_Cast_Out.j1] at h⟩
 | k + 1 => by
  obtain ⟨ih0, ih1⟩ := patchbayref3_Cast_Out.mono_l k
  refine ⟨?_, ?_⟩
  · intro y0 y1 y2 y3 y4 y5 y6 y7 y8 y9 y10 y11 y12
    unfold patchbayref3_Cast_Out.l0
    repeat' first
    | (with_reducible exact ih0 _ _ _ _ _ _ _ _ _ _ _ _ _)
    | (with_reducible exact ih1 _ _ _ _ _ _ _ _ _ _ _ _ _ _)
    | (with_reducible exact LeO.refl _)
    | (with_reducible exact LeO.none _)
    | (with_reducible refine LeO.ite ?_ ?_)
    | (with_reducible refine LeO.bind ?_ (fun _ => ?_))
    | exact ih0 _ _ _ _ _ _ _ _ _ _ _ _ _
    | exact ih1 _ _ _ _ _ _ _ _ _ _ _ _ _ _
    | exact LeO.none _
    | refine LeO.ite ?_ ?_
    | refine LeO.bind ?_ (fun _ => ?_)
  · intro y0 y1 y2 y3 y4 y5 y6 y7 y8 y9 y10 y11 y12 y13
    unfold patchbayref3_Cast_Out.j1
    repeat' first
    | (with_reducible exact ih0 _ _ _ _ _ _ _ _ _ _ _ _ _)
    | (with_reducible exact ih1 _ _ _ _ _ _ _ _ _ _ _ _ _ _)
    | (with_reducible exact LeO.refl _)
    | (with_reducible exact LeO.none _)
    | (with_reducible refine LeO.ite ?_ ?_)
    | (with_reducible refine LeO.bind ?_ (fun _ => ?_))
    | exact ih0 _ _ _ _ _ _ _ _ _ _ _ _ _
    | exact ih1 _ _ _ _ _ _ _ _ _ _ _ _ _ _
    | exact LeO.none _
    | refine LeO.ite ?_ ?_
    | refine LeO.bind ?_ (fun _ => ?_)
def patchbayref3_Cast_Out.T12 : Bool × List (List Nat × List Nat) := (true, [([], []), ([], []), ([1], [1]), ([], []), ([], []), ([4], [4]), ([], []), ([5, 6], [5, 6]), ([7], [7]), ([2, 3, 8], [2, 3, 8]), ([9], [9]), ([0, 10], [0, 10]), ([11, 11, 0, 1, 2, 3, 4, 5, 6, 7, 8, 9, 10, 11], [0, 11])])
def patchbayref3_Cast_Out.B12 : List Nat := [0, 0, 2, 0, 0, 16, 0, 112, 240, 510, 1022, 2047, 4095]
theorem patchbayref3_Cast_Out.tab12 : rtab .any (opsOf Try.f28 12) = patchbayref3_Cast_Out.T12 := by kernel_rfl
theorem patchbayref3_Cast_Out.bits12 : waitsOk patchbayref3_Cast_Out.T12.2 patchbayref3_Cast_Out.B12 = true := by kernel_rfl
set_option maxHeartbeats 8000000 in
set_option maxRecDepth 100000 in
theorem patchbayref3_Cast_Out.calls (k : Nat) (a0_0 : Int) (P0_1_ : Nat → Prop) (u9000_ : Value) (l0_1 : List Bool) (P0_2_ : Nat → Prop) (u9001_ : Value) (l0_2 : List Bool) (P0_3_ : Nat → Prop) (u9002_ : Value) (l0_3 : List Bool) (P0_4_ : Nat → Prop) (u9003_ : Value) (l0_4 : List ByteArray) (P0_5_ : Nat → Prop) (u9004_ : Value) (l0_5 : List Int) (P0_6_ : Nat → Prop) (u9005_ : Value) (l0_6 : List Int) (a0_7 : Int) (a0_8 : Int) (a0_9 : Int) (a1 : Int) (r1 : Int) (r2 : List Bool) (r3 : List Bool) (r4 : List Bool) (r5 : List ByteArray) (r6 : List Int) (r7 : List Int) (r8 : Int) (r9 : Int) (r10 : Int) (r11 : List (S56)) (r12 : Int) (w0 w : World) (hB : Below w0.heap.size w0 w) (ho0_1 : Kd.R Kd.bool 4 w w0.heap.size P0_1_ u9000_ l0_1) (hp0_1_0_2 : ∀ k_, P0_1_ k_ → ¬ P0_2_ k_) (hp0_1_0_3 : ∀ k_, P0_1_ k_ → ¬ P0_3_ k_) (ho0_2 : Kd.R Kd.bool 4 w w0.heap.size P0_2_ u9001_ l0_2) (hp0_2_0_1 : ∀ k_, P0_2_ k_ → ¬ P0_1_ k_) (hp0_2_0_3 : ∀ k_, P0_2_ k_ → ¬ P0_3_ k_) (ho0_3 : Kd.R Kd.bool 4 w w0.heap.size P0_3_ u9002_ l0_3) (hp0_3_0_1 : ∀ k_, P0_3_ k_ → ¬ P0_1_ k_) (hp0_3_0_2 : ∀ k_, P0_3_ k_ → ¬ P0_2_ k_) (ho0_4 : Kd.R Kd.string 9 w w0.heap.size P0_4_ u9003_ l0_4) (ho0_5 : Kd.R (Kd.int .i64) 3 w w0.heap.size P0_5_ u9004_ l0_5) (hp0_5_0_6 : ∀ k_, P0_5_ k_ → ¬ P0_6_ k_) (ho0_6 : Kd.R (Kd.int .i64) 3 w w0.heap.size P0_6_ u9005_ l0_6) (hp0_6_0_5 : ∀ k_, P0_6_ k_ → ¬ P0_5_ k_) (h : patchbayref3_Cast_Out.f k a0_0 l0_1 l0_2 l0_3 l0_4 l0_5 l0_6 a0_7 a0_8 a0_9 a1 = some (r1, r2, r3, r4, r5, r6, r7, r8, r9, r10, r11, r12)) :
 Calls Try.prog 28 #[.agg #[.int .i64 a0_0, u9000_, u9001_, u9002_, u9003_, u9004_, u9005_, .int .i64 a0_7, .int .i64 a0_8, .int .i64 a0_9], .int .i64 a1] w fun e w' => ∃ v1_ v2_ v3_ v4_ v5_ v6_ v10_ : Value, e = .returned (.tuple #[.agg #[.int .i64 r1, v1_, v2_, v3_, v4_, v5_, v6_, .int .i64 r8, .int .i64 r9, .int .i64 r10], v10_, .int .i64 r12]) ∧ Kd.R Kd.bool 4 w' w0.heap.size (fun k_ => ((P0_1_ k_ ∨ P0_2_ k_ ∨ P0_3_ k_ ∨ P0_4_ k_ ∨ P0_5_ k_ ∨ P0_6_ k_) ∨ w.heap.size ≤ k_) ∧ some k_ ≠ (v2_ : Value).ownBlock ∧ some k_ ≠ (v3_ : Value).ownBlock) v1_ r2 ∧ Kd.R Kd.bool 4 w' w0.heap.size (fun k_ => ((P0_1_ k_ ∨ P0_2_ k_ ∨ P0_3_ k_ ∨ P0_4_ k_ ∨ P0_5_ k_ ∨ P0_6_ k_) ∨ w.heap.size ≤ k_) ∧ some k_ ≠ (v1_ : Value).ownBlock ∧ some k_ ≠ (v3_ : Value).ownBlock) v2_ r3 ∧ Kd.R Kd.bool 4 w' w0.heap.size (fun k_ => ((P0_1_ k_ ∨ P0_2_ k_ ∨ P0_3_ k_ ∨ P0_4_ k_ ∨ P0_5_ k_ ∨ P0_6_ k_) ∨ w.heap.size ≤ k_) ∧ some k_ ≠ (v1_ : Value).ownBlock ∧ some k_ ≠ (v2_ : Value).ownBlock) v3_ r4 ∧ Kd.R Kd.string 9 w' w0.heap.size (fun k_ => ((P0_1_ k_ ∨ P0_2_ k_ ∨ P0_3_ k_ ∨ P0_4_ k_ ∨ P0_5_ k_ ∨ P0_6_ k_) ∨ w.heap.size ≤ k_)) v4_ r5 ∧ Kd.R (Kd.int .i64) 3 w' w0.heap.size (fun k_ => ((P0_1_ k_ ∨ P0_2_ k_ ∨ P0_3_ k_ ∨ P0_4_ k_ ∨ P0_5_ k_ ∨ P0_6_ k_) ∨ w.heap.size ≤ k_) ∧ some k_ ≠ (v6_ : Value).ownBlock) v5_ r6 ∧ Kd.R (Kd.int .i64) 3 w' w0.heap.size (fun k_ => ((P0_1_ k_ ∨ P0_2_ k_ ∨ P0_3_ k_ ∨ P0_4_ k_ ∨ P0_5_ k_ ∨ P0_6_ k_) ∨ w.heap.size ≤ k_) ∧ some k_ ≠ (v5_ : Value).ownBlock) v6_ r7 ∧ Kd.R k56 56 w' w0.heap.size (fun k_ => ((P0_1_ k_ ∨ P0_2_ k_ ∨ P0_3_ k_ ∨ P0_4_ k_ ∨ P0_5_ k_ ∨ P0_6_ k_) ∨ w.heap.size ≤ k_)) v10_ r11 ∧ Below w0.heap.size w0 w' ∧ Kept w w' (fun k_ => P0_1_ k_ ∨ P0_2_ k_ ∨ P0_3_ k_ ∨ P0_4_ k_ ∨ P0_5_ k_ ∨ P0_6_ k_) := by
 have hu54 := Try.underlying54
 have hu56 := Try.underlying56
 have HO0_1 := Aside0.mk (show Kd.R Kd.bool 4 w w0.heap.size (fun k_ => ((P0_1_ k_ ∨ P0_2_ k_ ∨ P0_3_ k_ ∨ P0_4_ k_ ∨ P0_5_ k_ ∨ P0_6_ k_) ∨ w.heap.size ≤ k_) ∧ some k_ ≠ (u9001_ : Value).ownBlock ∧ some k_ ≠ (u9002_ : Value).ownBlock) u9000_ l0_1 from Kd.R_mono ho0_1 (fun k_ hk => ⟨(.inl (.inl hk)), fun e_ => hp0_1_0_2 k_ hk (ho0_2.1 k_ e_.symm), fun e_ => hp0_1_0_3 k_ hk (ho0_3.1 k_ e_.symm)⟩))
 have HO0_2 := Aside0.mk (show Kd.R Kd.bool 4 w w0.heap.size (fun k_ => ((P0_1_ k_ ∨ P0_2_ k_ ∨ P0_3_ k_ ∨ P0_4_ k_ ∨ P0_5_ k_ ∨ P0_6_ k_) ∨ w.heap.size ≤ k_) ∧ some k_ ≠ (u9000_ : Value).ownBlock ∧ some k_ ≠ (u9002_ : Value).ownBlock) u9001_ l0_2 from Kd.R_mono ho0_2 (fun k_ hk => ⟨(.inl (.inr (.inl hk))), fun e_ => hp0_2_0_1 k_ hk (ho0_1.1 k_ e_.symm), fun e_ => hp0_2_0_3 k_ hk (ho0_3.1 k_ e_.symm)⟩))
 have HO0_3 := Aside0.mk (show Kd.R Kd.bool 4 w w0.heap.size (fun k_ => ((P0_1_ k_ ∨ P0_2_ k_ ∨ P0_3_ k_ ∨ P0_4_ k_ ∨ P0_5_ k_ ∨ P0_6_ k_) ∨ w.heap.size ≤ k_) ∧ some k_ ≠ (u9000_ : Value).ownBlock ∧ some k_ ≠ (u9001_ : Value).ownBlock) u9002_ l0_3 from Kd.R_mono ho0_3 (fun k_ hk => ⟨(.inl (.inr (.inr (.inl hk)))), fun e_ => hp0_3_0_1 k_ hk (ho0_1.1 k_ e_.symm), fun e_ => hp0_3_0_2 k_ hk (ho0_2.1 k_ e_.symm)⟩))
 have HO0_4 := Aside0.mk (show Kd.R Kd.string 9 w w0.heap.size (fun k_ => ((P0_1_ k_ ∨ P0_2_ k_ ∨ P0_3_ k_ ∨ P0_4_ k_ ∨ P0_5_ k_ ∨ P0_6_ k_) ∨ w.heap.size ≤ k_)) u9003_ l0_4 from Kd.R_mono ho0_4 (fun k_ hk => (.inl (.inr (.inr (.inr (.inl hk)))))))
 have HO0_5 := Aside0.mk (show Kd.R (Kd.int .i64) 3 w w0.heap.size (fun k_ => ((P0_1_ k_ ∨ P0_2_ k_ ∨ P0_3_ k_ ∨ P0_4_ k_ ∨ P0_5_ k_ ∨ P0_6_ k_) ∨ w.heap.size ≤ k_) ∧ some k_ ≠ (u9005_ : Value).ownBlock) u9004_ l0_5 from Kd.R_mono ho0_5 (fun k_ hk => ⟨(.inl (.inr (.inr (.inr (.inr (.inl hk)))))), fun e_ => hp0_5_0_6 k_ hk (ho0_6.1 k_ e_.symm)⟩))
 have HO0_6 := Aside0.mk (show Kd.R (Kd.int .i64) 3 w w0.heap.size (fun k_ => ((P0_1_ k_ ∨ P0_2_ k_ ∨ P0_3_ k_ ∨ P0_4_ k_ ∨ P0_5_ k_ ∨ P0_6_ k_) ∨ w.heap.size ≤ k_) ∧ some k_ ≠ (u9004_ : Value).ownBlock) u9005_ l0_6 from Kd.R_mono ho0_6 (fun k_ hk => ⟨(.inl (.inr (.inr (.inr (.inr (.inr hk)))))), fun e_ => hp0_6_0_5 k_ hk (ho0_5.1 k_ e_.symm)⟩))
 have HK := Aside0.mk (Kept.refl w (fun k_ => P0_1_ k_ ∨ P0_2_ k_ ∨ P0_3_ k_ ∨ P0_4_ k_ ∨ P0_5_ k_ ∨ P0_6_ k_))
 have HW0 := Aside0.mk hB.size
 have HB := Aside0.mk hB
 clear hB
 have H : ((patchbayref3_In.f a1 0 1000000000).bind fun t291 => (if t291 = true then (if a1 < a0_8 then (some (a0_0, l0_1, l0_2, l0_3, l0_4, l0_5, l0_6, a0_7, a0_8, a0_9, ([] : List (S56)), 13)) else ((patchbayref3_Cast_Copied.f a0_0 l0_1 l0_2 l0_3 l0_4 l0_5 l0_6 a0_7 a0_8 a0_9).bind fun bt292 => (patchbayref3_Cast_Out.l0 k a1 ([] : List (S56)) 0 bt292.1 bt292.2.1 bt292.2.2.1 bt292.2.2.2.1 bt292.2.2.2.2.1 bt292.2.2.2.2.2.1 bt292.2.2.2.2.2.2.1 bt292.2.2.2.2.2.2.2.1 a1 bt292.2.2.2.2.2.2.2.2.2))) else (some (a0_0, l0_1, l0_2, l0_3, l0_4, l0_5, l0_6, a0_7, a0_8, a0_9, ([] : List (S56)), 1)))) = some (r1, r2, r3, r4, r5, r6, r7, r8, r9, r10, r11, r12) := h
 clear h
 replace H := Option.bind_eq_some_iff.mp H
 obtain ⟨t291, A30, H⟩ := H
 replace H : (if t291 = true then (if a1 < a0_8 then (some (a0_0, l0_1, l0_2, l0_3, l0_4, l0_5, l0_6, a0_7, a0_8, a0_9, ([] : List (S56)), 13)) else ((patchbayref3_Cast_Copied.f a0_0 l0_1 l0_2 l0_3 l0_4 l0_5 l0_6 a0_7 a0_8 a0_9).bind fun bt292 => (patchbayref3_Cast_Out.l0 k a1 ([] : List (S56)) 0 bt292.1 bt292.2.1 bt292.2.2.1 bt292.2.2.2.1 bt292.2.2.2.2.1 bt292.2.2.2.2.2.1 bt292.2.2.2.2.2.2.1 bt292.2.2.2.2.2.2.2.1 a1 bt292.2.2.2.2.2.2.2.2.2))) else (some (a0_0, l0_1, l0_2, l0_3, l0_4, l0_5, l0_6, a0_7, a0_8, a0_9, ([] : List (S56)), 1))) = some (r1, r2, r3, r4, r5, r6, r7, r8, r9, r10, r11, r12) := H
 have A3 := Aside0.mk A30
 clear A30
 by_cases c4 : t291 = true
 · subst c4
   have H1 : (if a1 < a0_8 then (some (a0_0, l0_1, l0_2, l0_3, l0_4, l0_5, l0_6, a0_7, a0_8, a0_9, ([] : List (S56)), 13)) else ((patchbayref3_Cast_Copied.f a0_0 l0_1 l0_2 l0_3 l0_4 l0_5 l0_6 a0_7 a0_8 a0_9).bind fun bt292 => (patchbayref3_Cast_Out.l0 k a1 ([] : List (S56)) 0 bt292.1 bt292.2.1 bt292.2.2.1 bt292.2.2.2.1 bt292.2.2.2.2.1 bt292.2.2.2.2.2.1 bt292.2.2.2.2.2.2.1 bt292.2.2.2.2.2.2.2.1 a1 bt292.2.2.2.2.2.2.2.2.2))) = some (r1, r2, r3, r4, r5, r6, r7, r8, r9, r10, r11, r12) := by rw [if_pos rfl] at H; exact H
   clear H
   have H := H1
   clear H1
   by_cases c5 : a1 < a0_8
   · rw [if_pos c5] at H
     have c5b0 : decide (a1 < a0_8) = true := decide_eq_true c5
     clear c5
     simp only [Option.some.injEq, Prod.mk.injEq] at H
     obtain ⟨rfl, rfl, rfl, rfl, rfl, rfl, rfl, rfl, rfl, rfl, rfl, rfl⟩ := H
     obtain ⟨Ao6, co6, eo6⟩ := Kd.R_slice HO0_1.out
     subst eo6
     obtain ⟨Ao7, co7, eo7⟩ := Kd.R_slice HO0_2.out
     subst eo7
     obtain ⟨Ao8, co8, eo8⟩ := Kd.R_slice HO0_3.out
     subst eo8
     obtain ⟨Ao9, co9, eo9⟩ := Kd.R_slice HO0_4.out
     subst eo9
     obtain ⟨Ao10, co10, eo10⟩ := Kd.R_slice HO0_5.out
     subst eo10
     obtain ⟨Ao11, co11, eo11⟩ := Kd.R_slice HO0_6.out
     subst eo11
     go_enter Try.func28, Try.ntmps28
     go_wp2_with (first | ((with_reducible refine gate_dst (N := 2) rfl ?_); (try (refine gate_guard (by rfl) ?_; dsimp only)); refine box_event ?hg (N := 2) ?hd (cs := #[.int .i64 a0_0, .slice Ao6 l0_1.length co6, .slice Ao7 l0_2.length co7, .slice Ao8 l0_3.length co8, .slice Ao9 l0_4.length co9, .slice Ao10 l0_5.length co10, .slice Ao11 l0_6.length co11, .int .i64 a0_7, .int .i64 a0_8, .int .i64 a0_9]) (t := 54) ?hr ?_; (case hd => rfl); (case hg => rfl); (case hr => first | (go_simp; done) | (go_simp; rfl)); intro gb289 hg w12 hbox hb; have n0_ := Aside0.mk (Kd.R_below (by (with_reducible repeat first | apply ra | apply rb | apply rc); exact HO0_1.out) hb); have n1_ := Aside0.mk (Kd.R_below (by (with_reducible repeat first | apply ra | apply rb | apply rc); exact HO0_2.out) hb); have n2_ := Aside0.mk (Kd.R_below (by (with_reducible repeat first | apply ra | apply rb | apply rc); exact HO0_3.out) hb); have n3_ := Aside0.mk (Kd.R_below (by (with_reducible repeat first | apply ra | apply rb | apply rc); exact HO0_4.out) hb); have n4_ := Aside0.mk (Kd.R_below (by (with_reducible repeat first | apply ra | apply rb | apply rc); exact HO0_5.out) hb); have n5_ := Aside0.mk (Kd.R_below (by (with_reducible repeat first | apply ra | apply rb | apply rc); exact HO0_6.out) hb); have n6_ := Aside0.mk (Kept.below (S := (fun k_ => P0_1_ k_ ∨ P0_2_ k_ ∨ P0_3_ k_ ∨ P0_4_ k_ ∨ P0_5_ k_ ∨ P0_6_ k_)) (by repeat (first | (with_reducible first | exact HK.out | apply Kept.alloc | apply Kept.drewN | apply Kept.drew) | exact HK.out)) hb); have n7_ := Aside0.mk (below_step (by repeat (first | (with_reducible first | exact HB.out | apply below_alloc | apply pw_below_drewN | apply below_drew1) | exact HB.out)) hb); have n8_ := Aside0.mk (hbox); have n9_ := Aside0.mk ((by rw [hg]; exact (by first | exact HK.out.1 | exact (show Kept w _ (fun k_ => P0_1_ k_ ∨ P0_2_ k_ ∨ P0_3_ k_ ∨ P0_4_ k_ ∨ P0_5_ k_ ∨ P0_6_ k_) from by repeat (first | (with_reducible first | exact HK.out | apply Kept.alloc | apply Kept.drewN | apply Kept.drew) | exact HK.out)).1) : w.heap.size ≤ gb289)); have n10_ := Aside0.mk ((by rw [hg]; exact (below_size (by repeat (first | (with_reducible first | exact HB.out | apply below_alloc | apply pw_below_drewN | apply below_drew1) | exact HB.out))) : w0.heap.size ≤ gb289)); clear HO0_1; clear HO0_2; clear HO0_3; clear HO0_4; clear HO0_5; clear HO0_6; clear HK; clear HB; have HO0_1 := n0_; have HO0_2 := n1_; have HO0_3 := n2_; have HO0_4 := n3_; have HO0_5 := n4_; have HO0_6 := n5_; have HK := n6_; have HB := n7_; have BK289 := n8_; have GW289 := n9_; have GE289 := n10_; clear n0_ n1_ n2_ n3_ n4_ n5_ n6_ n7_ n8_ n9_ n10_; clear hb hbox hg) | ((with_reducible refine gate_dst (N := 4) rfl ?_); (try (refine gate_guard (by rfl) ?_; dsimp only)); refine box_event ?hg (N := 4) ?hd (cs := #[.int .i64 0, .slice none 0 0, .slice none 0 0, .slice none 0 0, .slice none 0 0, .slice none 0 0, .slice none 0 0, .int .i64 0, .int .i64 0, .int .i64 0]) (t := 54) ?hr ?_; (case hd => rfl); (case hg => rfl); (case hr => first | (go_simp; done) | (go_simp; rfl)); intro gb290 hg w13 hbox hb; have n0_ := Aside0.mk (Kd.R_below (by (with_reducible repeat first | apply ra | apply rb | apply rc); exact HO0_1.out) hb); have n1_ := Aside0.mk (Kd.R_below (by (with_reducible repeat first | apply ra | apply rb | apply rc); exact HO0_2.out) hb); have n2_ := Aside0.mk (Kd.R_below (by (with_reducible repeat first | apply ra | apply rb | apply rc); exact HO0_3.out) hb); have n3_ := Aside0.mk (Kd.R_below (by (with_reducible repeat first | apply ra | apply rb | apply rc); exact HO0_4.out) hb); have n4_ := Aside0.mk (Kd.R_below (by (with_reducible repeat first | apply ra | apply rb | apply rc); exact HO0_5.out) hb); have n5_ := Aside0.mk (Kd.R_below (by (with_reducible repeat first | apply ra | apply rb | apply rc); exact HO0_6.out) hb); have n6_ := Aside0.mk (blk_below (g := gb289) (o := .cells #[.int .i64 a0_0, .slice Ao6 l0_1.length co6, .slice Ao7 l0_2.length co7, .slice Ao8 l0_3.length co8, .slice Ao9 l0_4.length co9, .slice Ao10 l0_5.length co10, .slice Ao11 l0_6.length co11, .int .i64 a0_7, .int .i64 a0_8, .int .i64 a0_9] 54 (0, 0)) (by (with_reducible repeat first | apply ba | apply bb | apply bc); exact BK289.out) hb); have n7_ := Aside0.mk (Kept.below (S := (fun k_ => P0_1_ k_ ∨ P0_2_ k_ ∨ P0_3_ k_ ∨ P0_4_ k_ ∨ P0_5_ k_ ∨ P0_6_ k_)) (by repeat (first | (with_reducible first | exact HK.out | apply Kept.alloc | apply Kept.drewN | apply Kept.drew | refine Kept.setCell ?_ (.inr GW289.out) _) | exact HK.out)) hb); have n8_ := Aside0.mk (below_step (by repeat (first | (with_reducible first | exact HB.out | apply below_alloc | apply pw_below_drewN | apply below_drew1 | refine below_set ?_ GE289.out) | exact HB.out)) hb); have n9_ := Aside0.mk (hbox); have n10_ := Aside0.mk ((by rw [hg]; exact (by first | exact HK.out.1 | exact (show Kept w _ (fun k_ => P0_1_ k_ ∨ P0_2_ k_ ∨ P0_3_ k_ ∨ P0_4_ k_ ∨ P0_5_ k_ ∨ P0_6_ k_) from by repeat (first | (with_reducible first | exact HK.out | apply Kept.alloc | apply Kept.drewN | apply Kept.drew | refine Kept.setCell ?_ (.inr GW289.out) _) | exact HK.out)).1) : w.heap.size ≤ gb290)); have n11_ := Aside0.mk ((by rw [hg]; exact (below_size (by repeat (first | (with_reducible first | exact HB.out | apply below_alloc | apply pw_below_drewN | apply below_drew1 | refine below_set ?_ GE289.out) | exact HB.out))) : w0.heap.size ≤ gb290)); have n12_ := Aside0.mk ((by rw [hg]; exact Nat.ne_of_lt (blk_lt (g := gb289) (o := .cells #[.int .i64 a0_0, .slice Ao6 l0_1.length co6, .slice Ao7 l0_2.length co7, .slice Ao8 l0_3.length co8, .slice Ao9 l0_4.length co9, .slice Ao10 l0_5.length co10, .slice Ao11 l0_6.length co11, .int .i64 a0_7, .int .i64 a0_8, .int .i64 a0_9] 54 (0, 0)) (by (with_reducible repeat first | apply ba | apply bb | apply bc); exact BK289.out)) : gb289 ≠ gb290)); have n13_ := Aside0.mk ((by rw [hg]; exact Nat.ne_of_gt (blk_lt (g := gb289) (o := .cells #[.int .i64 a0_0, .slice Ao6 l0_1.length co6, .slice Ao7 l0_2.length co7, .slice Ao8 l0_3.length co8, .slice Ao9 l0_4.length co9, .slice Ao10 l0_5.length co10, .slice Ao11 l0_6.length co11, .int .i64 a0_7, .int .i64 a0_8, .int .i64 a0_9] 54 (0, 0)) (by (with_reducible repeat first | apply ba | apply bb | apply bc); exact BK289.out)) : gb290 ≠ gb289)); clear HO0_1; clear HO0_2; clear HO0_3; clear HO0_4; clear HO0_5; clear HO0_6; clear BK289; clear HK; clear HB; have HO0_1 := n0_; have HO0_2 := n1_; have HO0_3 := n2_; have HO0_4 := n3_; have HO0_5 := n4_; have HO0_6 := n5_; have BK289 := n6_; have HK := n7_; have HB := n8_; have BK290 := n9_; have GW290 := n10_; have GE290 := n11_; have NB289_290 := n12_; have NB290_289 := n13_; clear n0_ n1_ n2_ n3_ n4_ n5_ n6_ n7_ n8_ n9_ n10_ n11_ n12_ n13_; clear hb hbox hg) | ((with_reducible refine gate_callee (f := 7) rfl ?_); refine goesL_ (some 10) rfl rfl Try.func7 (by kernel_rfl) rfl #[.int .i64 a1, .int .i64 0, .int .i64 1000000000] rfl (by (try simp only [List.map_toArray, List.map_cons, List.map_nil]); first | done | rfl | (simp only [List.length_drop, List.length_take]; rfl)) ?_; (with_reducible refine (patchbayref3_In.calls a1 0 1000000000 true _ A3.out).mono ?_); rintro e w' ⟨rfl, ⟨nd, rfl⟩⟩; refine ⟨_, rfl, ?_⟩; (try (rw [drewN_self w13]; generalize hq_ : World.drewN w13 _ = w13; have n0_ : Aside0 (Kd.R Kd.bool 4 w13 w0.heap.size (fun k_ => ((P0_1_ k_ ∨ P0_2_ k_ ∨ P0_3_ k_ ∨ P0_4_ k_ ∨ P0_5_ k_ ∨ P0_6_ k_) ∨ w.heap.size ≤ k_) ∧ some k_ ≠ (.slice Ao7 l0_2.length co7 : Value).ownBlock ∧ some k_ ≠ (.slice Ao8 l0_3.length co8 : Value).ownBlock) (.slice Ao6 l0_1.length co6) l0_1) := ⟨by rw [← hq_]; exact (by (with_reducible repeat first | apply ra | apply rb | apply rc); exact HO0_1.out)⟩; have n1_ : Aside0 (Kd.R Kd.bool 4 w13 w0.heap.size (fun k_ => ((P0_1_ k_ ∨ P0_2_ k_ ∨ P0_3_ k_ ∨ P0_4_ k_ ∨ P0_5_ k_ ∨ P0_6_ k_) ∨ w.heap.size ≤ k_) ∧ some k_ ≠ (.slice Ao6 l0_1.length co6 : Value).ownBlock ∧ some k_ ≠ (.slice Ao8 l0_3.length co8 : Value).ownBlock) (.slice Ao7 l0_2.length co7) l0_2) := ⟨by rw [← hq_]; exact (by (with_reducible repeat first | apply ra | apply rb | apply rc); exact HO0_2.out)⟩; have n2_ : Aside0 (Kd.R Kd.bool 4 w13 w0.heap.size (fun k_ => ((P0_1_ k_ ∨ P0_2_ k_ ∨ P0_3_ k_ ∨ P0_4_ k_ ∨ P0_5_ k_ ∨ P0_6_ k_) ∨ w.heap.size ≤ k_) ∧ some k_ ≠ (.slice Ao6 l0_1.length co6 : Value).ownBlock ∧ some k_ ≠ (.slice Ao7 l0_2.length co7 : Value).ownBlock) (.slice Ao8 l0_3.length co8) l0_3) := ⟨by rw [← hq_]; exact (by (with_reducible repeat first | apply ra | apply rb | apply rc); exact HO0_3.out)⟩; have n3_ : Aside0 (Kd.R Kd.string 9 w13 w0.heap.size (fun k_ => ((P0_1_ k_ ∨ P0_2_ k_ ∨ P0_3_ k_ ∨ P0_4_ k_ ∨ P0_5_ k_ ∨ P0_6_ k_) ∨ w.heap.size ≤ k_)) (.slice Ao9 l0_4.length co9) l0_4) := ⟨by rw [← hq_]; exact (by (with_reducible repeat first | apply ra | apply rb | apply rc); exact HO0_4.out)⟩; have n4_ : Aside0 (Kd.R (Kd.int .i64) 3 w13 w0.heap.size (fun k_ => ((P0_1_ k_ ∨ P0_2_ k_ ∨ P0_3_ k_ ∨ P0_4_ k_ ∨ P0_5_ k_ ∨ P0_6_ k_) ∨ w.heap.size ≤ k_) ∧ some k_ ≠ (.slice Ao11 l0_6.length co11 : Value).ownBlock) (.slice Ao10 l0_5.length co10) l0_5) := ⟨by rw [← hq_]; exact (by (with_reducible repeat first | apply ra | apply rb | apply rc); exact HO0_5.out)⟩; have n5_ : Aside0 (Kd.R (Kd.int .i64) 3 w13 w0.heap.size (fun k_ => ((P0_1_ k_ ∨ P0_2_ k_ ∨ P0_3_ k_ ∨ P0_4_ k_ ∨ P0_5_ k_ ∨ P0_6_ k_) ∨ w.heap.size ≤ k_) ∧ some k_ ≠ (.slice Ao10 l0_5.length co10 : Value).ownBlock) (.slice Ao11 l0_6.length co11) l0_6) := ⟨by rw [← hq_]; exact (by (with_reducible repeat first | apply ra | apply rb | apply rc); exact HO0_6.out)⟩; have n6_ : Aside0 (w13.heap[gb289]? = some (.cells #[.int .i64 a0_0, .slice Ao6 l0_1.length co6, .slice Ao7 l0_2.length co7, .slice Ao8 l0_3.length co8, .slice Ao9 l0_4.length co9, .slice Ao10 l0_5.length co10, .slice Ao11 l0_6.length co11, .int .i64 a0_7, .int .i64 a0_8, .int .i64 a0_9] 54 (0, 0))) := ⟨by rw [← hq_]; exact (by (with_reducible repeat first | apply ba | apply bb | apply bc); exact BK289.out)⟩; have n7_ : Aside0 (w13.heap[gb290]? = some (.cells #[.int .i64 0, .slice none 0 0, .slice none 0 0, .slice none 0 0, .slice none 0 0, .slice none 0 0, .slice none 0 0, .int .i64 0, .int .i64 0, .int .i64 0] 54 (0, 0))) := ⟨by rw [← hq_]; exact (by (with_reducible repeat first | apply ba | apply bb | apply bc); exact BK290.out)⟩; have n8_ : Aside0 (Kept w w13 (fun k_ => P0_1_ k_ ∨ P0_2_ k_ ∨ P0_3_ k_ ∨ P0_4_ k_ ∨ P0_5_ k_ ∨ P0_6_ k_)) := ⟨by rw [← hq_]; exact (by repeat (first | (with_reducible first | exact HK.out | apply Kept.alloc | apply Kept.drewN | apply Kept.drew | refine Kept.setCell ?_ (.inr GW289.out) _ | refine Kept.setCell ?_ (.inr GW290.out) _) | exact HK.out))⟩; have n9_ : Aside0 (Below w0.heap.size w0 w13) := ⟨by rw [← hq_]; exact (by repeat (first | (with_reducible first | exact HB.out | apply below_alloc | apply pw_below_drewN | apply below_drew1 | refine below_set ?_ GE289.out | refine below_set ?_ GE290.out) | exact HB.out))⟩; clear HO0_1 HO0_2 HO0_3 HO0_4 HO0_5 HO0_6 BK289 BK290 HK HB hq_; have HO0_1 := n0_; have HO0_2 := n1_; have HO0_3 := n2_; have HO0_4 := n3_; have HO0_5 := n4_; have HO0_6 := n5_; have BK289 := n6_; have BK290 := n7_; have HK := n8_; have HB := n9_; clear n0_ n1_ n2_ n3_ n4_ n5_ n6_ n7_ n8_ n9_)); have hnb14 := NB289_290.out; have hnc14 := NB290_289.out; have hcz15_0 : w13.cell? ⟨gb289, 0, none⟩ = some (.int .i64 a0_0) := (blk_cell BK289.out 0).trans rfl; have hcz15_1 : w13.cell? ⟨gb289, 1, none⟩ = some (.slice Ao6 l0_1.length co6) := (blk_cell BK289.out 1).trans rfl; have hcz15_2 : w13.cell? ⟨gb289, 2, none⟩ = some (.slice Ao7 l0_2.length co7) := (blk_cell BK289.out 2).trans rfl; have hcz15_3 : w13.cell? ⟨gb289, 3, none⟩ = some (.slice Ao8 l0_3.length co8) := (blk_cell BK289.out 3).trans rfl; have hcz15_4 : w13.cell? ⟨gb289, 4, none⟩ = some (.slice Ao9 l0_4.length co9) := (blk_cell BK289.out 4).trans rfl; have hcz15_5 : w13.cell? ⟨gb289, 5, none⟩ = some (.slice Ao10 l0_5.length co10) := (blk_cell BK289.out 5).trans rfl; have hcz15_6 : w13.cell? ⟨gb289, 6, none⟩ = some (.slice Ao11 l0_6.length co11) := (blk_cell BK289.out 6).trans rfl; have hcz15_7 : w13.cell? ⟨gb289, 7, none⟩ = some (.int .i64 a0_7) := (blk_cell BK289.out 7).trans rfl; have hcz15_8 : w13.cell? ⟨gb289, 8, none⟩ = some (.int .i64 a0_8) := (blk_cell BK289.out 8).trans rfl; have hcz15_9 : w13.cell? ⟨gb289, 9, none⟩ = some (.int .i64 a0_9) := (blk_cell BK289.out 9).trans rfl; have hfz15_0 := blk_frozen BK289.out 0; have hfz15_1 := blk_frozen BK289.out 1; have hfz15_2 := blk_frozen BK289.out 2; have hfz15_3 := blk_frozen BK289.out 3; have hfz15_4 := blk_frozen BK289.out 4; have hfz15_5 := blk_frozen BK289.out 5; have hfz15_6 := blk_frozen BK289.out 6; have hfz15_7 := blk_frozen BK289.out 7; have hfz15_8 := blk_frozen BK289.out 8; have hfz15_9 := blk_frozen BK289.out 9; have hcz16_0 : w13.cell? ⟨gb290, 0, none⟩ = some (.int .i64 0) := (blk_cell BK290.out 0).trans rfl; have hcz16_1 : w13.cell? ⟨gb290, 1, none⟩ = some (.slice none 0 0) := (blk_cell BK290.out 1).trans rfl; have hcz16_2 : w13.cell? ⟨gb290, 2, none⟩ = some (.slice none 0 0) := (blk_cell BK290.out 2).trans rfl; have hcz16_3 : w13.cell? ⟨gb290, 3, none⟩ = some (.slice none 0 0) := (blk_cell BK290.out 3).trans rfl; have hcz16_4 : w13.cell? ⟨gb290, 4, none⟩ = some (.slice none 0 0) := (blk_cell BK290.out 4).trans rfl; have hcz16_5 : w13.cell? ⟨gb290, 5, none⟩ = some (.slice none 0 0) := (blk_cell BK290.out 5).trans rfl; have hcz16_6 : w13.cell? ⟨gb290, 6, none⟩ = some (.slice none 0 0) := (blk_cell BK290.out 6).trans rfl; have hcz16_7 : w13.cell? ⟨gb290, 7, none⟩ = some (.int .i64 0) := (blk_cell BK290.out 7).trans rfl; have hcz16_8 : w13.cell? ⟨gb290, 8, none⟩ = some (.int .i64 0) := (blk_cell BK290.out 8).trans rfl; have hcz16_9 : w13.cell? ⟨gb290, 9, none⟩ = some (.int .i64 0) := (blk_cell BK290.out 9).trans rfl; have hfz16_0 := blk_frozen BK290.out 0; have hfz16_1 := blk_frozen BK290.out 1; have hfz16_2 := blk_frozen BK290.out 2; have hfz16_3 := blk_frozen BK290.out 3; have hfz16_4 := blk_frozen BK290.out 4; have hfz16_5 := blk_frozen BK290.out 5; have hfz16_6 := blk_frozen BK290.out 6; have hfz16_7 := blk_frozen BK290.out 7; have hfz16_8 := blk_frozen BK290.out 8; have hfz16_9 := blk_frozen BK290.out 9))
     refine bodyPost_ret (results_ctt rfl _ _ gb290 54 #[.int .i64 a0_0, .slice Ao6 l0_1.length co6, .slice Ao7 l0_2.length co7, .slice Ao8 l0_3.length co8, .slice Ao9 l0_4.length co9, .slice Ao10 l0_5.length co10, .slice Ao11 l0_6.length co11, .int .i64 a0_7, .int .i64 a0_8, .int .i64 a0_9] (0, 0) _ rfl (by (with_reducible repeat first | apply ba | apply bb | apply bc); refine blk_put (cs := #[.int .i64 a0_0, .slice Ao6 l0_1.length co6, .slice Ao7 l0_2.length co7, .slice Ao8 l0_3.length co8, .slice Ao9 l0_4.length co9, .slice Ao10 l0_5.length co10, .slice Ao11 l0_6.length co11, .int .i64 a0_7, .int .i64 a0_8, .int .i64 0]) ?_ 9 _ rfl; (with_reducible repeat first | apply ba | apply bb | apply bc); refine blk_put (cs := #[.int .i64 a0_0, .slice Ao6 l0_1.length co6, .slice Ao7 l0_2.length co7, .slice Ao8 l0_3.length co8, .slice Ao9 l0_4.length co9, .slice Ao10 l0_5.length co10, .slice Ao11 l0_6.length co11, .int .i64 a0_7, .int .i64 0, .int .i64 0]) ?_ 8 _ rfl; (with_reducible repeat first | apply ba | apply bb | apply bc); refine blk_put (cs := #[.int .i64 a0_0, .slice Ao6 l0_1.length co6, .slice Ao7 l0_2.length co7, .slice Ao8 l0_3.length co8, .slice Ao9 l0_4.length co9, .slice Ao10 l0_5.length co10, .slice Ao11 l0_6.length co11, .int .i64 0, .int .i64 0, .int .i64 0]) ?_ 7 _ rfl; (with_reducible repeat first | apply ba | apply bb | apply bc); refine blk_put (cs := #[.int .i64 a0_0, .slice Ao6 l0_1.length co6, .slice Ao7 l0_2.length co7, .slice Ao8 l0_3.length co8, .slice Ao9 l0_4.length co9, .slice Ao10 l0_5.length co10, .slice none 0 0, .int .i64 0, .int .i64 0, .int .i64 0]) ?_ 6 _ rfl; (with_reducible repeat first | apply ba | apply bb | apply bc); refine blk_put (cs := #[.int .i64 a0_0, .slice Ao6 l0_1.length co6, .slice Ao7 l0_2.length co7, .slice Ao8 l0_3.length co8, .slice Ao9 l0_4.length co9, .slice none 0 0, .slice none 0 0, .int .i64 0, .int .i64 0, .int .i64 0]) ?_ 5 _ rfl; (with_reducible repeat first | apply ba | apply bb | apply bc); refine blk_put (cs := #[.int .i64 a0_0, .slice Ao6 l0_1.length co6, .slice Ao7 l0_2.length co7, .slice Ao8 l0_3.length co8, .slice none 0 0, .slice none 0 0, .slice none 0 0, .int .i64 0, .int .i64 0, .int .i64 0]) ?_ 4 _ rfl; (with_reducible repeat first | apply ba | apply bb | apply bc); refine blk_put (cs := #[.int .i64 a0_0, .slice Ao6 l0_1.length co6, .slice Ao7 l0_2.length co7, .slice none 0 0, .slice none 0 0, .slice none 0 0, .slice none 0 0, .int .i64 0, .int .i64 0, .int .i64 0]) ?_ 3 _ rfl; (with_reducible repeat first | apply ba | apply bb | apply bc); refine blk_put (cs := #[.int .i64 a0_0, .slice Ao6 l0_1.length co6, .slice none 0 0, .slice none 0 0, .slice none 0 0, .slice none 0 0, .slice none 0 0, .int .i64 0, .int .i64 0, .int .i64 0]) ?_ 2 _ rfl; (with_reducible repeat first | apply ba | apply bb | apply bc); refine blk_put (cs := #[.int .i64 a0_0, .slice none 0 0, .slice none 0 0, .slice none 0 0, .slice none 0 0, .slice none 0 0, .slice none 0 0, .int .i64 0, .int .i64 0, .int .i64 0]) ?_ 1 _ rfl; (with_reducible repeat first | apply ba | apply bb | apply bc); refine blk_put (cs := #[.int .i64 0, .slice none 0 0, .slice none 0 0, .slice none 0 0, .slice none 0 0, .slice none 0 0, .slice none 0 0, .int .i64 0, .int .i64 0, .int .i64 0]) ?_ 0 _ rfl; (with_reducible repeat first | apply ba | apply bb | apply bc); exact BK290.out) Try.underlying54 rfl (by kernel_rfl)) rfl ?_
     exact ⟨_, _, _, _, _, _, _, by first | rfl | (simp [errW_none, errW_some] <;> rfl) | (simp [*, errW_none, errW_some] <;> rfl), by (with_reducible repeat first | apply ra | apply rb | apply rc); exact Kd.R_mono (far10 gb290 (Kd.R_types HO0_1.out BK290.out (by decide)) (fun _ hk => hk.2)) (fun _ hk => ⟨hk.1.1, ⟨hk.1.2.1, hk.1.2.2⟩⟩), by (with_reducible repeat first | apply ra | apply rb | apply rc); exact Kd.R_mono (far10 gb290 (Kd.R_types HO0_2.out BK290.out (by decide)) (fun _ hk => hk.2)) (fun _ hk => ⟨hk.1.1, ⟨hk.1.2.1, hk.1.2.2⟩⟩), by (with_reducible repeat first | apply ra | apply rb | apply rc); exact Kd.R_mono (far10 gb290 (Kd.R_types HO0_3.out BK290.out (by decide)) (fun _ hk => hk.2)) (fun _ hk => ⟨hk.1.1, ⟨hk.1.2.1, hk.1.2.2⟩⟩), by (with_reducible repeat first | apply ra | apply rb | apply rc); exact Kd.R_mono (far10 gb290 (Kd.R_types HO0_4.out BK290.out (by decide)) (fun _ hk => hk.2)) (fun _ hk => hk.1), by (with_reducible repeat first | apply ra | apply rb | apply rc); exact Kd.R_mono (far10 gb290 (Kd.R_types HO0_5.out BK290.out (by decide)) (fun _ hk => hk.2)) (fun _ hk => ⟨hk.1.1, hk.1.2⟩), by (with_reducible repeat first | apply ra | apply rb | apply rc); exact Kd.R_mono (far10 gb290 (Kd.R_types HO0_6.out BK290.out (by decide)) (fun _ hk => hk.2)) (fun _ hk => ⟨hk.1.1, hk.1.2⟩), by first | exact Kd.R_nil _ _ _ _ _ | exact Kd.N_nil _ _ _ _ _ | exact Kd.V_nil _ _ _ _ _ | exact Kd.Q_nil _ _ _ _ _ | exact Kd.S_nil _ _ _ _ _, by repeat (first | (with_reducible first | exact HB.out | apply below_alloc | apply pw_below_drewN | apply below_drew1 | refine below_set ?_ GE289.out | refine below_set ?_ GE290.out) | exact HB.out), by repeat (first | (with_reducible first | exact HK.out | apply Kept.alloc | apply Kept.drewN | apply Kept.drew | refine Kept.setCell ?_ (.inr GW289.out) _ | refine Kept.setCell ?_ (.inr GW290.out) _) | exact HK.out)⟩
   · rw [if_neg c5] at H
     have c5b0 : decide (a1 < a0_8) = false := decide_eq_false c5
     clear c5
     replace H := Option.bind_eq_some_iff.mp H
     obtain ⟨⟨t292, t293, t296, t299, t302, t305, t308, t311, t312, t313⟩, A170, H⟩ := H
     replace H : (patchbayref3_Cast_Out.l0 k a1 ([] : List (S56)) 0 t292 t293 t296 t299 t302 t305 t308 t311 a1 t313) = some (r1, r2, r3, r4, r5, r6, r7, r8, r9, r10, r11, r12) := H
     have A17 := Aside0.mk A170
     clear A170
     have H' := Aside0.mk H
     clear H
     obtain ⟨Ao18, co18, eo18⟩ := Kd.R_slice HO0_1.out
     subst eo18
     obtain ⟨Ao19, co19, eo19⟩ := Kd.R_slice HO0_2.out
     subst eo19
     obtain ⟨Ao20, co20, eo20⟩ := Kd.R_slice HO0_3.out
     subst eo20
     obtain ⟨Ao21, co21, eo21⟩ := Kd.R_slice HO0_4.out
     subst eo21
     obtain ⟨Ao22, co22, eo22⟩ := Kd.R_slice HO0_5.out
     subst eo22
     obtain ⟨Ao23, co23, eo23⟩ := Kd.R_slice HO0_6.out
     subst eo23
     go_enter Try.func28, Try.ntmps28
     go_wp2_with (first | ((with_reducible refine gate_dst (N := 2) rfl ?_); (try (refine gate_guard (by rfl) ?_; dsimp only)); refine box_event ?hg (N := 2) ?hd (cs := #[.int .i64 a0_0, .slice Ao18 l0_1.length co18, .slice Ao19 l0_2.length co19, .slice Ao20 l0_3.length co20, .slice Ao21 l0_4.length co21, .slice Ao22 l0_5.length co22, .slice Ao23 l0_6.length co23, .int .i64 a0_7, .int .i64 a0_8, .int .i64 a0_9]) (t := 54) ?hr ?_; (case hd => rfl); (case hg => rfl); (case hr => first | (go_simp; done) | (go_simp; rfl)); intro gb289 hg w24 hbox hb; have n0_ := Aside0.mk (Kd.R_below (by (with_reducible repeat first | apply ra | apply rb | apply rc); exact HO0_1.out) hb); have n1_ := Aside0.mk (Kd.R_below (by (with_reducible repeat first | apply ra | apply rb | apply rc); exact HO0_2.out) hb); have n2_ := Aside0.mk (Kd.R_below (by (with_reducible repeat first | apply ra | apply rb | apply rc); exact HO0_3.out) hb); have n3_ := Aside0.mk (Kd.R_below (by (with_reducible repeat first | apply ra | apply rb | apply rc); exact HO0_4.out) hb); have n4_ := Aside0.mk (Kd.R_below (by (with_reducible repeat first | apply ra | apply rb | apply rc); exact HO0_5.out) hb); have n5_ := Aside0.mk (Kd.R_below (by (with_reducible repeat first | apply ra | apply rb | apply rc); exact HO0_6.out) hb); have n6_ := Aside0.mk (Kept.below (S := (fun k_ => P0_1_ k_ ∨ P0_2_ k_ ∨ P0_3_ k_ ∨ P0_4_ k_ ∨ P0_5_ k_ ∨ P0_6_ k_)) (by repeat (first | (with_reducible first | exact HK.out | apply Kept.alloc | apply Kept.drewN | apply Kept.drew) | exact HK.out)) hb); have n7_ := Aside0.mk (below_step (by repeat (first | (with_reducible first | exact HB.out | apply below_alloc | apply pw_below_drewN | apply below_drew1) | exact HB.out)) hb); have n8_ := Aside0.mk (hbox); have n9_ := Aside0.mk ((by rw [hg]; exact (by first | exact HK.out.1 | exact (show Kept w _ (fun k_ => P0_1_ k_ ∨ P0_2_ k_ ∨ P0_3_ k_ ∨ P0_4_ k_ ∨ P0_5_ k_ ∨ P0_6_ k_) from by repeat (first | (with_reducible first | exact HK.out | apply Kept.alloc | apply Kept.drewN | apply Kept.drew) | exact HK.out)).1) : w.heap.size ≤ gb289)); have n10_ := Aside0.mk ((by rw [hg]; exact (below_size (by repeat (first | (with_reducible first | exact HB.out | apply below_alloc | apply pw_below_drewN | apply below_drew1) | exact HB.out))) : w0.heap.size ≤ gb289)); clear HO0_1; clear HO0_2; clear HO0_3; clear HO0_4; clear HO0_5; clear HO0_6; clear HK; clear HB; have HO0_1 := n0_; have HO0_2 := n1_; have HO0_3 := n2_; have HO0_4 := n3_; have HO0_5 := n4_; have HO0_6 := n5_; have HK := n6_; have HB := n7_; have BK289 := n8_; have GW289 := n9_; have GE289 := n10_; clear n0_ n1_ n2_ n3_ n4_ n5_ n6_ n7_ n8_ n9_ n10_; clear hb hbox hg) | ((with_reducible refine gate_dst (N := 4) rfl ?_); (try (refine gate_guard (by rfl) ?_; dsimp only)); refine box_event ?hg (N := 4) ?hd (cs := #[.int .i64 0, .slice none 0 0, .slice none 0 0, .slice none 0 0, .slice none 0 0, .slice none 0 0, .slice none 0 0, .int .i64 0, .int .i64 0, .int .i64 0]) (t := 54) ?hr ?_; (case hd => rfl); (case hg => rfl); (case hr => first | (go_simp; done) | (go_simp; rfl)); intro gb290 hg w25 hbox hb; have n0_ := Aside0.mk (Kd.R_below (by (with_reducible repeat first | apply ra | apply rb | apply rc); exact HO0_1.out) hb); have n1_ := Aside0.mk (Kd.R_below (by (with_reducible repeat first | apply ra | apply rb | apply rc); exact HO0_2.out) hb); have n2_ := Aside0.mk (Kd.R_below (by (with_reducible repeat first | apply ra | apply rb | apply rc); exact HO0_3.out) hb); have n3_ := Aside0.mk (Kd.R_below (by (with_reducible repeat first | apply ra | apply rb | apply rc); exact HO0_4.out) hb); have n4_ := Aside0.mk (Kd.R_below (by (with_reducible repeat first | apply ra | apply rb | apply rc); exact HO0_5.out) hb); have n5_ := Aside0.mk (Kd.R_below (by (with_reducible repeat first | apply ra | apply rb | apply rc); exact HO0_6.out) hb); have n6_ := Aside0.mk (blk_below (g := gb289) (o := .cells #[.int .i64 a0_0, .slice Ao18 l0_1.length co18, .slice Ao19 l0_2.length co19, .slice Ao20 l0_3.length co20, .slice Ao21 l0_4.length co21, .slice Ao22 l0_5.length co22, .slice Ao23 l0_6.length co23, .int .i64 a0_7, .int .i64 a0_8, .int .i64 a0_9] 54 (0, 0)) (by (with_reducible repeat first | apply ba | apply bb | apply bc); exact BK289.out) hb); have n7_ := Aside0.mk (Kept.below (S := (fun k_ => P0_1_ k_ ∨ P0_2_ k_ ∨ P0_3_ k_ ∨ P0_4_ k_ ∨ P0_5_ k_ ∨ P0_6_ k_)) (by repeat (first | (with_reducible first | exact HK.out | apply Kept.alloc | apply Kept.drewN | apply Kept.drew | refine Kept.setCell ?_ (.inr GW289.out) _) | exact HK.out)) hb); have n8_ := Aside0.mk (below_step (by repeat (first | (with_reducible first | exact HB.out | apply below_alloc | apply pw_below_drewN | apply below_drew1 | refine below_set ?_ GE289.out) | exact HB.out)) hb); have n9_ := Aside0.mk (hbox); have n10_ := Aside0.mk ((by rw [hg]; exact (by first | exact HK.out.1 | exact (show Kept w _ (fun k_ => P0_1_ k_ ∨ P0_2_ k_ ∨ P0_3_ k_ ∨ P0_4_ k_ ∨ P0_5_ k_ ∨ P0_6_ k_) from by repeat (first | (with_reducible first | exact HK.out | apply Kept.alloc | apply Kept.drewN | apply Kept.drew | refine Kept.setCell ?_ (.inr GW289.out) _) | exact HK.out)).1) : w.heap.size ≤ gb290)); have n11_ := Aside0.mk ((by rw [hg]; exact (below_size (by repeat (first | (with_reducible first | exact HB.out | apply below_alloc | apply pw_below_drewN | apply below_drew1 | refine below_set ?_ GE289.out) | exact HB.out))) : w0.heap.size ≤ gb290)); have n12_ := Aside0.mk ((by rw [hg]; exact Nat.ne_of_lt (blk_lt (g := gb289) (o := .cells #[.int .i64 a0_0, .slice Ao18 l0_1.length co18, .slice Ao19 l0_2.length co19, .slice Ao20 l0_3.length co20, .slice Ao21 l0_4.length co21, .slice Ao22 l0_5.length co22, .slice Ao23 l0_6.length co23, .int .i64 a0_7, .int .i64 a0_8, .int .i64 a0_9] 54 (0, 0)) (by (with_reducible repeat first | apply ba | apply bb | apply bc); exact BK289.out)) : gb289 ≠ gb290)); have n13_ := Aside0.mk ((by rw [hg]; exact Nat.ne_of_gt (blk_lt (g := gb289) (o := .cells #[.int .i64 a0_0, .slice Ao18 l0_1.length co18, .slice Ao19 l0_2.length co19, .slice Ao20 l0_3.length co20, .slice Ao21 l0_4.length co21, .slice Ao22 l0_5.length co22, .slice Ao23 l0_6.length co23, .int .i64 a0_7, .int .i64 a0_8, .int .i64 a0_9] 54 (0, 0)) (by (with_reducible repeat first | apply ba | apply bb | apply bc); exact BK289.out)) : gb290 ≠ gb289)); clear HO0_1; clear HO0_2; clear HO0_3; clear HO0_4; clear HO0_5; clear HO0_6; clear BK289; clear HK; clear HB; have HO0_1 := n0_; have HO0_2 := n1_; have HO0_3 := n2_; have HO0_4 := n3_; have HO0_5 := n4_; have HO0_6 := n5_; have BK289 := n6_; have HK := n7_; have HB := n8_; have BK290 := n9_; have GW290 := n10_; have GE290 := n11_; have NB289_290 := n12_; have NB290_289 := n13_; clear n0_ n1_ n2_ n3_ n4_ n5_ n6_ n7_ n8_ n9_ n10_ n11_ n12_ n13_; clear hb hbox hg) | ((with_reducible refine gate_callee (f := 7) rfl ?_); refine goesL_ (some 10) rfl rfl Try.func7 (by kernel_rfl) rfl #[.int .i64 a1, .int .i64 0, .int .i64 1000000000] rfl (by (try simp only [List.map_toArray, List.map_cons, List.map_nil]); first | done | rfl | (simp only [List.length_drop, List.length_take]; rfl)) ?_; (with_reducible refine (patchbayref3_In.calls a1 0 1000000000 true _ A3.out).mono ?_); rintro e w' ⟨rfl, ⟨nd, rfl⟩⟩; refine ⟨_, rfl, ?_⟩; (try (rw [drewN_self w25]; generalize hq_ : World.drewN w25 _ = w25; have n0_ : Aside0 (Kd.R Kd.bool 4 w25 w0.heap.size (fun k_ => ((P0_1_ k_ ∨ P0_2_ k_ ∨ P0_3_ k_ ∨ P0_4_ k_ ∨ P0_5_ k_ ∨ P0_6_ k_) ∨ w.heap.size ≤ k_) ∧ some k_ ≠ (.slice Ao19 l0_2.length co19 : Value).ownBlock ∧ some k_ ≠ (.slice Ao20 l0_3.length co20 : Value).ownBlock) (.slice Ao18 l0_1.length co18) l0_1) := ⟨by rw [← hq_]; exact (by (with_reducible repeat first | apply ra | apply rb | apply rc); exact HO0_1.out)⟩; have n1_ : Aside0 (Kd.R Kd.bool 4 w25 w0.heap.size (fun k_ => ((P0_1_ k_ ∨ P0_2_ k_ ∨ P0_3_ k_ ∨ P0_4_ k_ ∨ P0_5_ k_ ∨ P0_6_ k_) ∨ w.heap.size ≤ k_) ∧ some k_ ≠ (.slice Ao18 l0_1.length co18 : Value).ownBlock ∧ some k_ ≠ (.slice Ao20 l0_3.length co20 : Value).ownBlock) (.slice Ao19 l0_2.length co19) l0_2) := ⟨by rw [← hq_]; exact (by (with_reducible repeat first | apply ra | apply rb | apply rc); exact HO0_2.out)⟩; have n2_ : Aside0 (Kd.R Kd.bool 4 w25 w0.heap.size (fun k_ => ((P0_1_ k_ ∨ P0_2_ k_ ∨ P0_3_ k_ ∨ P0_4_ k_ ∨ P0_5_ k_ ∨ P0_6_ k_) ∨ w.heap.size ≤ k_) ∧ some k_ ≠ (.slice Ao18 l0_1.length co18 : Value).ownBlock ∧ some k_ ≠ (.slice Ao19 l0_2.length co19 : Value).ownBlock) (.slice Ao20 l0_3.length co20) l0_3) := ⟨by rw [← hq_]; exact (by (with_reducible repeat first | apply ra | apply rb | apply rc); exact HO0_3.out)⟩; have n3_ : Aside0 (Kd.R Kd.string 9 w25 w0.heap.size (fun k_ => ((P0_1_ k_ ∨ P0_2_ k_ ∨ P0_3_ k_ ∨ P0_4_ k_ ∨ P0_5_ k_ ∨ P0_6_ k_) ∨ w.heap.size ≤ k_)) (.slice Ao21 l0_4.length co21) l0_4) := ⟨by rw [← hq_]; exact (by (with_reducible repeat first | apply ra | apply rb | apply rc); exact HO0_4.out)⟩; have n4_ : Aside0 (Kd.R (Kd.int .i64) 3 w25 w0.heap.size (fun k_ => ((P0_1_ k_ ∨ P0_2_ k_ ∨ P0_3_ k_ ∨ P0_4_ k_ ∨ P0_5_ k_ ∨ P0_6_ k_) ∨ w.heap.size ≤ k_) ∧ some k_ ≠ (.slice Ao23 l0_6.length co23 : Value).ownBlock) (.slice Ao22 l0_5.length co22) l0_5) := ⟨by rw [← hq_]; exact (by (with_reducible repeat first | apply ra | apply rb | apply rc); exact HO0_5.out)⟩; have n5_ : Aside0 (Kd.R (Kd.int .i64) 3 w25 w0.heap.size (fun k_ => ((P0_1_ k_ ∨ P0_2_ k_ ∨ P0_3_ k_ ∨ P0_4_ k_ ∨ P0_5_ k_ ∨ P0_6_ k_) ∨ w.heap.size ≤ k_) ∧ some k_ ≠ (.slice Ao22 l0_5.length co22 : Value).ownBlock) (.slice Ao23 l0_6.length co23) l0_6) := ⟨by rw [← hq_]; exact (by (with_reducible repeat first | apply ra | apply rb | apply rc); exact HO0_6.out)⟩; have n6_ : Aside0 (w25.heap[gb289]? = some (.cells #[.int .i64 a0_0, .slice Ao18 l0_1.length co18, .slice Ao19 l0_2.length co19, .slice Ao20 l0_3.length co20, .slice Ao21 l0_4.length co21, .slice Ao22 l0_5.length co22, .slice Ao23 l0_6.length co23, .int .i64 a0_7, .int .i64 a0_8, .int .i64 a0_9] 54 (0, 0))) := ⟨by rw [← hq_]; exact (by (with_reducible repeat first | apply ba | apply bb | apply bc); exact BK289.out)⟩; have n7_ : Aside0 (w25.heap[gb290]? = some (.cells #[.int .i64 0, .slice none 0 0, .slice none 0 0, .slice none 0 0, .slice none 0 0, .slice none 0 0, .slice none 0 0, .int .i64 0, .int .i64 0, .int .i64 0] 54 (0, 0))) := ⟨by rw [← hq_]; exact (by (with_reducible repeat first | apply ba | apply bb | apply bc); exact BK290.out)⟩; have n8_ : Aside0 (Kept w w25 (fun k_ => P0_1_ k_ ∨ P0_2_ k_ ∨ P0_3_ k_ ∨ P0_4_ k_ ∨ P0_5_ k_ ∨ P0_6_ k_)) := ⟨by rw [← hq_]; exact (by repeat (first | (with_reducible first | exact HK.out | apply Kept.alloc | apply Kept.drewN | apply Kept.drew | refine Kept.setCell ?_ (.inr GW289.out) _ | refine Kept.setCell ?_ (.inr GW290.out) _) | exact HK.out))⟩; have n9_ : Aside0 (Below w0.heap.size w0 w25) := ⟨by rw [← hq_]; exact (by repeat (first | (with_reducible first | exact HB.out | apply below_alloc | apply pw_below_drewN | apply below_drew1 | refine below_set ?_ GE289.out | refine below_set ?_ GE290.out) | exact HB.out))⟩; clear HO0_1 HO0_2 HO0_3 HO0_4 HO0_5 HO0_6 BK289 BK290 HK HB hq_; have HO0_1 := n0_; have HO0_2 := n1_; have HO0_3 := n2_; have HO0_4 := n3_; have HO0_5 := n4_; have HO0_6 := n5_; have BK289 := n6_; have BK290 := n7_; have HK := n8_; have HB := n9_; clear n0_ n1_ n2_ n3_ n4_ n5_ n6_ n7_ n8_ n9_)); have hnb26 := NB289_290.out; have hnc26 := NB290_289.out; have hcz27_0 : w25.cell? ⟨gb289, 0, none⟩ = some (.int .i64 a0_0) := (blk_cell BK289.out 0).trans rfl; have hcz27_1 : w25.cell? ⟨gb289, 1, none⟩ = some (.slice Ao18 l0_1.length co18) := (blk_cell BK289.out 1).trans rfl; have hcz27_2 : w25.cell? ⟨gb289, 2, none⟩ = some (.slice Ao19 l0_2.length co19) := (blk_cell BK289.out 2).trans rfl; have hcz27_3 : w25.cell? ⟨gb289, 3, none⟩ = some (.slice Ao20 l0_3.length co20) := (blk_cell BK289.out 3).trans rfl; have hcz27_4 : w25.cell? ⟨gb289, 4, none⟩ = some (.slice Ao21 l0_4.length co21) := (blk_cell BK289.out 4).trans rfl; have hcz27_5 : w25.cell? ⟨gb289, 5, none⟩ = some (.slice Ao22 l0_5.length co22) := (blk_cell BK289.out 5).trans rfl; have hcz27_6 : w25.cell? ⟨gb289, 6, none⟩ = some (.slice Ao23 l0_6.length co23) := (blk_cell BK289.out 6).trans rfl; have hcz27_7 : w25.cell? ⟨gb289, 7, none⟩ = some (.int .i64 a0_7) := (blk_cell BK289.out 7).trans rfl; have hcz27_8 : w25.cell? ⟨gb289, 8, none⟩ = some (.int .i64 a0_8) := (blk_cell BK289.out 8).trans rfl; have hcz27_9 : w25.cell? ⟨gb289, 9, none⟩ = some (.int .i64 a0_9) := (blk_cell BK289.out 9).trans rfl; have hfz27_0 := blk_frozen BK289.out 0; have hfz27_1 := blk_frozen BK289.out 1; have hfz27_2 := blk_frozen BK289.out 2; have hfz27_3 := blk_frozen BK289.out 3; have hfz27_4 := blk_frozen BK289.out 4; have hfz27_5 := blk_frozen BK289.out 5; have hfz27_6 := blk_frozen BK289.out 6; have hfz27_7 := blk_frozen BK289.out 7; have hfz27_8 := blk_frozen BK289.out 8; have hfz27_9 := blk_frozen BK289.out 9) | ((with_reducible refine gate_callee (f := 37) rfl ?_); refine goesL_ (some 19) rfl rfl Try.func37 (by kernel_rfl) rfl #[.agg #[.int .i64 a0_0, .slice Ao18 l0_1.length co18, .slice Ao19 l0_2.length co19, .slice Ao20 l0_3.length co20, .slice Ao21 l0_4.length co21, .slice Ao22 l0_5.length co22, .slice Ao23 l0_6.length co23, .int .i64 a0_7, .int .i64 a0_8, .int .i64 a0_9]] rfl (by (try simp only [List.map_toArray, List.map_cons, List.map_nil]); first | done | rfl | (simp only [List.length_drop, List.length_take]; rfl)) ?_; (with_reducible refine (patchbayref3_Cast_Copied.calls a0_0 _ _ l0_1 _ _ l0_2 _ _ l0_3 _ _ l0_4 _ _ l0_5 _ _ l0_6 a0_7 a0_8 a0_9 t292 t293 t296 t299 t302 t305 t308 t311 t312 t313 _ ?side1 ?side2 ?side3 ?side4 ?side5 ?side6 ?side7 ?side8 ?side9 ?side10 ?side11 ?side12 A17.out).mono ?_); (case side1 => repeat (first | exact (Kd.R_reads' HO0_1.out).2.2 | (with_reducible refine Kd.C_alloc ?_ _) | (with_reducible refine Kd.C_drewN ?_ _) | (with_reducible refine Kd.C_drew ?_))); (case side2 => exact (Kd.R_reads' HO0_1.out).2.1); (case side3 => repeat (first | exact (Kd.R_reads' HO0_2.out).2.2 | (with_reducible refine Kd.C_alloc ?_ _) | (with_reducible refine Kd.C_drewN ?_ _) | (with_reducible refine Kd.C_drew ?_))); (case side4 => exact (Kd.R_reads' HO0_2.out).2.1); (case side5 => repeat (first | exact (Kd.R_reads' HO0_3.out).2.2 | (with_reducible refine Kd.C_alloc ?_ _) | (with_reducible refine Kd.C_drewN ?_ _) | (with_reducible refine Kd.C_drew ?_))); (case side6 => exact (Kd.R_reads' HO0_3.out).2.1); (case side7 => repeat (first | exact (Kd.R_reads' HO0_4.out).2.2 | (with_reducible refine Kd.C_alloc ?_ _) | (with_reducible refine Kd.C_drewN ?_ _) | (with_reducible refine Kd.C_drew ?_))); (case side8 => exact (Kd.R_reads' HO0_4.out).2.1); (case side9 => repeat (first | exact (Kd.R_reads' HO0_5.out).2.2 | (with_reducible refine Kd.C_alloc ?_ _) | (with_reducible refine Kd.C_drewN ?_ _) | (with_reducible refine Kd.C_drew ?_))); (case side10 => exact (Kd.R_reads' HO0_5.out).2.1); (case side11 => repeat (first | exact (Kd.R_reads' HO0_6.out).2.2 | (with_reducible refine Kd.C_alloc ?_ _) | (with_reducible refine Kd.C_drewN ?_ _) | (with_reducible refine Kd.C_drew ?_))); (case side12 => exact (Kd.R_reads' HO0_6.out).2.1); rintro e w28 ⟨v294, v297, v300, v303, v306, v309, rfl, ho0, ho1, ho2, ho3, ho4, ho5, hb⟩; refine ⟨_, rfl, ?_⟩; have n0_ := Aside0.mk (Kd.R_mono (Kd.R_told (Kd.R_told (Kd.R_told (Kd.R_old (by (with_reducible repeat first | apply ra | apply rb | apply rc); exact HO0_1.out) hb) (Kd.R_base ho0)) (Kd.R_base ho1)) (Kd.R_base ho2)) (fun _ h_ => h_.1)); have n1_ := Aside0.mk (Kd.R_mono (Kd.R_told (Kd.R_told (Kd.R_told (Kd.R_old (by (with_reducible repeat first | apply ra | apply rb | apply rc); exact HO0_2.out) hb) (Kd.R_base ho0)) (Kd.R_base ho1)) (Kd.R_base ho2)) (fun _ h_ => h_.1)); have n2_ := Aside0.mk (Kd.R_mono (Kd.R_told (Kd.R_told (Kd.R_told (Kd.R_old (by (with_reducible repeat first | apply ra | apply rb | apply rc); exact HO0_3.out) hb) (Kd.R_base ho0)) (Kd.R_base ho1)) (Kd.R_base ho2)) (fun _ h_ => h_.1)); have n3_ := Aside0.mk (Kd.R_elder' (by (with_reducible repeat first | apply ra | apply rb | apply rc); exact HO0_4.out) (Kd.R_base ho3) hb); have n4_ := Aside0.mk (Kd.R_mono (Kd.R_told (Kd.R_told (Kd.R_old (by (with_reducible repeat first | apply ra | apply rb | apply rc); exact HO0_5.out) hb) (Kd.R_base ho4)) (Kd.R_base ho5)) (fun _ h_ => h_.1)); have n5_ := Aside0.mk (Kd.R_mono (Kd.R_told (Kd.R_told (Kd.R_old (by (with_reducible repeat first | apply ra | apply rb | apply rc); exact HO0_6.out) hb) (Kd.R_base ho4)) (Kd.R_base ho5)) (fun _ h_ => h_.1)); have n6_ := Aside0.mk (Kd.R_lower (Kd.R_new' (Kd.R_new' (Kd.R_new' (Kd.R_newM (M := fun k_ => ((P0_1_ k_ ∨ P0_2_ k_ ∨ P0_3_ k_ ∨ P0_4_ k_ ∨ P0_5_ k_ ∨ P0_6_ k_) ∨ w.heap.size ≤ k_)) ho0 (by first | exact HK.out.1 | exact (show Kept w _ (fun k_ => P0_1_ k_ ∨ P0_2_ k_ ∨ P0_3_ k_ ∨ P0_4_ k_ ∨ P0_5_ k_ ∨ P0_6_ k_) from by repeat (first | (with_reducible first | exact HK.out | apply Kept.alloc | apply Kept.drewN | apply Kept.drew | refine Kept.setCell ?_ (.inr GW289.out) _ | refine Kept.setCell ?_ (.inr GW290.out) _) | exact HK.out)).1) (fun k_ h_ => .inr h_)) (Kd.R_lt (by (with_reducible repeat first | apply ra | apply rb | apply rc); exact HO0_1.out))) (Kd.R_lt (by (with_reducible repeat first | apply ra | apply rb | apply rc); exact HO0_2.out))) (Kd.R_lt (by (with_reducible repeat first | apply ra | apply rb | apply rc); exact HO0_3.out))) (below_size (by repeat (first | (with_reducible first | exact HB.out | apply below_alloc | apply pw_below_drewN | apply below_drew1 | refine below_set ?_ GE289.out | refine below_set ?_ GE290.out) | exact HB.out)))); have n7_ := Aside0.mk (Kd.R_lower (Kd.R_new' (Kd.R_new' (Kd.R_new' (Kd.R_newM (M := fun k_ => ((P0_1_ k_ ∨ P0_2_ k_ ∨ P0_3_ k_ ∨ P0_4_ k_ ∨ P0_5_ k_ ∨ P0_6_ k_) ∨ w.heap.size ≤ k_)) ho1 (by first | exact HK.out.1 | exact (show Kept w _ (fun k_ => P0_1_ k_ ∨ P0_2_ k_ ∨ P0_3_ k_ ∨ P0_4_ k_ ∨ P0_5_ k_ ∨ P0_6_ k_) from by repeat (first | (with_reducible first | exact HK.out | apply Kept.alloc | apply Kept.drewN | apply Kept.drew | refine Kept.setCell ?_ (.inr GW289.out) _ | refine Kept.setCell ?_ (.inr GW290.out) _) | exact HK.out)).1) (fun k_ h_ => .inr h_)) (Kd.R_lt (by (with_reducible repeat first | apply ra | apply rb | apply rc); exact HO0_1.out))) (Kd.R_lt (by (with_reducible repeat first | apply ra | apply rb | apply rc); exact HO0_2.out))) (Kd.R_lt (by (with_reducible repeat first | apply ra | apply rb | apply rc); exact HO0_3.out))) (below_size (by repeat (first | (with_reducible first | exact HB.out | apply below_alloc | apply pw_below_drewN | apply below_drew1 | refine below_set ?_ GE289.out | refine below_set ?_ GE290.out) | exact HB.out)))); have n8_ := Aside0.mk (Kd.R_lower (Kd.R_new' (Kd.R_new' (Kd.R_new' (Kd.R_newM (M := fun k_ => ((P0_1_ k_ ∨ P0_2_ k_ ∨ P0_3_ k_ ∨ P0_4_ k_ ∨ P0_5_ k_ ∨ P0_6_ k_) ∨ w.heap.size ≤ k_)) ho2 (by first | exact HK.out.1 | exact (show Kept w _ (fun k_ => P0_1_ k_ ∨ P0_2_ k_ ∨ P0_3_ k_ ∨ P0_4_ k_ ∨ P0_5_ k_ ∨ P0_6_ k_) from by repeat (first | (with_reducible first | exact HK.out | apply Kept.alloc | apply Kept.drewN | apply Kept.drew | refine Kept.setCell ?_ (.inr GW289.out) _ | refine Kept.setCell ?_ (.inr GW290.out) _) | exact HK.out)).1) (fun k_ h_ => .inr h_)) (Kd.R_lt (by (with_reducible repeat first | apply ra | apply rb | apply rc); exact HO0_1.out))) (Kd.R_lt (by (with_reducible repeat first | apply ra | apply rb | apply rc); exact HO0_2.out))) (Kd.R_lt (by (with_reducible repeat first | apply ra | apply rb | apply rc); exact HO0_3.out))) (below_size (by repeat (first | (with_reducible first | exact HB.out | apply below_alloc | apply pw_below_drewN | apply below_drew1 | refine below_set ?_ GE289.out | refine below_set ?_ GE290.out) | exact HB.out)))); have n9_ := Aside0.mk (Kd.R_lower (Kd.R_new' (Kd.R_newM (M := fun k_ => ((P0_1_ k_ ∨ P0_2_ k_ ∨ P0_3_ k_ ∨ P0_4_ k_ ∨ P0_5_ k_ ∨ P0_6_ k_) ∨ w.heap.size ≤ k_)) ho3 (by first | exact HK.out.1 | exact (show Kept w _ (fun k_ => P0_1_ k_ ∨ P0_2_ k_ ∨ P0_3_ k_ ∨ P0_4_ k_ ∨ P0_5_ k_ ∨ P0_6_ k_) from by repeat (first | (with_reducible first | exact HK.out | apply Kept.alloc | apply Kept.drewN | apply Kept.drew | refine Kept.setCell ?_ (.inr GW289.out) _ | refine Kept.setCell ?_ (.inr GW290.out) _) | exact HK.out)).1) (fun k_ h_ => .inr h_)) (Kd.R_lt (by (with_reducible repeat first | apply ra | apply rb | apply rc); exact HO0_4.out))) (below_size (by repeat (first | (with_reducible first | exact HB.out | apply below_alloc | apply pw_below_drewN | apply below_drew1 | refine below_set ?_ GE289.out | refine below_set ?_ GE290.out) | exact HB.out)))); have n10_ := Aside0.mk (Kd.R_lower (Kd.R_new' (Kd.R_new' (Kd.R_newM (M := fun k_ => ((P0_1_ k_ ∨ P0_2_ k_ ∨ P0_3_ k_ ∨ P0_4_ k_ ∨ P0_5_ k_ ∨ P0_6_ k_) ∨ w.heap.size ≤ k_)) ho4 (by first | exact HK.out.1 | exact (show Kept w _ (fun k_ => P0_1_ k_ ∨ P0_2_ k_ ∨ P0_3_ k_ ∨ P0_4_ k_ ∨ P0_5_ k_ ∨ P0_6_ k_) from by repeat (first | (with_reducible first | exact HK.out | apply Kept.alloc | apply Kept.drewN | apply Kept.drew | refine Kept.setCell ?_ (.inr GW289.out) _ | refine Kept.setCell ?_ (.inr GW290.out) _) | exact HK.out)).1) (fun k_ h_ => .inr h_)) (Kd.R_lt (by (with_reducible repeat first | apply ra | apply rb | apply rc); exact HO0_5.out))) (Kd.R_lt (by (with_reducible repeat first | apply ra | apply rb | apply rc); exact HO0_6.out))) (below_size (by repeat (first | (with_reducible first | exact HB.out | apply below_alloc | apply pw_below_drewN | apply below_drew1 | refine below_set ?_ GE289.out | refine below_set ?_ GE290.out) | exact HB.out)))); have n11_ := Aside0.mk (Kd.R_lower (Kd.R_new' (Kd.R_new' (Kd.R_newM (M := fun k_ => ((P0_1_ k_ ∨ P0_2_ k_ ∨ P0_3_ k_ ∨ P0_4_ k_ ∨ P0_5_ k_ ∨ P0_6_ k_) ∨ w.heap.size ≤ k_)) ho5 (by first | exact HK.out.1 | exact (show Kept w _ (fun k_ => P0_1_ k_ ∨ P0_2_ k_ ∨ P0_3_ k_ ∨ P0_4_ k_ ∨ P0_5_ k_ ∨ P0_6_ k_) from by repeat (first | (with_reducible first | exact HK.out | apply Kept.alloc | apply Kept.drewN | apply Kept.drew | refine Kept.setCell ?_ (.inr GW289.out) _ | refine Kept.setCell ?_ (.inr GW290.out) _) | exact HK.out)).1) (fun k_ h_ => .inr h_)) (Kd.R_lt (by (with_reducible repeat first | apply ra | apply rb | apply rc); exact HO0_5.out))) (Kd.R_lt (by (with_reducible repeat first | apply ra | apply rb | apply rc); exact HO0_6.out))) (below_size (by repeat (first | (with_reducible first | exact HB.out | apply below_alloc | apply pw_below_drewN | apply below_drew1 | refine below_set ?_ GE289.out | refine below_set ?_ GE290.out) | exact HB.out)))); have n12_ := Aside0.mk (blk_below (g := gb289) (o := .cells #[.int .i64 a0_0, .slice Ao18 l0_1.length co18, .slice Ao19 l0_2.length co19, .slice Ao20 l0_3.length co20, .slice Ao21 l0_4.length co21, .slice Ao22 l0_5.length co22, .slice Ao23 l0_6.length co23, .int .i64 a0_7, .int .i64 a0_8, .int .i64 a0_9] 54 (0, 0)) (by (with_reducible repeat first | apply ba | apply bb | apply bc); exact BK289.out) hb); have n13_ := Aside0.mk (blk_below (g := gb290) (o := .cells #[.int .i64 0, .slice none 0 0, .slice none 0 0, .slice none 0 0, .slice none 0 0, .slice none 0 0, .slice none 0 0, .int .i64 0, .int .i64 0, .int .i64 0] 54 (0, 0)) (by (with_reducible repeat first | apply ba | apply bb | apply bc); exact BK290.out) hb); have n14_ := Aside0.mk (Kept.below (S := (fun k_ => P0_1_ k_ ∨ P0_2_ k_ ∨ P0_3_ k_ ∨ P0_4_ k_ ∨ P0_5_ k_ ∨ P0_6_ k_)) (by repeat (first | (with_reducible first | exact HK.out | apply Kept.alloc | apply Kept.drewN | apply Kept.drew | refine Kept.setCell ?_ (.inr GW289.out) _ | refine Kept.setCell ?_ (.inr GW290.out) _) | exact HK.out)) hb); have n15_ := Aside0.mk (below_step (by repeat (first | (with_reducible first | exact HB.out | apply below_alloc | apply pw_below_drewN | apply below_drew1 | refine below_set ?_ GE289.out | refine below_set ?_ GE290.out) | exact HB.out)) hb); clear HO0_1; clear HO0_2; clear HO0_3; clear HO0_4; clear HO0_5; clear HO0_6; clear BK289; clear BK290; clear HK; clear HB; have HO0_1 := n0_; have HO0_2 := n1_; have HO0_3 := n2_; have HO0_4 := n3_; have HO0_5 := n4_; have HO0_6 := n5_; have HO295 := n6_; have HO298 := n7_; have HO301 := n8_; have HO304 := n9_; have HO307 := n10_; have HO310 := n11_; have BK289 := n12_; have BK290 := n13_; have HK := n14_; have HB := n15_; clear n0_ n1_ n2_ n3_ n4_ n5_ n6_ n7_ n8_ n9_ n10_ n11_ n12_ n13_ n14_ n15_; (try clear hb); (try clear hb2); (try clear hk); (try clear hi); (try clear ho0); (try clear ho1); (try clear ho2); (try clear ho3); (try clear ho4); (try clear ho5); have hcz29_0 : w28.cell? ⟨gb289, 0, none⟩ = some (.int .i64 a0_0) := (blk_cell BK289.out 0).trans rfl; have hcz29_1 : w28.cell? ⟨gb289, 1, none⟩ = some (.slice Ao18 l0_1.length co18) := (blk_cell BK289.out 1).trans rfl; have hcz29_2 : w28.cell? ⟨gb289, 2, none⟩ = some (.slice Ao19 l0_2.length co19) := (blk_cell BK289.out 2).trans rfl; have hcz29_3 : w28.cell? ⟨gb289, 3, none⟩ = some (.slice Ao20 l0_3.length co20) := (blk_cell BK289.out 3).trans rfl; have hcz29_4 : w28.cell? ⟨gb289, 4, none⟩ = some (.slice Ao21 l0_4.length co21) := (blk_cell BK289.out 4).trans rfl; have hcz29_5 : w28.cell? ⟨gb289, 5, none⟩ = some (.slice Ao22 l0_5.length co22) := (blk_cell BK289.out 5).trans rfl; have hcz29_6 : w28.cell? ⟨gb289, 6, none⟩ = some (.slice Ao23 l0_6.length co23) := (blk_cell BK289.out 6).trans rfl; have hcz29_7 : w28.cell? ⟨gb289, 7, none⟩ = some (.int .i64 a0_7) := (blk_cell BK289.out 7).trans rfl; have hcz29_8 : w28.cell? ⟨gb289, 8, none⟩ = some (.int .i64 a0_8) := (blk_cell BK289.out 8).trans rfl; have hcz29_9 : w28.cell? ⟨gb289, 9, none⟩ = some (.int .i64 a0_9) := (blk_cell BK289.out 9).trans rfl; have hfz29_0 := blk_frozen BK289.out 0; have hfz29_1 := blk_frozen BK289.out 1; have hfz29_2 := blk_frozen BK289.out 2; have hfz29_3 := blk_frozen BK289.out 3; have hfz29_4 := blk_frozen BK289.out 4; have hfz29_5 := blk_frozen BK289.out 5; have hfz29_6 := blk_frozen BK289.out 6; have hfz29_7 := blk_frozen BK289.out 7; have hfz29_8 := blk_frozen BK289.out 8; have hfz29_9 := blk_frozen BK289.out 9; obtain ⟨Ao30, co30, eo30⟩ := Kd.R_slice HO295.out; subst eo30; obtain ⟨Ao31, co31, eo31⟩ := Kd.R_slice HO298.out; subst eo31; obtain ⟨Ao32, co32, eo32⟩ := Kd.R_slice HO301.out; subst eo32; obtain ⟨Ao33, co33, eo33⟩ := Kd.R_slice HO304.out; subst eo33; obtain ⟨Ao34, co34, eo34⟩ := Kd.R_slice HO307.out; subst eo34; obtain ⟨Ao35, co35, eo35⟩ := Kd.R_slice HO310.out; subst eo35))
     go_loopg [7, 8] k (fun kq v7 v8 w' => ∃ (x7_1 : List (S56)) (x8_1 : Int) (x290001_1 : List Bool) (x290002_1 : List Bool) (x290003_1 : List Bool) (x290005_1 : List Int) (x290006_1 : List Int) (u290001 : Value) (u290002 : Value) (u290003 : Value) (u290005 : Value) (u290006 : Value), v8 = .int .i64 x8_1 ∧ Aside0 (patchbayref3_Cast_Out.l0 kq a1 x7_1 x8_1 t292 x290001_1 x290002_1 x290003_1 t302 x290005_1 x290006_1 t311 a1 t313 = some (r1, r2, r3, r4, r5, r6, r7, r8, r9, r10, r11, r12)) ∧ Aside0 (kq ≤ k) ∧ Aside0 (Kd.R k56 56 w' w0.heap.size (fun k_ => ((P0_1_ k_ ∨ P0_2_ k_ ∨ P0_3_ k_ ∨ P0_4_ k_ ∨ P0_5_ k_ ∨ P0_6_ k_) ∨ w.heap.size ≤ k_)) v7 x7_1) ∧ Aside0 (Kd.R Kd.bool 4 w' w0.heap.size (fun k_ => ((P0_1_ k_ ∨ P0_2_ k_ ∨ P0_3_ k_ ∨ P0_4_ k_ ∨ P0_5_ k_ ∨ P0_6_ k_) ∨ w.heap.size ≤ k_) ∧ some k_ ≠ (u290002 : Value).ownBlock ∧ some k_ ≠ (u290003 : Value).ownBlock) u290001 x290001_1) ∧ Aside0 (Kd.R Kd.bool 4 w' w0.heap.size (fun k_ => ((P0_1_ k_ ∨ P0_2_ k_ ∨ P0_3_ k_ ∨ P0_4_ k_ ∨ P0_5_ k_ ∨ P0_6_ k_) ∨ w.heap.size ≤ k_) ∧ some k_ ≠ (u290001 : Value).ownBlock ∧ some k_ ≠ (u290003 : Value).ownBlock) u290002 x290002_1) ∧ Aside0 (Kd.R Kd.bool 4 w' w0.heap.size (fun k_ => ((P0_1_ k_ ∨ P0_2_ k_ ∨ P0_3_ k_ ∨ P0_4_ k_ ∨ P0_5_ k_ ∨ P0_6_ k_) ∨ w.heap.size ≤ k_) ∧ some k_ ≠ (u290001 : Value).ownBlock ∧ some k_ ≠ (u290002 : Value).ownBlock) u290003 x290003_1) ∧ Aside0 (Kd.R Kd.string 9 w' w0.heap.size (fun k_ => ((P0_1_ k_ ∨ P0_2_ k_ ∨ P0_3_ k_ ∨ P0_4_ k_ ∨ P0_5_ k_ ∨ P0_6_ k_) ∨ w.heap.size ≤ k_)) (.slice Ao33 t302.length co33) t302) ∧ Aside0 (Kd.R (Kd.int .i64) 3 w' w0.heap.size (fun k_ => ((P0_1_ k_ ∨ P0_2_ k_ ∨ P0_3_ k_ ∨ P0_4_ k_ ∨ P0_5_ k_ ∨ P0_6_ k_) ∨ w.heap.size ≤ k_) ∧ some k_ ≠ (u290006 : Value).ownBlock) u290005 x290005_1) ∧ Aside0 (Kd.R (Kd.int .i64) 3 w' w0.heap.size (fun k_ => ((P0_1_ k_ ∨ P0_2_ k_ ∨ P0_3_ k_ ∨ P0_4_ k_ ∨ P0_5_ k_ ∨ P0_6_ k_) ∨ w.heap.size ≤ k_) ∧ some k_ ≠ (u290005 : Value).ownBlock) u290006 x290006_1) ∧ Aside0 (w'.heap[gb289]? = some (.cells #[.int .i64 t292, u290001, u290002, u290003, (.slice Ao33 t302.length co33), u290005, u290006, .int .i64 t311, .int .i64 a1, .int .i64 t313] 54 (0, 0))) ∧ Aside0 (w'.heap[gb290]? = some (.cells #[.int .i64 0, (.slice none 0 0), (.slice none 0 0), (.slice none 0 0), (.slice none 0 0), (.slice none 0 0), (.slice none 0 0), .int .i64 0, .int .i64 0, .int .i64 0] 54 (0, 0))) ∧ Aside0 (Kept w w' (fun k_ => P0_1_ k_ ∨ P0_2_ k_ ∨ P0_3_ k_ ∨ P0_4_ k_ ∨ P0_5_ k_ ∨ P0_6_ k_)) ∧ Aside0 (Below w0.heap.size w0 w'))
     case atStart => exact ⟨(([] : List (S56))), (0), (t293), (t296), (t299), (t305), (t308), (.slice Ao30 t293.length co30), (.slice Ao31 t296.length co31), (.slice Ao32 t299.length co32), (.slice Ao34 t305.length co34), (.slice Ao35 t308.length co35), (by first | rfl | (simp; done) | (simp [*]; done)), H', ⟨Nat.le_refl _⟩, ⟨by first | exact Kd.R_nil _ _ _ _ _ | exact Kd.N_nil _ _ _ _ _ | exact Kd.V_nil _ _ _ _ _ | exact Kd.Q_nil _ _ _ _ _ | exact Kd.S_nil _ _ _ _ _⟩, ⟨by (with_reducible repeat first | apply ra | apply rb | apply rc); exact Kd.R_mono (Kd.R_far (p := ⟨gb289, 8, none⟩) (far10 gb289 (Kd.R_types HO295.out BK289.out (by decide)) (fun _ hk => hk.2)) (fun _ hk => hk.2) (.int .i64 a1)) (fun _ hk => ⟨hk.1.1.1.1.1, ⟨hk.1.1.1.1.2.1, hk.1.1.1.1.2.2⟩⟩)⟩, ⟨by (with_reducible repeat first | apply ra | apply rb | apply rc); exact Kd.R_mono (Kd.R_far (p := ⟨gb289, 8, none⟩) (far10 gb289 (Kd.R_types HO298.out BK289.out (by decide)) (fun _ hk => hk.2)) (fun _ hk => hk.2) (.int .i64 a1)) (fun _ hk => ⟨hk.1.1.1.1.1, ⟨hk.1.1.1.1.2.1, hk.1.1.1.1.2.2⟩⟩)⟩, ⟨by (with_reducible repeat first | apply ra | apply rb | apply rc); exact Kd.R_mono (Kd.R_far (p := ⟨gb289, 8, none⟩) (far10 gb289 (Kd.R_types HO301.out BK289.out (by decide)) (fun _ hk => hk.2)) (fun _ hk => hk.2) (.int .i64 a1)) (fun _ hk => ⟨hk.1.1.1.1.1, ⟨hk.1.1.1.1.2.1, hk.1.1.1.1.2.2⟩⟩)⟩, ⟨by (with_reducible repeat first | apply ra | apply rb | apply rc); exact Kd.R_mono (Kd.R_far (p := ⟨gb289, 8, none⟩) (far10 gb289 (Kd.R_types HO304.out BK289.out (by decide)) (fun _ hk => hk.2)) (fun _ hk => hk.2) (.int .i64 a1)) (fun _ hk => hk.1.1.1)⟩, ⟨by (with_reducible repeat first | apply ra | apply rb | apply rc); exact Kd.R_mono (Kd.R_far (p := ⟨gb289, 8, none⟩) (far10 gb289 (Kd.R_types HO307.out BK289.out (by decide)) (fun _ hk => hk.2)) (fun _ hk => hk.2) (.int .i64 a1)) (fun _ hk => ⟨hk.1.1.1.1, hk.1.1.1.2⟩)⟩, ⟨by (with_reducible repeat first | apply ra | apply rb | apply rc); exact Kd.R_mono (Kd.R_far (p := ⟨gb289, 8, none⟩) (far10 gb289 (Kd.R_types HO310.out BK289.out (by decide)) (fun _ hk => hk.2)) (fun _ hk => hk.2) (.int .i64 a1)) (fun _ hk => ⟨hk.1.1.1.1, hk.1.1.1.2⟩)⟩, ⟨by (with_reducible repeat first | apply ba | apply bb | apply bc); refine blk_put (cs := #[.int .i64 t292, .slice Ao30 t293.length co30, .slice Ao31 t296.length co31, .slice Ao32 t299.length co32, .slice Ao33 t302.length co33, .slice Ao34 t305.length co34, .slice Ao35 t308.length co35, .int .i64 t311, .int .i64 t312, .int .i64 t313]) ?_ 8 _ rfl; (with_reducible repeat first | apply ba | apply bb | apply bc); refine blk_put (cs := #[.int .i64 t292, .slice Ao30 t293.length co30, .slice Ao31 t296.length co31, .slice Ao32 t299.length co32, .slice Ao33 t302.length co33, .slice Ao34 t305.length co34, .slice Ao35 t308.length co35, .int .i64 t311, .int .i64 t312, .int .i64 a0_9]) ?_ 9 _ rfl; (with_reducible repeat first | apply ba | apply bb | apply bc); refine blk_put (cs := #[.int .i64 t292, .slice Ao30 t293.length co30, .slice Ao31 t296.length co31, .slice Ao32 t299.length co32, .slice Ao33 t302.length co33, .slice Ao34 t305.length co34, .slice Ao35 t308.length co35, .int .i64 t311, .int .i64 a0_8, .int .i64 a0_9]) ?_ 8 _ rfl; (with_reducible repeat first | apply ba | apply bb | apply bc); refine blk_put (cs := #[.int .i64 t292, .slice Ao30 t293.length co30, .slice Ao31 t296.length co31, .slice Ao32 t299.length co32, .slice Ao33 t302.length co33, .slice Ao34 t305.length co34, .slice Ao35 t308.length co35, .int .i64 a0_7, .int .i64 a0_8, .int .i64 a0_9]) ?_ 7 _ rfl; (with_reducible repeat first | apply ba | apply bb | apply bc); refine blk_put (cs := #[.int .i64 t292, .slice Ao30 t293.length co30, .slice Ao31 t296.length co31, .slice Ao32 t299.length co32, .slice Ao33 t302.length co33, .slice Ao34 t305.length co34, .slice Ao23 l0_6.length co23, .int .i64 a0_7, .int .i64 a0_8, .int .i64 a0_9]) ?_ 6 _ rfl; (with_reducible repeat first | apply ba | apply bb | apply bc); refine blk_put (cs := #[.int .i64 t292, .slice Ao30 t293.length co30, .slice Ao31 t296.length co31, .slice Ao32 t299.length co32, .slice Ao33 t302.length co33, .slice Ao22 l0_5.length co22, .slice Ao23 l0_6.length co23, .int .i64 a0_7, .int .i64 a0_8, .int .i64 a0_9]) ?_ 5 _ rfl; (with_reducible repeat first | apply ba | apply bb | apply bc); refine blk_put (cs := #[.int .i64 t292, .slice Ao30 t293.length co30, .slice Ao31 t296.length co31, .slice Ao32 t299.length co32, .slice Ao21 l0_4.length co21, .slice Ao22 l0_5.length co22, .slice Ao23 l0_6.length co23, .int .i64 a0_7, .int .i64 a0_8, .int .i64 a0_9]) ?_ 4 _ rfl; (with_reducible repeat first | apply ba | apply bb | apply bc); refine blk_put (cs := #[.int .i64 t292, .slice Ao30 t293.length co30, .slice Ao31 t296.length co31, .slice Ao20 l0_3.length co20, .slice Ao21 l0_4.length co21, .slice Ao22 l0_5.length co22, .slice Ao23 l0_6.length co23, .int .i64 a0_7, .int .i64 a0_8, .int .i64 a0_9]) ?_ 3 _ rfl; (with_reducible repeat first | apply ba | apply bb | apply bc); refine blk_put (cs := #[.int .i64 t292, .slice Ao30 t293.length co30, .slice Ao19 l0_2.length co19, .slice Ao20 l0_3.length co20, .slice Ao21 l0_4.length co21, .slice Ao22 l0_5.length co22, .slice Ao23 l0_6.length co23, .int .i64 a0_7, .int .i64 a0_8, .int .i64 a0_9]) ?_ 2 _ rfl; (with_reducible repeat first | apply ba | apply bb | apply bc); refine blk_put (cs := #[.int .i64 t292, .slice Ao18 l0_1.length co18, .slice Ao19 l0_2.length co19, .slice Ao20 l0_3.length co20, .slice Ao21 l0_4.length co21, .slice Ao22 l0_5.length co22, .slice Ao23 l0_6.length co23, .int .i64 a0_7, .int .i64 a0_8, .int .i64 a0_9]) ?_ 1 _ rfl; (with_reducible repeat first | apply ba | apply bb | apply bc); refine blk_put (cs := #[.int .i64 a0_0, .slice Ao18 l0_1.length co18, .slice Ao19 l0_2.length co19, .slice Ao20 l0_3.length co20, .slice Ao21 l0_4.length co21, .slice Ao22 l0_5.length co22, .slice Ao23 l0_6.length co23, .int .i64 a0_7, .int .i64 a0_8, .int .i64 a0_9]) ?_ 0 _ rfl; (with_reducible repeat first | apply ba | apply bb | apply bc); exact BK289.out⟩, ⟨by (with_reducible repeat first | apply ba | apply bb | apply bc); refine blk_far ?_ NB290_289.out _; (with_reducible repeat first | apply ba | apply bb | apply bc); refine blk_far ?_ NB290_289.out _; (with_reducible repeat first | apply ba | apply bb | apply bc); refine blk_far ?_ NB290_289.out _; (with_reducible repeat first | apply ba | apply bb | apply bc); refine blk_far ?_ NB290_289.out _; (with_reducible repeat first | apply ba | apply bb | apply bc); refine blk_far ?_ NB290_289.out _; (with_reducible repeat first | apply ba | apply bb | apply bc); refine blk_far ?_ NB290_289.out _; (with_reducible repeat first | apply ba | apply bb | apply bc); refine blk_far ?_ NB290_289.out _; (with_reducible repeat first | apply ba | apply bb | apply bc); refine blk_far ?_ NB290_289.out _; (with_reducible repeat first | apply ba | apply bb | apply bc); refine blk_far ?_ NB290_289.out _; (with_reducible repeat first | apply ba | apply bb | apply bc); refine blk_far ?_ NB290_289.out _; (with_reducible repeat first | apply ba | apply bb | apply bc); refine blk_far ?_ NB290_289.out _; (with_reducible repeat first | apply ba | apply bb | apply bc); exact BK290.out⟩, ⟨by repeat (first | (with_reducible first | exact HK.out | apply Kept.alloc | apply Kept.drewN | apply Kept.drew | refine Kept.setCell ?_ (.inr GW289.out) _ | refine Kept.setCell ?_ (.inr GW290.out) _) | exact HK.out)⟩, ⟨by repeat (first | (with_reducible first | exact HB.out | apply below_alloc | apply pw_below_drewN | apply below_drew1 | refine below_set ?_ GE289.out | refine below_set ?_ GE290.out) | exact HB.out)⟩⟩
     case round =>
      clear H'
      try clear c1
      try clear c2
      try clear p2
      try clear c3
      try clear c4
      try clear c5
      try clear c5b0
      try clear c7
      try clear c14
      try clear c26
      try clear c28
      try clear hcz15_0
      try clear hcz15_1
      try clear hcz15_2
      try clear hcz15_3
      try clear hcz15_4
      try clear hcz15_5
      try clear hcz15_6
      try clear hcz15_7
      try clear hcz15_8
      try clear hcz15_9
      try clear hcz16_0
      try clear hcz16_1
      try clear hcz16_2
      try clear hcz16_3
      try clear hcz16_4
      try clear hcz16_5
      try clear hcz16_6
      try clear hcz16_7
      try clear hcz16_8
      try clear hcz16_9
      try clear hcz27_0
      try clear hcz27_1
      try clear hcz27_2
      try clear hcz27_3
      try clear hcz27_4
      try clear hcz27_5
      try clear hcz27_6
      try clear hcz27_7
      try clear hcz27_8
      try clear hcz27_9
      try clear hcz29_0
      try clear hcz29_1
      try clear hcz29_2
      try clear hcz29_3
      try clear hcz29_4
      try clear hcz29_5
      try clear hcz29_6
      try clear hcz29_7
      try clear hcz29_8
      try clear hcz29_9
      try clear hfz15_0
      try clear hfz15_1
      try clear hfz15_2
      try clear hfz15_3
      try clear hfz15_4
      try clear hfz15_5
      try clear hfz15_6
      try clear hfz15_7
      try clear hfz15_8
      try clear hfz15_9
      try clear hfz16_0
      try clear hfz16_1
      try clear hfz16_2
      try clear hfz16_3
      try clear hfz16_4
      try clear hfz16_5
      try clear hfz16_6
      try clear hfz16_7
      try clear hfz16_8
      try clear hfz16_9
      try clear hfz27_0
      try clear hfz27_1
      try clear hfz27_2
      try clear hfz27_3
      try clear hfz27_4
      try clear hfz27_5
      try clear hfz27_6
      try clear hfz27_7
      try clear hfz27_8
      try clear hfz27_9
      try clear hfz29_0
      try clear hfz29_1
      try clear hfz29_2
      try clear hfz29_3
      try clear hfz29_4
      try clear hfz29_5
      try clear hfz29_6
      try clear hfz29_7
      try clear hfz29_8
      try clear hfz29_9
      obtain ⟨x7_1, x8_1, x290001_1, x290002_1, x290003_1, x290005_1, x290006_1, u290001, u290002, u290003, u290005, u290006, rfl, HA, HK1, HO_7, HO_290001, HO_290002, HO_290003, HO_290004, HO_290005, HO_290006, BK289, BK290, HK, HB⟩ := hrel
      cases gk with
      | zero => exact absurd HA.out (by simp [patchbayref3_Cast_Out.l0])
      | succ k1 =>
       have H := HA.out
       clear HA
       simp only [patchbayref3_Cast_Out.l0] at H
       by_cases c36 : x8_1 < (x290001_1.length : Int)
       · rw [if_pos c36] at H
         have c36b0 : decide (x8_1 < (x290001_1.length : Int)) = true := decide_eq_true c36
         clear c36
         have HC37 := Aside0.mk H
         clear H
         have hnb38 := NB289_290.out
         have hnc38 := NB290_289.out
         have hcz39_0 : wr.cell? ⟨gb289, 0, none⟩ = some (.int .i64 t292) := (blk_cell BK289.out 0).trans rfl
         have hcz39_1 : wr.cell? ⟨gb289, 1, none⟩ = some (u290001) := (blk_cell BK289.out 1).trans rfl
         have hcz39_2 : wr.cell? ⟨gb289, 2, none⟩ = some (u290002) := (blk_cell BK289.out 2).trans rfl
         have hcz39_3 : wr.cell? ⟨gb289, 3, none⟩ = some (u290003) := (blk_cell BK289.out 3).trans rfl
         have hcz39_4 : wr.cell? ⟨gb289, 4, none⟩ = some (.slice Ao33 t302.length co33) := (blk_cell BK289.out 4).trans rfl
         have hcz39_5 : wr.cell? ⟨gb289, 5, none⟩ = some (u290005) := (blk_cell BK289.out 5).trans rfl
         have hcz39_6 : wr.cell? ⟨gb289, 6, none⟩ = some (u290006) := (blk_cell BK289.out 6).trans rfl
         have hcz39_7 : wr.cell? ⟨gb289, 7, none⟩ = some (.int .i64 t311) := (blk_cell BK289.out 7).trans rfl
         have hcz39_8 : wr.cell? ⟨gb289, 8, none⟩ = some (.int .i64 a1) := (blk_cell BK289.out 8).trans rfl
         have hcz39_9 : wr.cell? ⟨gb289, 9, none⟩ = some (.int .i64 t313) := (blk_cell BK289.out 9).trans rfl
         have hfz39_0 := blk_frozen BK289.out 0
         have hfz39_1 := blk_frozen BK289.out 1
         have hfz39_2 := blk_frozen BK289.out 2
         have hfz39_3 := blk_frozen BK289.out 3
         have hfz39_4 := blk_frozen BK289.out 4
         have hfz39_5 := blk_frozen BK289.out 5
         have hfz39_6 := blk_frozen BK289.out 6
         have hfz39_7 := blk_frozen BK289.out 7
         have hfz39_8 := blk_frozen BK289.out 8
         have hfz39_9 := blk_frozen BK289.out 9
         obtain ⟨Ao40, co40, eo40⟩ := Kd.R_slice HO_290001.out
         subst eo40
         go_upto_region 11 with (fail)
         go_cut [56] (fun v56 wc => ∃ (kq : Nat) (x56_36 : Bool), v56 = .bool x56_36 ∧ Aside0 (patchbayref3_Cast_Out.j1 kq a1 x7_1 x8_1 x56_36 t292 x290001_1 x290002_1 x290003_1 t302 x290005_1 x290006_1 t311 a1 t313 = some (r1, r2, r3, r4, r5, r6, r7, r8, r9, r10, r11, r12)) ∧ Aside0 (kq ≤ k1) ∧ Aside0 (Kd.R k56 56 wc w0.heap.size (fun k_ => ((P0_1_ k_ ∨ P0_2_ k_ ∨ P0_3_ k_ ∨ P0_4_ k_ ∨ P0_5_ k_ ∨ P0_6_ k_) ∨ w.heap.size ≤ k_)) u7 x7_1) ∧ Aside0 (Kd.R Kd.bool 4 wc w0.heap.size (fun k_ => ((P0_1_ k_ ∨ P0_2_ k_ ∨ P0_3_ k_ ∨ P0_4_ k_ ∨ P0_5_ k_ ∨ P0_6_ k_) ∨ w.heap.size ≤ k_) ∧ some k_ ≠ (u290002 : Value).ownBlock ∧ some k_ ≠ (u290003 : Value).ownBlock) (.slice Ao40 x290001_1.length co40) x290001_1) ∧ Aside0 (Kd.R Kd.bool 4 wc w0.heap.size (fun k_ => ((P0_1_ k_ ∨ P0_2_ k_ ∨ P0_3_ k_ ∨ P0_4_ k_ ∨ P0_5_ k_ ∨ P0_6_ k_) ∨ w.heap.size ≤ k_) ∧ some k_ ≠ ((.slice Ao40 x290001_1.length co40) : Value).ownBlock ∧ some k_ ≠ (u290003 : Value).ownBlock) u290002 x290002_1) ∧ Aside0 (Kd.R Kd.bool 4 wc w0.heap.size (fun k_ => ((P0_1_ k_ ∨ P0_2_ k_ ∨ P0_3_ k_ ∨ P0_4_ k_ ∨ P0_5_ k_ ∨ P0_6_ k_) ∨ w.heap.size ≤ k_) ∧ some k_ ≠ ((.slice Ao40 x290001_1.length co40) : Value).ownBlock ∧ some k_ ≠ (u290002 : Value).ownBlock) u290003 x290003_1) ∧ Aside0 (Kd.R Kd.string 9 wc w0.heap.size (fun k_ => ((P0_1_ k_ ∨ P0_2_ k_ ∨ P0_3_ k_ ∨ P0_4_ k_ ∨ P0_5_ k_ ∨ P0_6_ k_) ∨ w.heap.size ≤ k_)) (.slice Ao33 t302.length co33) t302) ∧ Aside0 (Kd.R (Kd.int .i64) 3 wc w0.heap.size (fun k_ => ((P0_1_ k_ ∨ P0_2_ k_ ∨ P0_3_ k_ ∨ P0_4_ k_ ∨ P0_5_ k_ ∨ P0_6_ k_) ∨ w.heap.size ≤ k_) ∧ some k_ ≠ (u290006 : Value).ownBlock) u290005 x290005_1) ∧ Aside0 (Kd.R (Kd.int .i64) 3 wc w0.heap.size (fun k_ => ((P0_1_ k_ ∨ P0_2_ k_ ∨ P0_3_ k_ ∨ P0_4_ k_ ∨ P0_5_ k_ ∨ P0_6_ k_) ∨ w.heap.size ≤ k_) ∧ some k_ ≠ (u290005 : Value).ownBlock) u290006 x290006_1) ∧ Aside0 (wc.heap[gb289]? = some (.cells #[.int .i64 t292, (.slice Ao40 x290001_1.length co40), u290002, u290003, (.slice Ao33 t302.length co33), u290005, u290006, .int .i64 t311, .int .i64 a1, .int .i64 t313] 54 (0, 0))) ∧ Aside0 (wc.heap[gb290]? = some (.cells #[.int .i64 0, (.slice none 0 0), (.slice none 0 0), (.slice none 0 0), (.slice none 0 0), (.slice none 0 0), (.slice none 0 0), .int .i64 0, .int .i64 0, .int .i64 0] 54 (0, 0))) ∧ Aside0 (Kept w wc (fun k_ => P0_1_ k_ ∨ P0_2_ k_ ∨ P0_3_ k_ ∨ P0_4_ k_ ∨ P0_5_ k_ ∨ P0_6_ k_)) ∧ Aside0 (Below w0.heap.size w0 wc))
         case first =>
          have H := HC37.out
          clear HC37
          by_cases c41 : 0 ≤ x8_1
          · rw [if_pos c41] at H
            have c41b0 : decide (0 ≤ x8_1) = true := decide_eq_true c41
            clear c41
            (first | rw [c41b0] | (simp only [i64_w, i32_w]; rw [c41b0]) | skip)
            by_cases c42 : x8_1 < (x290002_1.length : Int)
            · rw [if_pos c42] at H
              have c42b0 : decide (x8_1 < (x290002_1.length : Int)) = true := decide_eq_true c42
              clear c42
              obtain ⟨bq43, hbq43⟩ : ∃ b_ : Bool, b_ = (rdOf false x290002_1 x8_1) := ⟨_, rfl⟩
              replace H : (if bq43 = true then (patchbayref3_Cast_Out.j1 k1 a1 x7_1 x8_1 true t292 x290001_1 x290002_1 x290003_1 t302 x290005_1 x290006_1 t311 a1 t313) else (if rdOf false x290001_1 x8_1 = true then (if x8_1 < (x290003_1.length : Int) then (if rdOf false x290003_1 x8_1 = true then (if x8_1 < (x290006_1.length : Int) then (patchbayref3_Cast_Out.j1 k1 a1 x7_1 x8_1 (decide ((rd x290006_1 x8_1) ≤ a1)) t292 x290001_1 x290002_1 x290003_1 t302 x290005_1 x290006_1 t311 a1 t313) else (none)) else (patchbayref3_Cast_Out.j1 k1 a1 x7_1 x8_1 false t292 x290001_1 x290002_1 x290003_1 t302 x290005_1 x290006_1 t311 a1 t313)) else (none)) else (patchbayref3_Cast_Out.j1 k1 a1 x7_1 x8_1 false t292 x290001_1 x290002_1 x290003_1 t302 x290005_1 x290006_1 t311 a1 t313))) = some (r1, r2, r3, r4, r5, r6, r7, r8, r9, r10, r11, r12) := by rw [← hbq43] at H; exact H
              have Nbq43 := Aside0.mk hbq43
              clear hbq43
              by_cases c44 : bq43 = true
              · subst c44
                have H1 : (patchbayref3_Cast_Out.j1 k1 a1 x7_1 x8_1 true t292 x290001_1 x290002_1 x290003_1 t302 x290005_1 x290006_1 t311 a1 t313) = some (r1, r2, r3, r4, r5, r6, r7, r8, r9, r10, r11, r12) := by rw [if_pos rfl] at H; exact H
                clear H
                have H := H1
                clear H1
                have H' := Aside0.mk H
                clear H
                have hnb45 := NB289_290.out
                have hnc45 := NB290_289.out
                have hcz46_0 : wr.cell? ⟨gb289, 0, none⟩ = some (.int .i64 t292) := (blk_cell BK289.out 0).trans rfl
                have hcz46_1 : wr.cell? ⟨gb289, 1, none⟩ = some (.slice Ao40 x290001_1.length co40) := (blk_cell BK289.out 1).trans rfl
                have hcz46_2 : wr.cell? ⟨gb289, 2, none⟩ = some (u290002) := (blk_cell BK289.out 2).trans rfl
                have hcz46_3 : wr.cell? ⟨gb289, 3, none⟩ = some (u290003) := (blk_cell BK289.out 3).trans rfl
                have hcz46_4 : wr.cell? ⟨gb289, 4, none⟩ = some (.slice Ao33 t302.length co33) := (blk_cell BK289.out 4).trans rfl
                have hcz46_5 : wr.cell? ⟨gb289, 5, none⟩ = some (u290005) := (blk_cell BK289.out 5).trans rfl
                have hcz46_6 : wr.cell? ⟨gb289, 6, none⟩ = some (u290006) := (blk_cell BK289.out 6).trans rfl
                have hcz46_7 : wr.cell? ⟨gb289, 7, none⟩ = some (.int .i64 t311) := (blk_cell BK289.out 7).trans rfl
                have hcz46_8 : wr.cell? ⟨gb289, 8, none⟩ = some (.int .i64 a1) := (blk_cell BK289.out 8).trans rfl
                have hcz46_9 : wr.cell? ⟨gb289, 9, none⟩ = some (.int .i64 t313) := (blk_cell BK289.out 9).trans rfl
                have hfz46_0 := blk_frozen BK289.out 0
                have hfz46_1 := blk_frozen BK289.out 1
                have hfz46_2 := blk_frozen BK289.out 2
                have hfz46_3 := blk_frozen BK289.out 3
                have hfz46_4 := blk_frozen BK289.out 4
                have hfz46_5 := blk_frozen BK289.out 5
                have hfz46_6 := blk_frozen BK289.out 6
                have hfz46_7 := blk_frozen BK289.out 7
                have hfz46_8 := blk_frozen BK289.out 8
                have hfz46_9 := blk_frozen BK289.out 9
                obtain ⟨Ao47, co47, eo47⟩ := Kd.R_slice HO_290002.out
                subst eo47
                have p317 : 0 ≤ (x8_1 : Int) := of_decide_eq_true (by first | (with_reducible assumption) | assumption)
                have q317 : x8_1 < (x290002_1.length : Int) := of_decide_eq_true (by first | (with_reducible assumption) | assumption)
                obtain ⟨ad317, e317, hx317_0⟩ := Kd.at_bool (Kd.R_reads' HO_290002.out).2.2 x8_1 p317 q317
                (try rw [← Nbq43.out] at hx317_0)
                cases e317
                replace p317 := eq_true p317
                replace q317 := eq_true q317
                go_wp2
                go_meet
                case rel => exact ⟨_, (true), (by first | rfl | (simp; done) | (simp [*]; done)), H', ⟨by have := HK1.out; first | omega | exact Nat.le_refl _⟩, ⟨by (with_reducible repeat first | apply ra | apply rb | apply rc); exact HO_7.out⟩, ⟨by (with_reducible repeat first | apply ra | apply rb | apply rc); exact HO_290001.out⟩, ⟨by (with_reducible repeat first | apply ra | apply rb | apply rc); exact HO_290002.out⟩, ⟨by (with_reducible repeat first | apply ra | apply rb | apply rc); exact HO_290003.out⟩, ⟨by (with_reducible repeat first | apply ra | apply rb | apply rc); exact HO_290004.out⟩, ⟨by (with_reducible repeat first | apply ra | apply rb | apply rc); exact HO_290005.out⟩, ⟨by (with_reducible repeat first | apply ra | apply rb | apply rc); exact HO_290006.out⟩, ⟨by (with_reducible repeat first | apply ba | apply bb | apply bc); exact BK289.out⟩, ⟨by (with_reducible repeat first | apply ba | apply bb | apply bc); exact BK290.out⟩, ⟨by repeat (first | (with_reducible first | exact HK.out | apply Kept.alloc | apply Kept.drewN | apply Kept.drew | refine Kept.setCell ?_ (.inr GW289.out) _ | refine Kept.setCell ?_ (.inr GW290.out) _) | exact HK.out)⟩, ⟨by repeat (first | (with_reducible first | exact HB.out | apply below_alloc | apply pw_below_drewN | apply below_drew1 | refine below_set ?_ GE289.out | refine below_set ?_ GE290.out) | exact HB.out)⟩⟩
              · replace c44 := Bool.eq_false_iff.mpr c44
                subst c44
                have H1 : (if rdOf false x290001_1 x8_1 = true then (if x8_1 < (x290003_1.length : Int) then (if rdOf false x290003_1 x8_1 = true then (if x8_1 < (x290006_1.length : Int) then (patchbayref3_Cast_Out.j1 k1 a1 x7_1 x8_1 (decide ((rd x290006_1 x8_1) ≤ a1)) t292 x290001_1 x290002_1 x290003_1 t302 x290005_1 x290006_1 t311 a1 t313) else (none)) else (patchbayref3_Cast_Out.j1 k1 a1 x7_1 x8_1 false t292 x290001_1 x290002_1 x290003_1 t302 x290005_1 x290006_1 t311 a1 t313)) else (none)) else (patchbayref3_Cast_Out.j1 k1 a1 x7_1 x8_1 false t292 x290001_1 x290002_1 x290003_1 t302 x290005_1 x290006_1 t311 a1 t313)) = some (r1, r2, r3, r4, r5, r6, r7, r8, r9, r10, r11, r12) := by rw [if_neg (show ¬ (false = true) by decide)] at H; exact H
                clear H
                have H := H1
                clear H1
                obtain ⟨bq48, hbq48⟩ : ∃ b_ : Bool, b_ = (rdOf false x290001_1 x8_1) := ⟨_, rfl⟩
                replace H : (if bq48 = true then (if x8_1 < (x290003_1.length : Int) then (if rdOf false x290003_1 x8_1 = true then (if x8_1 < (x290006_1.length : Int) then (patchbayref3_Cast_Out.j1 k1 a1 x7_1 x8_1 (decide ((rd x290006_1 x8_1) ≤ a1)) t292 x290001_1 x290002_1 x290003_1 t302 x290005_1 x290006_1 t311 a1 t313) else (none)) else (patchbayref3_Cast_Out.j1 k1 a1 x7_1 x8_1 false t292 x290001_1 x290002_1 x290003_1 t302 x290005_1 x290006_1 t311 a1 t313)) else (none)) else (patchbayref3_Cast_Out.j1 k1 a1 x7_1 x8_1 false t292 x290001_1 x290002_1 x290003_1 t302 x290005_1 x290006_1 t311 a1 t313)) = some (r1, r2, r3, r4, r5, r6, r7, r8, r9, r10, r11, r12) := by rw [← hbq48] at H; exact H
                have Nbq48 := Aside0.mk hbq48
                clear hbq48
                by_cases c49 : bq48 = true
                · subst c49
                  have H1 : (if x8_1 < (x290003_1.length : Int) then (if rdOf false x290003_1 x8_1 = true then (if x8_1 < (x290006_1.length : Int) then (patchbayref3_Cast_Out.j1 k1 a1 x7_1 x8_1 (decide ((rd x290006_1 x8_1) ≤ a1)) t292 x290001_1 x290002_1 x290003_1 t302 x290005_1 x290006_1 t311 a1 t313) else (none)) else (patchbayref3_Cast_Out.j1 k1 a1 x7_1 x8_1 false t292 x290001_1 x290002_1 x290003_1 t302 x290005_1 x290006_1 t311 a1 t313)) else (none)) = some (r1, r2, r3, r4, r5, r6, r7, r8, r9, r10, r11, r12) := by rw [if_pos rfl] at H; exact H
                  clear H
                  have H := H1
                  clear H1
                  by_cases c50 : x8_1 < (x290003_1.length : Int)
                  · rw [if_pos c50] at H
                    have c50b0 : decide (x8_1 < (x290003_1.length : Int)) = true := decide_eq_true c50
                    clear c50
                    obtain ⟨bq51, hbq51⟩ : ∃ b_ : Bool, b_ = (rdOf false x290003_1 x8_1) := ⟨_, rfl⟩
                    replace H : (if bq51 = true then (if x8_1 < (x290006_1.length : Int) then (patchbayref3_Cast_Out.j1 k1 a1 x7_1 x8_1 (decide ((rd x290006_1 x8_1) ≤ a1)) t292 x290001_1 x290002_1 x290003_1 t302 x290005_1 x290006_1 t311 a1 t313) else (none)) else (patchbayref3_Cast_Out.j1 k1 a1 x7_1 x8_1 false t292 x290001_1 x290002_1 x290003_1 t302 x290005_1 x290006_1 t311 a1 t313)) = some (r1, r2, r3, r4, r5, r6, r7, r8, r9, r10, r11, r12) := by rw [← hbq51] at H; exact H
                    have Nbq51 := Aside0.mk hbq51
                    clear hbq51
                    by_cases c52 : bq51 = true
                    · subst c52
                      have H1 : (if x8_1 < (x290006_1.length : Int) then (patchbayref3_Cast_Out.j1 k1 a1 x7_1 x8_1 (decide ((rd x290006_1 x8_1) ≤ a1)) t292 x290001_1 x290002_1 x290003_1 t302 x290005_1 x290006_1 t311 a1 t313) else (none)) = some (r1, r2, r3, r4, r5, r6, r7, r8, r9, r10, r11, r12) := by rw [if_pos rfl] at H; exact H
                      clear H
                      have H := H1
                      clear H1
                      by_cases c53 : x8_1 < (x290006_1.length : Int)
                      · rw [if_pos c53] at H
                        have c53b0 : decide (x8_1 < (x290006_1.length : Int)) = true := decide_eq_true c53
                        clear c53
                        have H' := Aside0.mk H
                        clear H
                        have hnb54 := NB289_290.out
                        have hnc54 := NB290_289.out
                        have hcz55_0 : wr.cell? ⟨gb289, 0, none⟩ = some (.int .i64 t292) := (blk_cell BK289.out 0).trans rfl
                        have hcz55_1 : wr.cell? ⟨gb289, 1, none⟩ = some (.slice Ao40 x290001_1.length co40) := (blk_cell BK289.out 1).trans rfl
                        have hcz55_2 : wr.cell? ⟨gb289, 2, none⟩ = some (u290002) := (blk_cell BK289.out 2).trans rfl
                        have hcz55_3 : wr.cell? ⟨gb289, 3, none⟩ = some (u290003) := (blk_cell BK289.out 3).trans rfl
                        have hcz55_4 : wr.cell? ⟨gb289, 4, none⟩ = some (.slice Ao33 t302.length co33) := (blk_cell BK289.out 4).trans rfl
                        have hcz55_5 : wr.cell? ⟨gb289, 5, none⟩ = some (u290005) := (blk_cell BK289.out 5).trans rfl
                        have hcz55_6 : wr.cell? ⟨gb289, 6, none⟩ = some (u290006) := (blk_cell BK289.out 6).trans rfl
                        have hcz55_7 : wr.cell? ⟨gb289, 7, none⟩ = some (.int .i64 t311) := (blk_cell BK289.out 7).trans rfl
                        have hcz55_8 : wr.cell? ⟨gb289, 8, none⟩ = some (.int .i64 a1) := (blk_cell BK289.out 8).trans rfl
                        have hcz55_9 : wr.cell? ⟨gb289, 9, none⟩ = some (.int .i64 t313) := (blk_cell BK289.out 9).trans rfl
                        have hfz55_0 := blk_frozen BK289.out 0
                        have hfz55_1 := blk_frozen BK289.out 1
                        have hfz55_2 := blk_frozen BK289.out 2
                        have hfz55_3 := blk_frozen BK289.out 3
                        have hfz55_4 := blk_frozen BK289.out 4
                        have hfz55_5 := blk_frozen BK289.out 5
                        have hfz55_6 := blk_frozen BK289.out 6
                        have hfz55_7 := blk_frozen BK289.out 7
                        have hfz55_8 := blk_frozen BK289.out 8
                        have hfz55_9 := blk_frozen BK289.out 9
                        obtain ⟨Ao56, co56, eo56⟩ := Kd.R_slice HO_290002.out
                        subst eo56
                        have p317 : 0 ≤ (x8_1 : Int) := of_decide_eq_true (by first | (with_reducible assumption) | assumption)
                        have q317 : x8_1 < (x290002_1.length : Int) := of_decide_eq_true (by first | (with_reducible assumption) | assumption)
                        obtain ⟨ad317, e317, hx317_0⟩ := Kd.at_bool (Kd.R_reads' HO_290002.out).2.2 x8_1 p317 q317
                        (try rw [← Nbq43.out] at hx317_0)
                        (try rw [← Nbq48.out] at hx317_0)
                        (try rw [← Nbq51.out] at hx317_0)
                        cases e317
                        replace p317 := eq_true p317
                        replace q317 := eq_true q317
                        have p318 : 0 ≤ (x8_1 : Int) := of_decide_eq_true (by first | (with_reducible assumption) | assumption)
                        have q318 : x8_1 < (x290001_1.length : Int) := of_decide_eq_true (by first | (with_reducible assumption) | assumption)
                        obtain ⟨ad318, e318, hx318_0⟩ := Kd.at_bool (Kd.R_reads' HO_290001.out).2.2 x8_1 p318 q318
                        (try rw [← Nbq43.out] at hx318_0)
                        (try rw [← Nbq48.out] at hx318_0)
                        (try rw [← Nbq51.out] at hx318_0)
                        cases e318
                        replace p318 := eq_true p318
                        replace q318 := eq_true q318
                        obtain ⟨Ao57, co57, eo57⟩ := Kd.R_slice HO_290003.out
                        subst eo57
                        have p319 : 0 ≤ (x8_1 : Int) := of_decide_eq_true (by first | (with_reducible assumption) | assumption)
                        have q319 : x8_1 < (x290003_1.length : Int) := of_decide_eq_true (by first | (with_reducible assumption) | assumption)
                        obtain ⟨ad319, e319, hx319_0⟩ := Kd.at_bool (Kd.R_reads' HO_290003.out).2.2 x8_1 p319 q319
                        (try rw [← Nbq43.out] at hx319_0)
                        (try rw [← Nbq48.out] at hx319_0)
                        (try rw [← Nbq51.out] at hx319_0)
                        cases e319
                        replace p319 := eq_true p319
                        replace q319 := eq_true q319
                        obtain ⟨Ao58, co58, eo58⟩ := Kd.R_slice HO_290006.out
                        subst eo58
                        have p320 : 0 ≤ (x8_1 : Int) := of_decide_eq_true (by first | (with_reducible assumption) | assumption)
                        have q320 : x8_1 < (x290006_1.length : Int) := of_decide_eq_true (by first | (with_reducible assumption) | assumption)
                        obtain ⟨ad320, e320, hx320_0⟩ := Kd.at_int (Kd.R_reads' HO_290006.out).2.2 x8_1 p320 q320
                        cases e320
                        replace p320 := eq_true p320
                        replace q320 := eq_true q320
                        go_wp2
                        go_meet
                        case rel => exact ⟨_, (decide ((rd x290006_1 x8_1) ≤ a1)), (by first | rfl | (simp; done) | (simp [*]; done)), H', ⟨by have := HK1.out; first | omega | exact Nat.le_refl _⟩, ⟨by (with_reducible repeat first | apply ra | apply rb | apply rc); exact HO_7.out⟩, ⟨by (with_reducible repeat first | apply ra | apply rb | apply rc); exact HO_290001.out⟩, ⟨by (with_reducible repeat first | apply ra | apply rb | apply rc); exact HO_290002.out⟩, ⟨by (with_reducible repeat first | apply ra | apply rb | apply rc); exact HO_290003.out⟩, ⟨by (with_reducible repeat first | apply ra | apply rb | apply rc); exact HO_290004.out⟩, ⟨by (with_reducible repeat first | apply ra | apply rb | apply rc); exact HO_290005.out⟩, ⟨by (with_reducible repeat first | apply ra | apply rb | apply rc); exact HO_290006.out⟩, ⟨by (with_reducible repeat first | apply ba | apply bb | apply bc); exact BK289.out⟩, ⟨by (with_reducible repeat first | apply ba | apply bb | apply bc); exact BK290.out⟩, ⟨by repeat (first | (with_reducible first | exact HK.out | apply Kept.alloc | apply Kept.drewN | apply Kept.drew | refine Kept.setCell ?_ (.inr GW289.out) _ | refine Kept.setCell ?_ (.inr GW290.out) _) | exact HK.out)⟩, ⟨by repeat (first | (with_reducible first | exact HB.out | apply below_alloc | apply pw_below_drewN | apply below_drew1 | refine below_set ?_ GE289.out | refine below_set ?_ GE290.out) | exact HB.out)⟩⟩
                      · rw [if_neg c53] at H
                        exact absurd H (by simp)
                    · replace c52 := Bool.eq_false_iff.mpr c52
                      subst c52
                      have H1 : (patchbayref3_Cast_Out.j1 k1 a1 x7_1 x8_1 false t292 x290001_1 x290002_1 x290003_1 t302 x290005_1 x290006_1 t311 a1 t313) = some (r1, r2, r3, r4, r5, r6, r7, r8, r9, r10, r11, r12) := by rw [if_neg (show ¬ (false = true) by decide)] at H; exact H
                      clear H
                      have H := H1
                      clear H1
                      have H' := Aside0.mk H
                      clear H
                      have hnb59 := NB289_290.out
                      have hnc59 := NB290_289.out
                      have hcz60_0 : wr.cell? ⟨gb289, 0, none⟩ = some (.int .i64 t292) := (blk_cell BK289.out 0).trans rfl
                      have hcz60_1 : wr.cell? ⟨gb289, 1, none⟩ = some (.slice Ao40 x290001_1.length co40) := (blk_cell BK289.out 1).trans rfl
                      have hcz60_2 : wr.cell? ⟨gb289, 2, none⟩ = some (u290002) := (blk_cell BK289.out 2).trans rfl
                      have hcz60_3 : wr.cell? ⟨gb289, 3, none⟩ = some (u290003) := (blk_cell BK289.out 3).trans rfl
                      have hcz60_4 : wr.cell? ⟨gb289, 4, none⟩ = some (.slice Ao33 t302.length co33) := (blk_cell BK289.out 4).trans rfl
                      have hcz60_5 : wr.cell? ⟨gb289, 5, none⟩ = some (u290005) := (blk_cell BK289.out 5).trans rfl
                      have hcz60_6 : wr.cell? ⟨gb289, 6, none⟩ = some (u290006) := (blk_cell BK289.out 6).trans rfl
                      have hcz60_7 : wr.cell? ⟨gb289, 7, none⟩ = some (.int .i64 t311) := (blk_cell BK289.out 7).trans rfl
                      have hcz60_8 : wr.cell? ⟨gb289, 8, none⟩ = some (.int .i64 a1) := (blk_cell BK289.out 8).trans rfl
                      have hcz60_9 : wr.cell? ⟨gb289, 9, none⟩ = some (.int .i64 t313) := (blk_cell BK289.out 9).trans rfl
                      have hfz60_0 := blk_frozen BK289.out 0
                      have hfz60_1 := blk_frozen BK289.out 1
                      have hfz60_2 := blk_frozen BK289.out 2
                      have hfz60_3 := blk_frozen BK289.out 3
                      have hfz60_4 := blk_frozen BK289.out 4
                      have hfz60_5 := blk_frozen BK289.out 5
                      have hfz60_6 := blk_frozen BK289.out 6
                      have hfz60_7 := blk_frozen BK289.out 7
                      have hfz60_8 := blk_frozen BK289.out 8
                      have hfz60_9 := blk_frozen BK289.out 9
                      obtain ⟨Ao61, co61, eo61⟩ := Kd.R_slice HO_290002.out
                      subst eo61
                      have p317 : 0 ≤ (x8_1 : Int) := of_decide_eq_true (by first | (with_reducible assumption) | assumption)
                      have q317 : x8_1 < (x290002_1.length : Int) := of_decide_eq_true (by first | (with_reducible assumption) | assumption)
                      obtain ⟨ad317, e317, hx317_0⟩ := Kd.at_bool (Kd.R_reads' HO_290002.out).2.2 x8_1 p317 q317
                      (try rw [← Nbq43.out] at hx317_0)
                      (try rw [← Nbq48.out] at hx317_0)
                      (try rw [← Nbq51.out] at hx317_0)
                      cases e317
                      replace p317 := eq_true p317
                      replace q317 := eq_true q317
                      have p318 : 0 ≤ (x8_1 : Int) := of_decide_eq_true (by first | (with_reducible assumption) | assumption)
                      have q318 : x8_1 < (x290001_1.length : Int) := of_decide_eq_true (by first | (with_reducible assumption) | assumption)
                      obtain ⟨ad318, e318, hx318_0⟩ := Kd.at_bool (Kd.R_reads' HO_290001.out).2.2 x8_1 p318 q318
                      (try rw [← Nbq43.out] at hx318_0)
                      (try rw [← Nbq48.out] at hx318_0)
                      (try rw [← Nbq51.out] at hx318_0)
                      cases e318
                      replace p318 := eq_true p318
                      replace q318 := eq_true q318
                      obtain ⟨Ao62, co62, eo62⟩ := Kd.R_slice HO_290003.out
                      subst eo62
                      have p319 : 0 ≤ (x8_1 : Int) := of_decide_eq_true (by first | (with_reducible assumption) | assumption)
                      have q319 : x8_1 < (x290003_1.length : Int) := of_decide_eq_true (by first | (with_reducible assumption) | assumption)
                      obtain ⟨ad319, e319, hx319_0⟩ := Kd.at_bool (Kd.R_reads' HO_290003.out).2.2 x8_1 p319 q319
                      (try rw [← Nbq43.out] at hx319_0)
                      (try rw [← Nbq48.out] at hx319_0)
                      (try rw [← Nbq51.out] at hx319_0)
                      cases e319
                      replace p319 := eq_true p319
                      replace q319 := eq_true q319
                      go_wp2
                      go_meet
                      case rel => exact ⟨_, (false), (by first | rfl | (simp; done) | (simp [*]; done)), H', ⟨by have := HK1.out; first | omega | exact Nat.le_refl _⟩, ⟨by (with_reducible repeat first | apply ra | apply rb | apply rc); exact HO_7.out⟩, ⟨by (with_reducible repeat first | apply ra | apply rb | apply rc); exact HO_290001.out⟩, ⟨by (with_reducible repeat first | apply ra | apply rb | apply rc); exact HO_290002.out⟩, ⟨by (with_reducible repeat first | apply ra | apply rb | apply rc); exact HO_290003.out⟩, ⟨by (with_reducible repeat first | apply ra | apply rb | apply rc); exact HO_290004.out⟩, ⟨by (with_reducible repeat first | apply ra | apply rb | apply rc); exact HO_290005.out⟩, ⟨by (with_reducible repeat first | apply ra | apply rb | apply rc); exact HO_290006.out⟩, ⟨by (with_reducible repeat first | apply ba | apply bb | apply bc); exact BK289.out⟩, ⟨by (with_reducible repeat first | apply ba | apply bb | apply bc); exact BK290.out⟩, ⟨by repeat (first | (with_reducible first | exact HK.out | apply Kept.alloc | apply Kept.drewN | apply Kept.drew | refine Kept.setCell ?_ (.inr GW289.out) _ | refine Kept.setCell ?_ (.inr GW290.out) _) | exact HK.out)⟩, ⟨by repeat (first | (with_reducible first | exact HB.out | apply below_alloc | apply pw_below_drewN | apply below_drew1 | refine below_set ?_ GE289.out | refine below_set ?_ GE290.out) | exact HB.out)⟩⟩
                  · rw [if_neg c50] at H
                    exact absurd H (by simp)
                · replace c49 := Bool.eq_false_iff.mpr c49
                  subst c49
                  have H1 : (patchbayref3_Cast_Out.j1 k1 a1 x7_1 x8_1 false t292 x290001_1 x290002_1 x290003_1 t302 x290005_1 x290006_1 t311 a1 t313) = some (r1, r2, r3, r4, r5, r6, r7, r8, r9, r10, r11, r12) := by rw [if_neg (show ¬ (false = true) by decide)] at H; exact H
                  clear H
                  have H := H1
                  clear H1
                  have H' := Aside0.mk H
                  clear H
                  have hnb63 := NB289_290.out
                  have hnc63 := NB290_289.out
                  have hcz64_0 : wr.cell? ⟨gb289, 0, none⟩ = some (.int .i64 t292) := (blk_cell BK289.out 0).trans rfl
                  have hcz64_1 : wr.cell? ⟨gb289, 1, none⟩ = some (.slice Ao40 x290001_1.length co40) := (blk_cell BK289.out 1).trans rfl
                  have hcz64_2 : wr.cell? ⟨gb289, 2, none⟩ = some (u290002) := (blk_cell BK289.out 2).trans rfl
                  have hcz64_3 : wr.cell? ⟨gb289, 3, none⟩ = some (u290003) := (blk_cell BK289.out 3).trans rfl
                  have hcz64_4 : wr.cell? ⟨gb289, 4, none⟩ = some (.slice Ao33 t302.length co33) := (blk_cell BK289.out 4).trans rfl
                  have hcz64_5 : wr.cell? ⟨gb289, 5, none⟩ = some (u290005) := (blk_cell BK289.out 5).trans rfl
                  have hcz64_6 : wr.cell? ⟨gb289, 6, none⟩ = some (u290006) := (blk_cell BK289.out 6).trans rfl
                  have hcz64_7 : wr.cell? ⟨gb289, 7, none⟩ = some (.int .i64 t311) := (blk_cell BK289.out 7).trans rfl
                  have hcz64_8 : wr.cell? ⟨gb289, 8, none⟩ = some (.int .i64 a1) := (blk_cell BK289.out 8).trans rfl
                  have hcz64_9 : wr.cell? ⟨gb289, 9, none⟩ = some (.int .i64 t313) := (blk_cell BK289.out 9).trans rfl
                  have hfz64_0 := blk_frozen BK289.out 0
                  have hfz64_1 := blk_frozen BK289.out 1
                  have hfz64_2 := blk_frozen BK289.out 2
                  have hfz64_3 := blk_frozen BK289.out 3
                  have hfz64_4 := blk_frozen BK289.out 4
                  have hfz64_5 := blk_frozen BK289.out 5
                  have hfz64_6 := blk_frozen BK289.out 6
                  have hfz64_7 := blk_frozen BK289.out 7
                  have hfz64_8 := blk_frozen BK289.out 8
                  have hfz64_9 := blk_frozen BK289.out 9
                  obtain ⟨Ao65, co65, eo65⟩ := Kd.R_slice HO_290002.out
                  subst eo65
                  have p317 : 0 ≤ (x8_1 : Int) := of_decide_eq_true (by first | (with_reducible assumption) | assumption)
                  have q317 : x8_1 < (x290002_1.length : Int) := of_decide_eq_true (by first | (with_reducible assumption) | assumption)
                  obtain ⟨ad317, e317, hx317_0⟩ := Kd.at_bool (Kd.R_reads' HO_290002.out).2.2 x8_1 p317 q317
                  (try rw [← Nbq43.out] at hx317_0)
                  (try rw [← Nbq48.out] at hx317_0)
                  cases e317
                  replace p317 := eq_true p317
                  replace q317 := eq_true q317
                  have p318 : 0 ≤ (x8_1 : Int) := of_decide_eq_true (by first | (with_reducible assumption) | assumption)
                  have q318 : x8_1 < (x290001_1.length : Int) := of_decide_eq_true (by first | (with_reducible assumption) | assumption)
                  obtain ⟨ad318, e318, hx318_0⟩ := Kd.at_bool (Kd.R_reads' HO_290001.out).2.2 x8_1 p318 q318
                  (try rw [← Nbq43.out] at hx318_0)
                  (try rw [← Nbq48.out] at hx318_0)
                  cases e318
                  replace p318 := eq_true p318
                  replace q318 := eq_true q318
                  go_wp2
                  go_meet
                  case rel => exact ⟨_, (false), (by first | rfl | (simp; done) | (simp [*]; done)), H', ⟨by have := HK1.out; first | omega | exact Nat.le_refl _⟩, ⟨by (with_reducible repeat first | apply ra | apply rb | apply rc); exact HO_7.out⟩, ⟨by (with_reducible repeat first | apply ra | apply rb | apply rc); exact HO_290001.out⟩, ⟨by (with_reducible repeat first | apply ra | apply rb | apply rc); exact HO_290002.out⟩, ⟨by (with_reducible repeat first | apply ra | apply rb | apply rc); exact HO_290003.out⟩, ⟨by (with_reducible repeat first | apply ra | apply rb | apply rc); exact HO_290004.out⟩, ⟨by (with_reducible repeat first | apply ra | apply rb | apply rc); exact HO_290005.out⟩, ⟨by (with_reducible repeat first | apply ra | apply rb | apply rc); exact HO_290006.out⟩, ⟨by (with_reducible repeat first | apply ba | apply bb | apply bc); exact BK289.out⟩, ⟨by (with_reducible repeat first | apply ba | apply bb | apply bc); exact BK290.out⟩, ⟨by repeat (first | (with_reducible first | exact HK.out | apply Kept.alloc | apply Kept.drewN | apply Kept.drew | refine Kept.setCell ?_ (.inr GW289.out) _ | refine Kept.setCell ?_ (.inr GW290.out) _) | exact HK.out)⟩, ⟨by repeat (first | (with_reducible first | exact HB.out | apply below_alloc | apply pw_below_drewN | apply below_drew1 | refine below_set ?_ GE289.out | refine below_set ?_ GE290.out) | exact HB.out)⟩⟩
            · rw [if_neg c42] at H
              exact absurd H (by simp)
          · rw [if_neg c41] at H
            exact absurd H (by simp)
         case rest =>
          clear HC37
          try clear c1
          try clear c2
          try clear p2
          try clear c3
          try clear p3
          try clear q3
          try clear hx3
          try clear c4
          try clear q4
          try clear c5
          try clear c5b0
          try clear q5
          try clear c6
          try clear c7
          try clear c14
          try clear c26
          try clear c28
          try clear p31
          try clear q31
          try clear hx31
          try clear p32
          try clear q32
          try clear hx32
          try clear c36
          try clear c36b0
          try clear c37
          try clear c38
          try clear c41
          try clear c41b0
          try clear c42
          try clear c42b0
          try clear q43
          try clear c44
          try clear c45
          try clear q48
          try clear c49
          try clear c50
          try clear c50b0
          try clear q51
          try clear c52
          try clear c53
          try clear c53b0
          try clear c54
          try clear c59
          try clear c63
          try clear hcz15_0
          try clear hcz15_1
          try clear hcz15_2
          try clear hcz15_3
          try clear hcz15_4
          try clear hcz15_5
          try clear hcz15_6
          try clear hcz15_7
          try clear hcz15_8
          try clear hcz15_9
          try clear hcz16_0
          try clear hcz16_1
          try clear hcz16_2
          try clear hcz16_3
          try clear hcz16_4
          try clear hcz16_5
          try clear hcz16_6
          try clear hcz16_7
          try clear hcz16_8
          try clear hcz16_9
          try clear hcz27_0
          try clear hcz27_1
          try clear hcz27_2
          try clear hcz27_3
          try clear hcz27_4
          try clear hcz27_5
          try clear hcz27_6
          try clear hcz27_7
          try clear hcz27_8
          try clear hcz27_9
          try clear hcz29_0
          try clear hcz29_1
          try clear hcz29_2
          try clear hcz29_3
          try clear hcz29_4
          try clear hcz29_5
          try clear hcz29_6
          try clear hcz29_7
          try clear hcz29_8
          try clear hcz29_9
          try clear hcz39_0
          try clear hcz39_1
          try clear hcz39_2
          try clear hcz39_3
          try clear hcz39_4
          try clear hcz39_5
          try clear hcz39_6
          try clear hcz39_7
          try clear hcz39_8
          try clear hcz39_9
          try clear hcz46_0
          try clear hcz46_1
          try clear hcz46_2
          try clear hcz46_3
          try clear hcz46_4
          try clear hcz46_5
          try clear hcz46_6
          try clear hcz46_7
          try clear hcz46_8
          try clear hcz46_9
          try clear hcz55_0
          try clear hcz55_1
          try clear hcz55_2
          try clear hcz55_3
          try clear hcz55_4
          try clear hcz55_5
          try clear hcz55_6
          try clear hcz55_7
          try clear hcz55_8
          try clear hcz55_9
          try clear hcz60_0
          try clear hcz60_1
          try clear hcz60_2
          try clear hcz60_3
          try clear hcz60_4
          try clear hcz60_5
          try clear hcz60_6
          try clear hcz60_7
          try clear hcz60_8
          try clear hcz60_9
          try clear hcz64_0
          try clear hcz64_1
          try clear hcz64_2
          try clear hcz64_3
          try clear hcz64_4
          try clear hcz64_5
          try clear hcz64_6
          try clear hcz64_7
          try clear hcz64_8
          try clear hcz64_9
          try clear hfz15_0
          try clear hfz15_1
          try clear hfz15_2
          try clear hfz15_3
          try clear hfz15_4
          try clear hfz15_5
          try clear hfz15_6
          try clear hfz15_7
          try clear hfz15_8
          try clear hfz15_9
          try clear hfz16_0
          try clear hfz16_1
          try clear hfz16_2
          try clear hfz16_3
          try clear hfz16_4
          try clear hfz16_5
          try clear hfz16_6
          try clear hfz16_7
          try clear hfz16_8
          try clear hfz16_9
          try clear hfz27_0
          try clear hfz27_1
          try clear hfz27_2
          try clear hfz27_3
          try clear hfz27_4
          try clear hfz27_5
          try clear hfz27_6
          try clear hfz27_7
          try clear hfz27_8
          try clear hfz27_9
          try clear hfz29_0
          try clear hfz29_1
          try clear hfz29_2
          try clear hfz29_3
          try clear hfz29_4
          try clear hfz29_5
          try clear hfz29_6
          try clear hfz29_7
          try clear hfz29_8
          try clear hfz29_9
          try clear hfz39_0
          try clear hfz39_1
          try clear hfz39_2
          try clear hfz39_3
          try clear hfz39_4
          try clear hfz39_5
          try clear hfz39_6
          try clear hfz39_7
          try clear hfz39_8
          try clear hfz39_9
          try clear hfz46_0
          try clear hfz46_1
          try clear hfz46_2
          try clear hfz46_3
          try clear hfz46_4
          try clear hfz46_5
          try clear hfz46_6
          try clear hfz46_7
          try clear hfz46_8
          try clear hfz46_9
          try clear hfz55_0
          try clear hfz55_1
          try clear hfz55_2
          try clear hfz55_3
          try clear hfz55_4
          try clear hfz55_5
          try clear hfz55_6
          try clear hfz55_7
          try clear hfz55_8
          try clear hfz55_9
          try clear hfz60_0
          try clear hfz60_1
          try clear hfz60_2
          try clear hfz60_3
          try clear hfz60_4
          try clear hfz60_5
          try clear hfz60_6
          try clear hfz60_7
          try clear hfz60_8
          try clear hfz60_9
          try clear hfz64_0
          try clear hfz64_1
          try clear hfz64_2
          try clear hfz64_3
          try clear hfz64_4
          try clear hfz64_5
          try clear hfz64_6
          try clear hfz64_7
          try clear hfz64_8
          try clear hfz64_9
          try clear hx317_0
          try clear hx318_0
          try clear hx319_0
          try clear hx320_0
          try clear p2
          try clear p317
          try clear p318
          try clear p319
          try clear p320
          try clear q317
          try clear q318
          try clear q319
          try clear q320
          obtain ⟨kq, x56_36, rfl, HA, HJ36, HO_7, HO_290001, HO_290002, HO_290003, HO_290004, HO_290005, HO_290006, BK289, BK290, HK, HB⟩ := hcut
          cases kq with
          | zero => exact absurd HA.out (by simp [patchbayref3_Cast_Out.j1])
          | succ kj36 =>
           have H := HA.out
           clear HA
           simp only [patchbayref3_Cast_Out.j1] at H
           by_cases c66 : x56_36 = true
           · subst c66
             have H1 : (if 0 ≤ x8_1 then (if x8_1 < (t302.length : Int) then (if x7_1.length < 3518437208883 then (if x8_1 < (x290002_1.length : Int) then (if x8_1 < (x290003_1.length : Int) then (patchbayref3_Cast_Out.l0 kj36 a1 (x7_1 ++ [(⟨1, t292, x8_1, rdOf ByteArray.empty t302 x8_1⟩ : S56)]) (wrap64 (x8_1 + 1)) t292 x290001_1 (x290002_1.set (x8_1 : Int).toNat false) (x290003_1.set (x8_1 : Int).toNat false) t302 x290005_1 x290006_1 t311 a1 t313) else (none)) else (none)) else (none)) else (none)) else (none)) = some (r1, r2, r3, r4, r5, r6, r7, r8, r9, r10, r11, r12) := by rw [if_pos rfl] at H; exact H
             clear H
             have H := H1
             clear H1
             by_cases c67 : 0 ≤ x8_1
             · rw [if_pos c67] at H
               have c67b0 : decide (0 ≤ x8_1) = true := decide_eq_true c67
               clear c67
               by_cases c68 : x8_1 < (t302.length : Int)
               · rw [if_pos c68] at H
                 have c68b0 : decide (x8_1 < (t302.length : Int)) = true := decide_eq_true c68
                 clear c68
                 by_cases c69 : x7_1.length < 3518437208883
                 · rw [if_pos c69] at H
                   have LMc69 := Aside0.mk c69
                   clear c69
                   obtain ⟨y322, hy322⟩ : ∃ y_ : List (S56), y_ = (x7_1 ++ [(⟨1, t292, x8_1, rdOf ByteArray.empty t302 x8_1⟩ : S56)]) := ⟨_, rfl⟩
                   replace H : (if x8_1 < (x290002_1.length : Int) then (if x8_1 < (x290003_1.length : Int) then (patchbayref3_Cast_Out.l0 kj36 a1 y322 (wrap64 (x8_1 + 1)) t292 x290001_1 (x290002_1.set (x8_1 : Int).toNat false) (x290003_1.set (x8_1 : Int).toNat false) t302 x290005_1 x290006_1 t311 a1 t313) else (none)) else (none)) = some (r1, r2, r3, r4, r5, r6, r7, r8, r9, r10, r11, r12) := by first | (rw [hy322]; with_reducible exact H) | (have H2_ := (Option.bind_some _ _).symm.trans H; rw [hy322]; with_reducible exact H2_) | (have H2_ := (Option.bind_some _ _).symm.trans H; with_reducible exact H2_) | with_reducible exact H | (rw [hy322]; exact H) | exact H
                   have Ny322 := Aside0.mk hy322
                   clear hy322
                   by_cases c70 : x8_1 < (x290002_1.length : Int)
                   · rw [if_pos c70] at H
                     have c70b0 : decide (x8_1 < (x290002_1.length : Int)) = true := decide_eq_true c70
                     clear c70
                     obtain ⟨y325, hy325⟩ : ∃ y_ : List Bool, y_ = (x290002_1.set (x8_1 : Int).toNat false) := ⟨_, rfl⟩
                     replace H : (if x8_1 < (x290003_1.length : Int) then (patchbayref3_Cast_Out.l0 kj36 a1 y322 (wrap64 (x8_1 + 1)) t292 x290001_1 y325 (x290003_1.set (x8_1 : Int).toNat false) t302 x290005_1 x290006_1 t311 a1 t313) else (none)) = some (r1, r2, r3, r4, r5, r6, r7, r8, r9, r10, r11, r12) := by first | (rw [hy325]; with_reducible exact H) | (have H2_ := (Option.bind_some _ _).symm.trans H; rw [hy325]; with_reducible exact H2_) | (have H2_ := (Option.bind_some _ _).symm.trans H; with_reducible exact H2_) | with_reducible exact H | (rw [hy325]; exact H) | exact H
                     have Ny325 := Aside0.mk hy325
                     clear hy325
                     by_cases c72 : x8_1 < (x290003_1.length : Int)
                     · rw [if_pos c72] at H
                       have c72b0 : decide (x8_1 < (x290003_1.length : Int)) = true := decide_eq_true c72
                       clear c72
                       obtain ⟨y326, hy326⟩ : ∃ y_ : List Bool, y_ = (x290003_1.set (x8_1 : Int).toNat false) := ⟨_, rfl⟩
                       replace H : (patchbayref3_Cast_Out.l0 kj36 a1 y322 (wrap64 (x8_1 + 1)) t292 x290001_1 y325 y326 t302 x290005_1 x290006_1 t311 a1 t313) = some (r1, r2, r3, r4, r5, r6, r7, r8, r9, r10, r11, r12) := by first | (rw [hy326]; with_reducible exact H) | (have H2_ := (Option.bind_some _ _).symm.trans H; rw [hy326]; with_reducible exact H2_) | (have H2_ := (Option.bind_some _ _).symm.trans H; with_reducible exact H2_) | with_reducible exact H | (rw [hy326]; exact H) | exact H
                       have Ny326 := Aside0.mk hy326
                       clear hy326
                       have H' := Aside0.mk H
                       clear H
                       try go_wp2
                       have n0_ := Aside0.mk (Kd.R_drew HO_7.out)
                       have n1_ := Aside0.mk (Kd.R_drew HO_290001.out)
                       have n2_ := Aside0.mk (Kd.R_drew HO_290002.out)
                       have n3_ := Aside0.mk (Kd.R_drew HO_290003.out)
                       have n4_ := Aside0.mk (Kd.R_drew HO_290004.out)
                       have n5_ := Aside0.mk (Kd.R_drew HO_290005.out)
                       have n6_ := Aside0.mk (Kd.R_drew HO_290006.out)
                       have n7_ := Aside0.mk (blk_drew BK289.out)
                       have n8_ := Aside0.mk (blk_drew BK290.out)
                       have n9_ := Aside0.mk (Kept.drew HK.out)
                       have n10_ := Aside0.mk (below_drew1 HB.out)
                       clear HO_7
                       clear HO_290001
                       clear HO_290002
                       clear HO_290003
                       clear HO_290004
                       clear HO_290005
                       clear HO_290006
                       clear BK289
                       clear BK290
                       clear HK
                       clear HB
                       have HO_7 := n0_
                       have HO_290001 := n1_
                       have HO_290002 := n2_
                       have HO_290003 := n3_
                       have HO_290004 := n4_
                       have HO_290005 := n5_
                       have HO_290006 := n6_
                       have BK289 := n7_
                       have BK290 := n8_
                       have HK := n9_
                       have HB := n10_
                       clear n0_ n1_ n2_ n3_ n4_ n5_ n6_ n7_ n8_ n9_ n10_
                       have p321 : 0 ≤ (x8_1 : Int) := of_decide_eq_true (by first | (with_reducible assumption) | assumption)
                       have q321 : x8_1 < (t302.length : Int) := of_decide_eq_true (by first | (with_reducible assumption) | assumption)
                       obtain ⟨ad321, e321, hx321_0⟩ := Kd.at_string (Kd.R_reads' HO_290004.out).2.2 x8_1 p321 q321
                       cases e321
                       replace p321 := eq_true p321
                       replace q321 := eq_true q321
                       refine start_ (n := 13) (S := fun w' => w'.cell? ⟨gb289, 0, none⟩ = some (.int .i64 t292) ∧ w'.cell? ⟨gb289, 1, none⟩ = some (.slice Ao40 x290001_1.length co40) ∧ w'.cell? ⟨gb289, 2, none⟩ = some (u290002) ∧ w'.cell? ⟨gb289, 3, none⟩ = some (u290003) ∧ w'.cell? ⟨gb289, 4, none⟩ = some (.slice (some ad321) t302.length co33) ∧ w'.cell? ⟨gb289, 5, none⟩ = some (u290005) ∧ w'.cell? ⟨gb289, 6, none⟩ = some (u290006) ∧ w'.cell? ⟨gb289, 7, none⟩ = some (.int .i64 t311) ∧ w'.cell? ⟨gb289, 8, none⟩ = some (.int .i64 a1) ∧ w'.cell? ⟨gb289, 9, none⟩ = some (.int .i64 t313) ∧ w'.cell? (ad321.add (x8_1).toNat) = some (.string (rdOf ByteArray.empty t302 x8_1))) (ds := [10, 11]) #[false, false, false, false, false, false, false, false, false, false, false, false, false] (by kernel_rfl) rfl rfl ⟨(blk_cell BK289.out 0).trans rfl, (blk_cell BK289.out 1).trans rfl, (blk_cell BK289.out 2).trans rfl, (blk_cell BK289.out 3).trans rfl, (blk_cell BK289.out 4).trans rfl, (blk_cell BK289.out 5).trans rfl, (blk_cell BK289.out 6).trans rfl, (blk_cell BK289.out 7).trans rfl, (blk_cell BK289.out 8).trans rfl, (blk_cell BK289.out 9).trans rfl, hx321_0⟩ (fun hHeld => ?_); refine with_tabW patchbayref3_Cast_Out.tab12 patchbayref3_Cast_Out.bits12 (fun HT_ HW_ => ?_)
                       generalize wc.drew = w74 at HO_7 HO_290001 HO_290002 HO_290003 HO_290004 HO_290005 HO_290006 BK289 BK290 HK HB hx321_0 hHeld ⊢
                       refine pure_ (i := 0) (N := some 57) (v := ?_) (a' := ?_) #[true, false, false, false, false, false, false, false, false, false, false, false, false] rfl rfl (any_of HT_.out (by kernel_rfl)) (fun _ _ _ h => h) (Or.inl ⟨by rfl, ?_⟩) ?_ ?_
                       rotate_left
                       · intro w'
                         go_simp
                         with_reducible rfl
                       rotate_left
                       · simp only [Act.put, List.setIfInBounds_toArray, List.set_cons_zero, List.set_cons_succ, i64_w, i32_w]
                         rfl
                       refine pure_ (i := 1) (N := some 58) (v := ?_) (a' := ?_) #[true, true, false, false, false, false, false, false, false, false, false, false, false] rfl rfl (any_of HT_.out (by kernel_rfl)) (fun _ _ _ h => h) (Or.inl ⟨by rfl, ?_⟩) ?_ ?_
                       rotate_left
                       · intro w'
                         go_simp
                         with_reducible rfl
                       rotate_left
                       · simp only [Act.put, List.setIfInBounds_toArray, List.set_cons_zero, List.set_cons_succ, i64_w, i32_w]
                         rfl
                       refine pure_ (i := 3) (N := some 60) (v := ?_) (a' := ?_) #[true, true, false, true, false, false, false, false, false, false, false, false, false] rfl rfl (any_of HT_.out (by kernel_rfl)) (fun _ _ _ h => h) (Or.inl ⟨by rfl, ?_⟩) ?_ ?_
                       rotate_left
                       · intro w'
                         go_simp
                         with_reducible rfl
                       rotate_left
                       · simp only [Act.put, List.setIfInBounds_toArray, List.set_cons_zero, List.set_cons_succ, i64_w, i32_w]
                         rfl
                       refine pure_ (i := 4) (N := some 61) (v := ?_) (a' := ?_) #[true, true, false, true, true, false, false, false, false, false, false, false, false] rfl rfl (any_of HT_.out (by kernel_rfl)) (fun _ _ _ h => h) (Or.inl ⟨by rfl, ?_⟩) ?_ ?_
                       rotate_left
                       · intro w'
                         go_simp
                         with_reducible rfl
                       rotate_left
                       · simp only [Act.put, List.setIfInBounds_toArray, List.set_cons_zero, List.set_cons_succ, i64_w, i32_w]
                         rfl
                       refine pure_ (i := 6) (N := some 63) (v := ?_) (a' := ?_) #[true, true, false, true, true, false, true, false, false, false, false, false, false] rfl rfl (any_of HT_.out (by kernel_rfl)) (fun _ _ _ h => h) (Or.inl ⟨by rfl, ?_⟩) ?_ ?_
                       rotate_left
                       · intro w'
                         go_simp
                         with_reducible rfl
                       rotate_left
                       · simp only [Act.put, List.setIfInBounds_toArray, List.set_cons_zero, List.set_cons_succ, i64_w, i32_w]
                         rfl
                       refine take_ (i := 2) (N := some 59) (v := ?_) (a' := ?_) #[true, true, true, true, true, false, true, false, false, false, false, false, false] rfl rfl (take_ofW HT_.out HW_.out (by kernel_rfl)) (fun _ _ _ h => h) (Or.inl ⟨by rfl, ?_⟩) hHeld ?_ ?_
                       rotate_left
                       · rintro w' ⟨s0, s1, s2, s3, s4, s5, s6, s7, s8, s9, s10⟩
                         go_simp
                         with_reducible rfl
                       rotate_left
                       · simp only [Act.put, List.setIfInBounds_toArray, List.set_cons_zero, List.set_cons_succ, i64_w, i32_w]
                         rfl
                       refine take_ (i := 5) (N := some 62) (v := ?_) (a' := ?_) #[true, true, true, true, true, true, true, false, false, false, false, false, false] rfl rfl (take_ofW HT_.out HW_.out (by kernel_rfl)) (fun _ _ _ h => h) (Or.inl ⟨by rfl, ?_⟩) hHeld ?_ ?_
                       rotate_left
                       · rintro w' ⟨s0, s1, s2, s3, s4, s5, s6, s7, s8, s9, s10⟩
                         go_simp
                         with_reducible rfl
                       rotate_left
                       · simp only [Act.put, List.setIfInBounds_toArray, List.set_cons_zero, List.set_cons_succ, i64_w, i32_w]
                         rfl
                       refine pure_ (i := 7) (N := some 64) (v := ?_) (a' := ?_) #[true, true, true, true, true, true, true, true, false, false, false, false, false] rfl rfl (any_of HT_.out (by kernel_rfl)) (fun _ _ _ h => h) (Or.inl ⟨by rfl, ?_⟩) ?_ ?_
                       rotate_left
                       · intro w'
                         go_simp
                         with_reducible rfl
                       rotate_left
                       · simp only [Act.put, List.setIfInBounds_toArray, List.set_cons_zero, List.set_cons_succ, i64_w, i32_w]
                         rfl
                       refine take_ (i := 8) (N := some 65) (v := ?_) (a' := ?_) #[true, true, true, true, true, true, true, true, true, false, false, false, false] rfl rfl (take_ofW HT_.out HW_.out (by kernel_rfl)) (fun _ _ _ h => h) (Or.inl ⟨by rfl, ?_⟩) hHeld ?_ ?_
                       rotate_left
                       · rintro w' ⟨s0, s1, s2, s3, s4, s5, s6, s7, s8, s9, s10⟩
                         go_simp
                         with_reducible rfl
                       rotate_left
                       · simp only [Act.put, List.setIfInBounds_toArray, List.set_cons_zero, List.set_cons_succ, i64_w, i32_w]
                         rfl
                       refine pure_ (i := 9) (N := some 66) (v := ?_) (a' := ?_) #[true, true, true, true, true, true, true, true, true, true, false, false, false] rfl rfl (any_of HT_.out (by kernel_rfl)) (fun _ _ _ h => h) (Or.inl ⟨by rfl, ?_⟩) ?_ ?_
                       rotate_left
                       · intro w'
                         go_simp
                         with_reducible rfl
                       rotate_left
                       · simp only [Act.put, List.setIfInBounds_toArray, List.set_cons_zero, List.set_cons_succ, i64_w, i32_w]
                         rfl
                       refine last_ (i := 10) (N := some 67) #[true, true, true, true, true, true, true, true, true, true, true, false, false] rfl rfl (one_of HT_.out (by kernel_rfl)) (by decide) (fun K hK => ?_)
                       refine value_ (w1 := ?_) (v := ?_) (by rfl) rfl ?_ ?_
                       rotate_left 2
                       · go_simp
                         constructor
                         · rfl
                         · rfl
                       refine hK.out _ _ ?_
                       clear hK K
                       refine norm_ (a' := ?_) ?_ ?_
                       rotate_left
                       · show Act.put _ (some 67) _ = _
                         simp only [Act.put, List.setIfInBounds_toArray, List.set_cons_zero, List.set_cons_succ, i64_w, i32_w]
                         rfl
                       refine last_ (i := 11) (N := some 68) #[true, true, true, true, true, true, true, true, true, true, true, true, false] rfl rfl (one_of HT_.out (by kernel_rfl)) (by decide) (fun K hK => ?_)
                       refine Kd.R_append_step k56 (w0 := w0) w0.heap.size (by rfl) (.tmp 57) (.tmp 67) 48 56 (.agg #[(.int .i64 0), (.int .i64 0), (.int .i64 0), (.string ⟨#[]⟩)]) 40 rfl Try.underlying48 info56 rfl (by decide) (by omega) u7 x7_1 (⟨1, t292, x8_1, rdOf ByteArray.empty t302 x8_1⟩ : S56) [.int .i64 1, .int .i64 t292, .int .i64 x8_1, .string (rdOf ByteArray.empty t302 x8_1)] (fun k_ => ((P0_1_ k_ ∨ P0_2_ k_ ∨ P0_3_ k_ ∨ P0_4_ k_ ∨ P0_5_ k_ ∨ P0_6_ k_) ∨ w.heap.size ≤ k_)) (fun _ => False) rfl rfl ?aP (fun _ hk => hk.elim) ?aF ?aO ?aB ?aS ?aL ?_
                       (case aP => exact k56_mkM _ _ _ (⟨1, t292, x8_1, rdOf ByteArray.empty t302 x8_1⟩ : S56))
                       (case aB => exact (by repeat (first | (with_reducible first | exact HB.out | apply below_alloc | apply pw_below_drewN | apply below_drew1 | refine below_set ?_ GE289.out | refine below_set ?_ GE290.out) | exact HB.out)))
                       (case aF => exact (fun k_ hk => (.inr (Nat.le_trans (by first | exact HK.out.1 | exact (show Kept w _ (fun k_ => P0_1_ k_ ∨ P0_2_ k_ ∨ P0_3_ k_ ∨ P0_4_ k_ ∨ P0_5_ k_ ∨ P0_6_ k_) from by repeat (first | (with_reducible first | exact HK.out | apply Kept.alloc | apply Kept.drewN | apply Kept.drew | refine Kept.setCell ?_ (.inr GW289.out) _ | refine Kept.setCell ?_ (.inr GW290.out) _) | exact HK.out)).1) hk))))
                       (case aO => exact (by (with_reducible repeat first | apply ra | apply rb | apply rc); exact HO_7.out))
                       (case aS => exact (below_size (by repeat (first | (with_reducible first | exact HB.out | apply below_alloc | apply pw_below_drewN | apply below_drew1 | refine below_set ?_ GE289.out | refine below_set ?_ GE290.out) | exact HB.out))))
                       (case aL => have := LMc69.out; omega)
                       intro v323 w75 ho hb hg hat
                       rw [← Ny322.out] at ho
                       have n0_ := Aside0.mk (Kd.R_over' (by (with_reducible repeat first | apply ra | apply rb | apply rc); exact HO_290001.out) (Kd.R_typed (by (with_reducible repeat first | apply ra | apply rb | apply rc); exact HO_7.out)) (by decide) hg)
                       have n1_ := Aside0.mk (Kd.R_over' (by (with_reducible repeat first | apply ra | apply rb | apply rc); exact HO_290002.out) (Kd.R_typed (by (with_reducible repeat first | apply ra | apply rb | apply rc); exact HO_7.out)) (by decide) hg)
                       have n2_ := Aside0.mk (Kd.R_over' (by (with_reducible repeat first | apply ra | apply rb | apply rc); exact HO_290003.out) (Kd.R_typed (by (with_reducible repeat first | apply ra | apply rb | apply rc); exact HO_7.out)) (by decide) hg)
                       have n3_ := Aside0.mk (Kd.R_over' (by (with_reducible repeat first | apply ra | apply rb | apply rc); exact HO_290004.out) (Kd.R_typed (by (with_reducible repeat first | apply ra | apply rb | apply rc); exact HO_7.out)) (by decide) hg)
                       have n4_ := Aside0.mk (Kd.R_over' (by (with_reducible repeat first | apply ra | apply rb | apply rc); exact HO_290005.out) (Kd.R_typed (by (with_reducible repeat first | apply ra | apply rb | apply rc); exact HO_7.out)) (by decide) hg)
                       have n5_ := Aside0.mk (Kd.R_over' (by (with_reducible repeat first | apply ra | apply rb | apply rc); exact HO_290006.out) (Kd.R_typed (by (with_reducible repeat first | apply ra | apply rb | apply rc); exact HO_7.out)) (by decide) hg)
                       have n6_ := Aside0.mk (blk_grown (g := gb289) (o := .cells #[.int .i64 t292, .slice Ao40 x290001_1.length co40, u290002, u290003, .slice (some ad321) t302.length co33, u290005, u290006, .int .i64 t311, .int .i64 a1, .int .i64 t313] 54 (0, 0)) (by (with_reducible repeat first | apply ba | apply bb | apply bc); exact BK289.out) hg (Kd.R_ne HO_7.out BK289.out (by decide)))
                       have n7_ := Aside0.mk (blk_grown (g := gb290) (o := .cells #[.int .i64 0, .slice none 0 0, .slice none 0 0, .slice none 0 0, .slice none 0 0, .slice none 0 0, .slice none 0 0, .int .i64 0, .int .i64 0, .int .i64 0] 54 (0, 0)) (by (with_reducible repeat first | apply ba | apply bb | apply bc); exact BK290.out) hg (Kd.R_ne HO_7.out BK290.out (by decide)))
                       have n8_ := Aside0.mk (hb)
                       have n9_ := Aside0.mk (Kept.of_grown (S := (fun k_ => P0_1_ k_ ∨ P0_2_ k_ ∨ P0_3_ k_ ∨ P0_4_ k_ ∨ P0_5_ k_ ∨ P0_6_ k_)) hg (by repeat (first | (with_reducible first | exact HK.out | apply Kept.alloc | apply Kept.drewN | apply Kept.drew | refine Kept.setCell ?_ (.inr GW289.out) _ | refine Kept.setCell ?_ (.inr GW290.out) _) | exact HK.out)) (fun k_ e_ => (HO_7.out.1 k_ e_)))
                       have n10_ := Aside0.mk (ho)
                       clear HO_290001
                       clear HO_290002
                       clear HO_290003
                       clear HO_290004
                       clear HO_290005
                       clear HO_290006
                       clear BK289
                       clear BK290
                       clear HB
                       clear HK
                       clear HO_7
                       have HO_290001 := n0_
                       have HO_290002 := n1_
                       have HO_290003 := n2_
                       have HO_290004 := n3_
                       have HO_290005 := n4_
                       have HO_290006 := n5_
                       have BK289 := n6_
                       have BK290 := n7_
                       have HB := n8_
                       have HK := n9_
                       have HO324 := n10_
                       clear n0_ n1_ n2_ n3_ n4_ n5_ n6_ n7_ n8_ n9_ n10_
                       clear ho hb hg hat
                       refine hK.out _ _ ?_
                       clear hK K
                       refine norm_ (a' := ?_) ?_ ?_
                       rotate_left
                       · show Act.put _ (some 68) _ = _
                         simp only [Act.put, List.setIfInBounds_toArray, List.set_cons_zero, List.set_cons_succ, i64_w, i32_w]
                         rfl
                       refine pure_ (i := 12) (N := some 7) (v := ?_) (a' := ?_) #[true, true, true, true, true, true, true, true, true, true, true, true, true] rfl rfl (any_of HT_.out (by kernel_rfl)) (fun _ _ _ h => h) (Or.inl ⟨by rfl, ?_⟩) ?_ ?_
                       rotate_left
                       · intro w'
                         go_simp
                         with_reducible rfl
                       rotate_left
                       · simp only [Act.put, List.setIfInBounds_toArray, List.set_cons_zero, List.set_cons_succ, i64_w, i32_w]
                         rfl
                       refine done_ (done_of HT_.out (by kernel_rfl)) ?_
                       have hnb76 := NB289_290.out
                       have hnc76 := NB290_289.out
                       have hcz77_0 : w75.cell? ⟨gb289, 0, none⟩ = some (.int .i64 t292) := (blk_cell BK289.out 0).trans rfl
                       have hcz77_1 : w75.cell? ⟨gb289, 1, none⟩ = some (.slice Ao40 x290001_1.length co40) := (blk_cell BK289.out 1).trans rfl
                       have hcz77_2 : w75.cell? ⟨gb289, 2, none⟩ = some (u290002) := (blk_cell BK289.out 2).trans rfl
                       have hcz77_3 : w75.cell? ⟨gb289, 3, none⟩ = some (u290003) := (blk_cell BK289.out 3).trans rfl
                       have hcz77_4 : w75.cell? ⟨gb289, 4, none⟩ = some (.slice (some ad321) t302.length co33) := (blk_cell BK289.out 4).trans rfl
                       have hcz77_5 : w75.cell? ⟨gb289, 5, none⟩ = some (u290005) := (blk_cell BK289.out 5).trans rfl
                       have hcz77_6 : w75.cell? ⟨gb289, 6, none⟩ = some (u290006) := (blk_cell BK289.out 6).trans rfl
                       have hcz77_7 : w75.cell? ⟨gb289, 7, none⟩ = some (.int .i64 t311) := (blk_cell BK289.out 7).trans rfl
                       have hcz77_8 : w75.cell? ⟨gb289, 8, none⟩ = some (.int .i64 a1) := (blk_cell BK289.out 8).trans rfl
                       have hcz77_9 : w75.cell? ⟨gb289, 9, none⟩ = some (.int .i64 t313) := (blk_cell BK289.out 9).trans rfl
                       have hfz77_0 := blk_frozen BK289.out 0
                       have hfz77_1 := blk_frozen BK289.out 1
                       have hfz77_2 := blk_frozen BK289.out 2
                       have hfz77_3 := blk_frozen BK289.out 3
                       have hfz77_4 := blk_frozen BK289.out 4
                       have hfz77_5 := blk_frozen BK289.out 5
                       have hfz77_6 := blk_frozen BK289.out 6
                       have hfz77_7 := blk_frozen BK289.out 7
                       have hfz77_8 := blk_frozen BK289.out 8
                       have hfz77_9 := blk_frozen BK289.out 9
                       have p71 : 0 ≤ (x8_1 : Int) := of_decide_eq_true (by first | (with_reducible assumption) | assumption)
                       have q71 : (x8_1 : Int) < ((x290002_1.length : Int) : Int) := of_decide_eq_true (by first | (with_reducible assumption) | assumption)
                       obtain ⟨go71, co71, eo71, gb71, gl71, cl71, HG71⟩ := Kd.R_form HO_290002.out (by omega)
                       (first | cases eo71 | (injection eo71 with ea_ en_ ec_; (first | subst ea_ | (injection ea_ with ea_; subst ea_)); subst ec_; clear en_))
                       have GB71 := Aside0.mk gb71
                       have GG71 := Aside0.mk HG71
                       clear gb71 gl71 HG71
                       have HMgo71 := Aside0.mk (show ((P0_1_ go71 ∨ P0_2_ go71 ∨ P0_3_ go71 ∨ P0_4_ go71 ∨ P0_5_ go71 ∨ P0_6_ go71) ∨ w.heap.size ≤ go71) from (HO_290002.out.1 _ rfl).1)
                       obtain ⟨hx71_0, hf71_0⟩ := Kd.R_celln false HO_290002.out (x8_1 : Int) p71 q71
                       replace p71 := eq_true p71
                       replace q71 := eq_true q71
                       obtain ⟨hy78_, hz78_⟩ := Kd.R_celln false HO_290002.out (x8_1 : Int) (of_decide_eq_true (by first | (with_reducible assumption) | assumption)) (of_decide_eq_true (by first | (with_reducible assumption) | assumption))
                       have HP78 := Kd.R_putg HO_290002.out (x8_1 : Int) false
                       try go_wp2_with (first | ((with_reducible refine gate_store (t := 4) (p := 72) rfl ?_); refine store_event (t := 4) (p := 72) (v := ?vo_w79) (w1 := (w75.setCell ⟨go71, (x8_1 : Int).toNat, none⟩ (.bool false))) ?hg ?ho ?hn ?hr ?_; (case ho => rfl); (case hg => rfl); (case hn => rfl); (case hr => first | (go_simp; done) | (go_simp; rfl)); intro w79 hw; have hg : w75.grownBy w79 (some go71) := (by rw [hw]; exact HP78.2); have hp_ : Kd.R Kd.bool 4 w79 w0.heap.size (fun k_ => ((P0_1_ k_ ∨ P0_2_ k_ ∨ P0_3_ k_ ∨ P0_4_ k_ ∨ P0_5_ k_ ∨ P0_6_ k_) ∨ w.heap.size ≤ k_) ∧ some k_ ≠ (.slice Ao40 x290001_1.length co40 : Value).ownBlock ∧ some k_ ≠ (u290003 : Value).ownBlock) (.slice (some ⟨go71, 0, none⟩) x290002_1.length co71) y325 := (by rw [hw, Ny325.out]; exact HP78.1); clear HP78; have n0_ := Aside0.mk (Kd.R_after (v := (.slice (some ⟨go71, 0, none⟩) x290002_1.length co71)) (v1 := (.slice (some ⟨go71, 0, none⟩) x290002_1.length co71)) (ok := (fun k_ => ((P0_1_ k_ ∨ P0_2_ k_ ∨ P0_3_ k_ ∨ P0_4_ k_ ∨ P0_5_ k_ ∨ P0_6_ k_) ∨ w.heap.size ≤ k_) ∧ some k_ ≠ (u290003 : Value).ownBlock)) (by (with_reducible repeat first | apply ra | apply rb | apply rc); exact Kd.R_mono HO_290001.out (fun _ hk => ⟨⟨hk.1, hk.2.2⟩, hk.2.1⟩)) hg (.inl rfl)); have n1_ := Aside0.mk (hp_); have n2_ := Aside0.mk (Kd.R_after (v := (.slice (some ⟨go71, 0, none⟩) x290002_1.length co71)) (v1 := (.slice (some ⟨go71, 0, none⟩) x290002_1.length co71)) (ok := (fun k_ => ((P0_1_ k_ ∨ P0_2_ k_ ∨ P0_3_ k_ ∨ P0_4_ k_ ∨ P0_5_ k_ ∨ P0_6_ k_) ∨ w.heap.size ≤ k_) ∧ some k_ ≠ (.slice Ao40 x290001_1.length co40 : Value).ownBlock)) (by (with_reducible repeat first | apply ra | apply rb | apply rc); exact Kd.R_mono HO_290003.out (fun _ hk => ⟨⟨hk.1, hk.2.1⟩, hk.2.2⟩)) hg (.inl rfl)); have n3_ := Aside0.mk (Kd.R_over' (v := (.slice (some ⟨go71, 0, none⟩) x290002_1.length co71)) (by (with_reducible repeat first | apply ra | apply rb | apply rc); exact HO_290004.out) (Kd.R_typed HO_290002.out) (by decide) hg); have n4_ := Aside0.mk (Kd.R_over' (v := (.slice (some ⟨go71, 0, none⟩) x290002_1.length co71)) (by (with_reducible repeat first | apply ra | apply rb | apply rc); exact HO_290005.out) (Kd.R_typed HO_290002.out) (by decide) hg); have n5_ := Aside0.mk (Kd.R_over' (v := (.slice (some ⟨go71, 0, none⟩) x290002_1.length co71)) (by (with_reducible repeat first | apply ra | apply rb | apply rc); exact HO_290006.out) (Kd.R_typed HO_290002.out) (by decide) hg); have n6_ := Aside0.mk (blk_grown (g := gb289) (o := .cells #[.int .i64 t292, .slice Ao40 x290001_1.length co40, .slice (some ⟨go71, 0, none⟩) x290002_1.length co71, u290003, .slice (some ad321) t302.length co33, u290005, u290006, .int .i64 t311, .int .i64 a1, .int .i64 t313] 54 (0, 0)) (by (with_reducible repeat first | apply ba | apply bb | apply bc); exact BK289.out) hg (Kd.R_ne HO_290002.out BK289.out (by decide))); have n7_ := Aside0.mk (blk_grown (g := gb290) (o := .cells #[.int .i64 0, .slice none 0 0, .slice none 0 0, .slice none 0 0, .slice none 0 0, .slice none 0 0, .slice none 0 0, .int .i64 0, .int .i64 0, .int .i64 0] 54 (0, 0)) (by (with_reducible repeat first | apply ba | apply bb | apply bc); exact BK290.out) hg (Kd.R_ne HO_290002.out BK290.out (by decide))); have n8_ := Aside0.mk (Kd.R_over' (v := (.slice (some ⟨go71, 0, none⟩) x290002_1.length co71)) (by (with_reducible repeat first | apply ra | apply rb | apply rc); exact HO324.out) (Kd.R_typed HO_290002.out) (by decide) hg); have n9_ := Aside0.mk ((by rw [hw]; exact below_set (HB.out) GB71.out : Below w0.heap.size w0 w79)); have n10_ := Aside0.mk (Kept.of_grown (S := (fun k_ => P0_1_ k_ ∨ P0_2_ k_ ∨ P0_3_ k_ ∨ P0_4_ k_ ∨ P0_5_ k_ ∨ P0_6_ k_)) hg (by repeat (first | (with_reducible first | exact HK.out | apply Kept.alloc | apply Kept.drewN | apply Kept.drew | refine Kept.setCell ?_ (.inr GW289.out) _ | refine Kept.setCell ?_ (.inr GW290.out) _) | exact HK.out)) (fun k_ e_ => (HO_290002.out.1 k_ e_).1)); clear HO_290001; clear HO_290002; clear HO_290003; clear HO_290004; clear HO_290005; clear HO_290006; clear BK289; clear BK290; clear HO324; clear HB; clear HK; have HO_290001 := n0_; have HO_290002 := n1_; have HO_290003 := n2_; have HO_290004 := n3_; have HO_290005 := n4_; have HO_290006 := n5_; have BK289 := n6_; have BK290 := n7_; have HO324 := n8_; have HB := n9_; have HK := n10_; clear n0_ n1_ n2_ n3_ n4_ n5_ n6_ n7_ n8_ n9_ n10_; clear hg hw hp_; have hcz80_0 : w79.cell? ⟨gb289, 0, none⟩ = some (.int .i64 t292) := (blk_cell BK289.out 0).trans rfl; have hcz80_1 : w79.cell? ⟨gb289, 1, none⟩ = some (.slice Ao40 x290001_1.length co40) := (blk_cell BK289.out 1).trans rfl; have hcz80_2 : w79.cell? ⟨gb289, 2, none⟩ = some (.slice (some ⟨go71, 0, none⟩) x290002_1.length co71) := (blk_cell BK289.out 2).trans rfl; have hcz80_3 : w79.cell? ⟨gb289, 3, none⟩ = some (u290003) := (blk_cell BK289.out 3).trans rfl; have hcz80_4 : w79.cell? ⟨gb289, 4, none⟩ = some (.slice (some ad321) t302.length co33) := (blk_cell BK289.out 4).trans rfl; have hcz80_5 : w79.cell? ⟨gb289, 5, none⟩ = some (u290005) := (blk_cell BK289.out 5).trans rfl; have hcz80_6 : w79.cell? ⟨gb289, 6, none⟩ = some (u290006) := (blk_cell BK289.out 6).trans rfl; have hcz80_7 : w79.cell? ⟨gb289, 7, none⟩ = some (.int .i64 t311) := (blk_cell BK289.out 7).trans rfl; have hcz80_8 : w79.cell? ⟨gb289, 8, none⟩ = some (.int .i64 a1) := (blk_cell BK289.out 8).trans rfl; have hcz80_9 : w79.cell? ⟨gb289, 9, none⟩ = some (.int .i64 t313) := (blk_cell BK289.out 9).trans rfl; have hfz80_0 := blk_frozen BK289.out 0; have hfz80_1 := blk_frozen BK289.out 1; have hfz80_2 := blk_frozen BK289.out 2; have hfz80_3 := blk_frozen BK289.out 3; have hfz80_4 := blk_frozen BK289.out 4; have hfz80_5 := blk_frozen BK289.out 5; have hfz80_6 := blk_frozen BK289.out 6; have hfz80_7 := blk_frozen BK289.out 7; have hfz80_8 := blk_frozen BK289.out 8; have hfz80_9 := blk_frozen BK289.out 9; have p73 : 0 ≤ (x8_1 : Int) := of_decide_eq_true (by first | (with_reducible assumption) | assumption); have q73 : (x8_1 : Int) < ((x290003_1.length : Int) : Int) := of_decide_eq_true (by first | (with_reducible assumption) | assumption); obtain ⟨go73, co73, eo73, gb73, gl73, cl73, HG73⟩ := Kd.R_form HO_290003.out (by omega); (first | cases eo73 | (injection eo73 with ea_ en_ ec_; (first | subst ea_ | (injection ea_ with ea_; subst ea_)); subst ec_; clear en_)); have GB73 := Aside0.mk gb73; have GG73 := Aside0.mk HG73; clear gb73 gl73 HG73; have HMgo73 := Aside0.mk (show ((P0_1_ go73 ∨ P0_2_ go73 ∨ P0_3_ go73 ∨ P0_4_ go73 ∨ P0_5_ go73 ∨ P0_6_ go73) ∨ w.heap.size ≤ go73) from (HO_290003.out.1 _ rfl).1.1); obtain ⟨hx73_0, hf73_0⟩ := Kd.R_celln false HO_290003.out (x8_1 : Int) p73 q73; replace p73 := eq_true p73; replace q73 := eq_true q73; have n_ := Aside0.mk (Kd.R_mono (ok' := (fun k_ => ((P0_1_ k_ ∨ P0_2_ k_ ∨ P0_3_ k_ ∨ P0_4_ k_ ∨ P0_5_ k_ ∨ P0_6_ k_) ∨ w.heap.size ≤ k_) ∧ some k_ ≠ (.slice Ao40 x290001_1.length co40 : Value).ownBlock ∧ some k_ ≠ (.slice (some ⟨go71, 0, none⟩) x290002_1.length co71 : Value).ownBlock)) HO_290003.out (fun k_ hk => ⟨hk.1.1, ⟨hk.1.2, hk.2⟩⟩)); clear HO_290003; have HO_290003 := n_; clear n_; obtain ⟨hy81_, hz81_⟩ := Kd.R_celln false HO_290003.out (x8_1 : Int) (of_decide_eq_true (by first | (with_reducible assumption) | assumption)) (of_decide_eq_true (by first | (with_reducible assumption) | assumption)); have HP81 := Kd.R_putg HO_290003.out (x8_1 : Int) false) | ((with_reducible refine gate_store (t := 4) (p := 76) rfl ?_); refine store_event (t := 4) (p := 76) (v := ?vo_w82) (w1 := (w79.setCell ⟨go73, (x8_1 : Int).toNat, none⟩ (.bool false))) ?hg ?ho ?hn ?hr ?_; (case ho => rfl); (case hg => rfl); (case hn => rfl); (case hr => first | (go_simp; done) | (go_simp; rfl)); intro w82 hw; have hg : w79.grownBy w82 (some go73) := (by rw [hw]; exact HP81.2); have hp_ : Kd.R Kd.bool 4 w82 w0.heap.size (fun k_ => ((P0_1_ k_ ∨ P0_2_ k_ ∨ P0_3_ k_ ∨ P0_4_ k_ ∨ P0_5_ k_ ∨ P0_6_ k_) ∨ w.heap.size ≤ k_) ∧ some k_ ≠ (.slice Ao40 x290001_1.length co40 : Value).ownBlock ∧ some k_ ≠ (.slice (some ⟨go71, 0, none⟩) x290002_1.length co71 : Value).ownBlock) (.slice (some ⟨go73, 0, none⟩) x290003_1.length co73) y326 := (by rw [hw, Ny326.out]; exact HP81.1); clear HP81; have n0_ := Aside0.mk (Kd.R_after (v := (.slice (some ⟨go73, 0, none⟩) x290003_1.length co73)) (v1 := (.slice (some ⟨go73, 0, none⟩) x290003_1.length co73)) (ok := (fun k_ => ((P0_1_ k_ ∨ P0_2_ k_ ∨ P0_3_ k_ ∨ P0_4_ k_ ∨ P0_5_ k_ ∨ P0_6_ k_) ∨ w.heap.size ≤ k_) ∧ some k_ ≠ (.slice (some ⟨go71, 0, none⟩) x290002_1.length co71 : Value).ownBlock)) (by (with_reducible repeat first | apply ra | apply rb | apply rc); exact Kd.R_mono HO_290001.out (fun _ hk => ⟨⟨hk.1.1, hk.2⟩, hk.1.2⟩)) hg (.inl rfl)); have n1_ := Aside0.mk (Kd.R_after (v := (.slice (some ⟨go73, 0, none⟩) x290003_1.length co73)) (v1 := (.slice (some ⟨go73, 0, none⟩) x290003_1.length co73)) (ok := (fun k_ => ((P0_1_ k_ ∨ P0_2_ k_ ∨ P0_3_ k_ ∨ P0_4_ k_ ∨ P0_5_ k_ ∨ P0_6_ k_) ∨ w.heap.size ≤ k_) ∧ some k_ ≠ (.slice Ao40 x290001_1.length co40 : Value).ownBlock)) (by (with_reducible repeat first | apply ra | apply rb | apply rc); exact Kd.R_mono HO_290002.out (fun _ hk => ⟨⟨hk.1, hk.2.1⟩, hk.2.2⟩)) hg (.inl rfl)); have n2_ := Aside0.mk (hp_); have n3_ := Aside0.mk (Kd.R_over' (v := (.slice (some ⟨go73, 0, none⟩) x290003_1.length co73)) (by (with_reducible repeat first | apply ra | apply rb | apply rc); exact HO_290004.out) (Kd.R_typed HO_290003.out) (by decide) hg); have n4_ := Aside0.mk (Kd.R_over' (v := (.slice (some ⟨go73, 0, none⟩) x290003_1.length co73)) (by (with_reducible repeat first | apply ra | apply rb | apply rc); exact HO_290005.out) (Kd.R_typed HO_290003.out) (by decide) hg); have n5_ := Aside0.mk (Kd.R_over' (v := (.slice (some ⟨go73, 0, none⟩) x290003_1.length co73)) (by (with_reducible repeat first | apply ra | apply rb | apply rc); exact HO_290006.out) (Kd.R_typed HO_290003.out) (by decide) hg); have n6_ := Aside0.mk (blk_grown (g := gb289) (o := .cells #[.int .i64 t292, .slice Ao40 x290001_1.length co40, .slice (some ⟨go71, 0, none⟩) x290002_1.length co71, .slice (some ⟨go73, 0, none⟩) x290003_1.length co73, .slice (some ad321) t302.length co33, u290005, u290006, .int .i64 t311, .int .i64 a1, .int .i64 t313] 54 (0, 0)) (by (with_reducible repeat first | apply ba | apply bb | apply bc); exact BK289.out) hg (Kd.R_ne HO_290003.out BK289.out (by decide))); have n7_ := Aside0.mk (blk_grown (g := gb290) (o := .cells #[.int .i64 0, .slice none 0 0, .slice none 0 0, .slice none 0 0, .slice none 0 0, .slice none 0 0, .slice none 0 0, .int .i64 0, .int .i64 0, .int .i64 0] 54 (0, 0)) (by (with_reducible repeat first | apply ba | apply bb | apply bc); exact BK290.out) hg (Kd.R_ne HO_290003.out BK290.out (by decide))); have n8_ := Aside0.mk (Kd.R_over' (v := (.slice (some ⟨go73, 0, none⟩) x290003_1.length co73)) (by (with_reducible repeat first | apply ra | apply rb | apply rc); exact HO324.out) (Kd.R_typed HO_290003.out) (by decide) hg); have n9_ := Aside0.mk ((by rw [hw]; exact below_set (HB.out) GB73.out : Below w0.heap.size w0 w82)); have n10_ := Aside0.mk (Kept.of_grown (S := (fun k_ => P0_1_ k_ ∨ P0_2_ k_ ∨ P0_3_ k_ ∨ P0_4_ k_ ∨ P0_5_ k_ ∨ P0_6_ k_)) hg (by repeat (first | (with_reducible first | exact HK.out | apply Kept.alloc | apply Kept.drewN | apply Kept.drew | refine Kept.setCell ?_ (.inr GW289.out) _ | refine Kept.setCell ?_ (.inr GW290.out) _) | exact HK.out)) (fun k_ e_ => (HO_290003.out.1 k_ e_).1)); clear HO_290001; clear HO_290002; clear HO_290003; clear HO_290004; clear HO_290005; clear HO_290006; clear BK289; clear BK290; clear HO324; clear HB; clear HK; have HO_290001 := n0_; have HO_290002 := n1_; have HO_290003 := n2_; have HO_290004 := n3_; have HO_290005 := n4_; have HO_290006 := n5_; have BK289 := n6_; have BK290 := n7_; have HO324 := n8_; have HB := n9_; have HK := n10_; clear n0_ n1_ n2_ n3_ n4_ n5_ n6_ n7_ n8_ n9_ n10_; clear hg hw hp_))
                       go_roundg kj36
                       case measure => have := HK1.out; have := HJ36.out; omega
                       case rel => exact ⟨(y322), (wrap64 (x8_1 + 1)), (x290001_1), (y325), (y326), (x290005_1), (x290006_1), (.slice Ao40 x290001_1.length co40), (.slice (some ⟨go71, 0, none⟩) x290002_1.length co71), (.slice (some ⟨go73, 0, none⟩) x290003_1.length co73), (u290005), (u290006), (by first | rfl | (simp; done) | (simp [*]; done)), H', ⟨by have := HK1.out; have := HJ36.out; omega⟩, ⟨by (with_reducible repeat first | apply ra | apply rb | apply rc); exact HO324.out⟩, ⟨by (with_reducible repeat first | apply ra | apply rb | apply rc); exact Kd.R_mono HO_290001.out (fun _ hk => ⟨hk.1.1, ⟨hk.1.2, hk.2⟩⟩)⟩, ⟨by (with_reducible repeat first | apply ra | apply rb | apply rc); exact Kd.R_mono HO_290002.out (fun _ hk => ⟨hk.1.1, ⟨hk.1.2, hk.2⟩⟩)⟩, ⟨by (with_reducible repeat first | apply ra | apply rb | apply rc); exact HO_290003.out⟩, ⟨by (with_reducible repeat first | apply ra | apply rb | apply rc); exact HO_290004.out⟩, ⟨by (with_reducible repeat first | apply ra | apply rb | apply rc); exact HO_290005.out⟩, ⟨by (with_reducible repeat first | apply ra | apply rb | apply rc); exact HO_290006.out⟩, ⟨by (with_reducible repeat first | apply ba | apply bb | apply bc); exact BK289.out⟩, ⟨by (with_reducible repeat first | apply ba | apply bb | apply bc); exact BK290.out⟩, ⟨by repeat (first | (with_reducible first | exact HK.out | apply Kept.alloc | apply Kept.drewN | apply Kept.drew | refine Kept.setCell ?_ (.inr GW289.out) _ | refine Kept.setCell ?_ (.inr GW290.out) _) | exact HK.out)⟩, ⟨by repeat (first | (with_reducible first | exact HB.out | apply below_alloc | apply pw_below_drewN | apply below_drew1 | refine below_set ?_ GE289.out | refine below_set ?_ GE290.out) | exact HB.out)⟩⟩
                     · rw [if_neg c72] at H
                       exact absurd H (by simp)
                   · rw [if_neg c70] at H
                     exact absurd H (by simp)
                 · rw [if_neg c69] at H
                   exact absurd H (by simp)
               · rw [if_neg c68] at H
                 exact absurd H (by simp)
             · rw [if_neg c67] at H
               exact absurd H (by simp)
           · replace c66 := Bool.eq_false_iff.mpr c66
             subst c66
             have H1 : (if 0 ≤ x8_1 then (if x8_1 < (x290001_1.length : Int) then (if rdOf false x290001_1 x8_1 = true then (patchbayref3_Cast_Out.l0 kj36 a1 x7_1 (wrap64 (x8_1 + 1)) t292 x290001_1 x290002_1 x290003_1 t302 x290005_1 x290006_1 t311 a1 t313) else (if x8_1 < (x290005_1.length : Int) then (if (rd x290005_1 x8_1) ≤ a1 then (if x7_1.length < 3518437208883 then (patchbayref3_Cast_Out.l0 kj36 a1 (x7_1 ++ [(⟨2, t292, x8_1, (⟨#[]⟩ : ByteArray)⟩ : S56)]) (wrap64 (x8_1 + 1)) t292 x290001_1 x290002_1 x290003_1 t302 (x290005_1.set (x8_1 : Int).toNat (wrap64 (a1 + 20))) x290006_1 t311 a1 t313) else (none)) else (patchbayref3_Cast_Out.l0 kj36 a1 x7_1 (wrap64 (x8_1 + 1)) t292 x290001_1 x290002_1 x290003_1 t302 x290005_1 x290006_1 t311 a1 t313)) else (none))) else (none)) else (none)) = some (r1, r2, r3, r4, r5, r6, r7, r8, r9, r10, r11, r12) := by rw [if_neg (show ¬ (false = true) by decide)] at H; exact H
             clear H
             have H := H1
             clear H1
             by_cases c83 : 0 ≤ x8_1
             · rw [if_pos c83] at H
               have c83b0 : decide (0 ≤ x8_1) = true := decide_eq_true c83
               clear c83
               by_cases c84 : x8_1 < (x290001_1.length : Int)
               · rw [if_pos c84] at H
                 have c84b0 : decide (x8_1 < (x290001_1.length : Int)) = true := decide_eq_true c84
                 clear c84
                 obtain ⟨bq85, hbq85⟩ : ∃ b_ : Bool, b_ = (rdOf false x290001_1 x8_1) := ⟨_, rfl⟩
                 replace H : (if bq85 = true then (patchbayref3_Cast_Out.l0 kj36 a1 x7_1 (wrap64 (x8_1 + 1)) t292 x290001_1 x290002_1 x290003_1 t302 x290005_1 x290006_1 t311 a1 t313) else (if x8_1 < (x290005_1.length : Int) then (if (rd x290005_1 x8_1) ≤ a1 then (if x7_1.length < 3518437208883 then (patchbayref3_Cast_Out.l0 kj36 a1 (x7_1 ++ [(⟨2, t292, x8_1, (⟨#[]⟩ : ByteArray)⟩ : S56)]) (wrap64 (x8_1 + 1)) t292 x290001_1 x290002_1 x290003_1 t302 (x290005_1.set (x8_1 : Int).toNat (wrap64 (a1 + 20))) x290006_1 t311 a1 t313) else (none)) else (patchbayref3_Cast_Out.l0 kj36 a1 x7_1 (wrap64 (x8_1 + 1)) t292 x290001_1 x290002_1 x290003_1 t302 x290005_1 x290006_1 t311 a1 t313)) else (none))) = some (r1, r2, r3, r4, r5, r6, r7, r8, r9, r10, r11, r12) := by rw [← hbq85] at H; exact H
                 have Nbq85 := Aside0.mk hbq85
                 clear hbq85
                 by_cases c86 : bq85 = true
                 · subst c86
                   have H1 : (patchbayref3_Cast_Out.l0 kj36 a1 x7_1 (wrap64 (x8_1 + 1)) t292 x290001_1 x290002_1 x290003_1 t302 x290005_1 x290006_1 t311 a1 t313) = some (r1, r2, r3, r4, r5, r6, r7, r8, r9, r10, r11, r12) := by rw [if_pos rfl] at H; exact H
                   clear H
                   have H := H1
                   clear H1
                   have H' := Aside0.mk H
                   clear H
                   have hnb87 := NB289_290.out
                   have hnc87 := NB290_289.out
                   have hcz88_0 : wc.cell? ⟨gb289, 0, none⟩ = some (.int .i64 t292) := (blk_cell BK289.out 0).trans rfl
                   have hcz88_1 : wc.cell? ⟨gb289, 1, none⟩ = some (.slice Ao40 x290001_1.length co40) := (blk_cell BK289.out 1).trans rfl
                   have hcz88_2 : wc.cell? ⟨gb289, 2, none⟩ = some (u290002) := (blk_cell BK289.out 2).trans rfl
                   have hcz88_3 : wc.cell? ⟨gb289, 3, none⟩ = some (u290003) := (blk_cell BK289.out 3).trans rfl
                   have hcz88_4 : wc.cell? ⟨gb289, 4, none⟩ = some (.slice Ao33 t302.length co33) := (blk_cell BK289.out 4).trans rfl
                   have hcz88_5 : wc.cell? ⟨gb289, 5, none⟩ = some (u290005) := (blk_cell BK289.out 5).trans rfl
                   have hcz88_6 : wc.cell? ⟨gb289, 6, none⟩ = some (u290006) := (blk_cell BK289.out 6).trans rfl
                   have hcz88_7 : wc.cell? ⟨gb289, 7, none⟩ = some (.int .i64 t311) := (blk_cell BK289.out 7).trans rfl
                   have hcz88_8 : wc.cell? ⟨gb289, 8, none⟩ = some (.int .i64 a1) := (blk_cell BK289.out 8).trans rfl
                   have hcz88_9 : wc.cell? ⟨gb289, 9, none⟩ = some (.int .i64 t313) := (blk_cell BK289.out 9).trans rfl
                   have hfz88_0 := blk_frozen BK289.out 0
                   have hfz88_1 := blk_frozen BK289.out 1
                   have hfz88_2 := blk_frozen BK289.out 2
                   have hfz88_3 := blk_frozen BK289.out 3
                   have hfz88_4 := blk_frozen BK289.out 4
                   have hfz88_5 := blk_frozen BK289.out 5
                   have hfz88_6 := blk_frozen BK289.out 6
                   have hfz88_7 := blk_frozen BK289.out 7
                   have hfz88_8 := blk_frozen BK289.out 8
                   have hfz88_9 := blk_frozen BK289.out 9
                   have p327 : 0 ≤ (x8_1 : Int) := of_decide_eq_true (by first | (with_reducible assumption) | assumption)
                   have q327 : x8_1 < (x290001_1.length : Int) := of_decide_eq_true (by first | (with_reducible assumption) | assumption)
                   obtain ⟨ad327, e327, hx327_0⟩ := Kd.at_bool (Kd.R_reads' HO_290001.out).2.2 x8_1 p327 q327
                   (try rw [← Nbq85.out] at hx327_0)
                   cases e327
                   replace p327 := eq_true p327
                   replace q327 := eq_true q327
                   go_wp2
                   go_roundg kj36
                   case measure => have := HK1.out; have := HJ36.out; omega
                   case rel => exact ⟨(x7_1), (wrap64 (x8_1 + 1)), (x290001_1), (x290002_1), (x290003_1), (x290005_1), (x290006_1), (.slice (some ad327) x290001_1.length co40), (u290002), (u290003), (u290005), (u290006), (by first | rfl | (simp; done) | (simp [*]; done)), H', ⟨by have := HK1.out; have := HJ36.out; omega⟩, ⟨by (with_reducible repeat first | apply ra | apply rb | apply rc); exact HO_7.out⟩, ⟨by (with_reducible repeat first | apply ra | apply rb | apply rc); exact HO_290001.out⟩, ⟨by (with_reducible repeat first | apply ra | apply rb | apply rc); exact HO_290002.out⟩, ⟨by (with_reducible repeat first | apply ra | apply rb | apply rc); exact HO_290003.out⟩, ⟨by (with_reducible repeat first | apply ra | apply rb | apply rc); exact HO_290004.out⟩, ⟨by (with_reducible repeat first | apply ra | apply rb | apply rc); exact HO_290005.out⟩, ⟨by (with_reducible repeat first | apply ra | apply rb | apply rc); exact HO_290006.out⟩, ⟨by (with_reducible repeat first | apply ba | apply bb | apply bc); exact BK289.out⟩, ⟨by (with_reducible repeat first | apply ba | apply bb | apply bc); exact BK290.out⟩, ⟨by repeat (first | (with_reducible first | exact HK.out | apply Kept.alloc | apply Kept.drewN | apply Kept.drew | refine Kept.setCell ?_ (.inr GW289.out) _ | refine Kept.setCell ?_ (.inr GW290.out) _) | exact HK.out)⟩, ⟨by repeat (first | (with_reducible first | exact HB.out | apply below_alloc | apply pw_below_drewN | apply below_drew1 | refine below_set ?_ GE289.out | refine below_set ?_ GE290.out) | exact HB.out)⟩⟩
                 · replace c86 := Bool.eq_false_iff.mpr c86
                   subst c86
                   have H1 : (if x8_1 < (x290005_1.length : Int) then (if (rd x290005_1 x8_1) ≤ a1 then (if x7_1.length < 3518437208883 then (patchbayref3_Cast_Out.l0 kj36 a1 (x7_1 ++ [(⟨2, t292, x8_1, (⟨#[]⟩ : ByteArray)⟩ : S56)]) (wrap64 (x8_1 + 1)) t292 x290001_1 x290002_1 x290003_1 t302 (x290005_1.set (x8_1 : Int).toNat (wrap64 (a1 + 20))) x290006_1 t311 a1 t313) else (none)) else (patchbayref3_Cast_Out.l0 kj36 a1 x7_1 (wrap64 (x8_1 + 1)) t292 x290001_1 x290002_1 x290003_1 t302 x290005_1 x290006_1 t311 a1 t313)) else (none)) = some (r1, r2, r3, r4, r5, r6, r7, r8, r9, r10, r11, r12) := by rw [if_neg (show ¬ (false = true) by decide)] at H; exact H
                   clear H
                   have H := H1
                   clear H1
                   by_cases c89 : x8_1 < (x290005_1.length : Int)
                   · rw [if_pos c89] at H
                     have c89b0 : decide (x8_1 < (x290005_1.length : Int)) = true := decide_eq_true c89
                     clear c89
                     by_cases c90 : (rd x290005_1 x8_1) ≤ a1
                     · rw [if_pos c90] at H
                       have c90b0 : decide ((rd x290005_1 x8_1) ≤ a1) = true := decide_eq_true c90
                       clear c90
                       by_cases c91 : x7_1.length < 3518437208883
                       · rw [if_pos c91] at H
                         have LMc91 := Aside0.mk c91
                         clear c91
                         obtain ⟨y329, hy329⟩ : ∃ y_ : List (S56), y_ = (x7_1 ++ [(⟨2, t292, x8_1, (⟨#[]⟩ : ByteArray)⟩ : S56)]) := ⟨_, rfl⟩
                         replace H : (patchbayref3_Cast_Out.l0 kj36 a1 y329 (wrap64 (x8_1 + 1)) t292 x290001_1 x290002_1 x290003_1 t302 (x290005_1.set (x8_1 : Int).toNat (wrap64 (a1 + 20))) x290006_1 t311 a1 t313) = some (r1, r2, r3, r4, r5, r6, r7, r8, r9, r10, r11, r12) := by first | (rw [hy329]; with_reducible exact H) | (have H2_ := (Option.bind_some _ _).symm.trans H; rw [hy329]; with_reducible exact H2_) | (have H2_ := (Option.bind_some _ _).symm.trans H; with_reducible exact H2_) | with_reducible exact H | (rw [hy329]; exact H) | exact H
                         have Ny329 := Aside0.mk hy329
                         clear hy329
                         obtain ⟨y332, hy332⟩ : ∃ y_ : List Int, y_ = (x290005_1.set (x8_1 : Int).toNat (wrap64 (a1 + 20))) := ⟨_, rfl⟩
                         replace H : (patchbayref3_Cast_Out.l0 kj36 a1 y329 (wrap64 (x8_1 + 1)) t292 x290001_1 x290002_1 x290003_1 t302 y332 x290006_1 t311 a1 t313) = some (r1, r2, r3, r4, r5, r6, r7, r8, r9, r10, r11, r12) := by first | (rw [hy332]; with_reducible exact H) | (have H2_ := (Option.bind_some _ _).symm.trans H; rw [hy332]; with_reducible exact H2_) | (have H2_ := (Option.bind_some _ _).symm.trans H; with_reducible exact H2_) | with_reducible exact H | (rw [hy332]; exact H) | exact H
                         have Ny332 := Aside0.mk hy332
                         clear hy332
                         have H' := Aside0.mk H
                         clear H
                         have hnb93 := NB289_290.out
                         have hnc93 := NB290_289.out
                         have hcz94_0 : wc.cell? ⟨gb289, 0, none⟩ = some (.int .i64 t292) := (blk_cell BK289.out 0).trans rfl
                         have hcz94_1 : wc.cell? ⟨gb289, 1, none⟩ = some (.slice Ao40 x290001_1.length co40) := (blk_cell BK289.out 1).trans rfl
                         have hcz94_2 : wc.cell? ⟨gb289, 2, none⟩ = some (u290002) := (blk_cell BK289.out 2).trans rfl
                         have hcz94_3 : wc.cell? ⟨gb289, 3, none⟩ = some (u290003) := (blk_cell BK289.out 3).trans rfl
                         have hcz94_4 : wc.cell? ⟨gb289, 4, none⟩ = some (.slice Ao33 t302.length co33) := (blk_cell BK289.out 4).trans rfl
                         have hcz94_5 : wc.cell? ⟨gb289, 5, none⟩ = some (u290005) := (blk_cell BK289.out 5).trans rfl
                         have hcz94_6 : wc.cell? ⟨gb289, 6, none⟩ = some (u290006) := (blk_cell BK289.out 6).trans rfl
                         have hcz94_7 : wc.cell? ⟨gb289, 7, none⟩ = some (.int .i64 t311) := (blk_cell BK289.out 7).trans rfl
                         have hcz94_8 : wc.cell? ⟨gb289, 8, none⟩ = some (.int .i64 a1) := (blk_cell BK289.out 8).trans rfl
                         have hcz94_9 : wc.cell? ⟨gb289, 9, none⟩ = some (.int .i64 t313) := (blk_cell BK289.out 9).trans rfl
                         have hfz94_0 := blk_frozen BK289.out 0
                         have hfz94_1 := blk_frozen BK289.out 1
                         have hfz94_2 := blk_frozen BK289.out 2
                         have hfz94_3 := blk_frozen BK289.out 3
                         have hfz94_4 := blk_frozen BK289.out 4
                         have hfz94_5 := blk_frozen BK289.out 5
                         have hfz94_6 := blk_frozen BK289.out 6
                         have hfz94_7 := blk_frozen BK289.out 7
                         have hfz94_8 := blk_frozen BK289.out 8
                         have hfz94_9 := blk_frozen BK289.out 9
                         have p327 : 0 ≤ (x8_1 : Int) := of_decide_eq_true (by first | (with_reducible assumption) | assumption)
                         have q327 : x8_1 < (x290001_1.length : Int) := of_decide_eq_true (by first | (with_reducible assumption) | assumption)
                         obtain ⟨ad327, e327, hx327_0⟩ := Kd.at_bool (Kd.R_reads' HO_290001.out).2.2 x8_1 p327 q327
                         (try rw [← Nbq85.out] at hx327_0)
                         cases e327
                         replace p327 := eq_true p327
                         replace q327 := eq_true q327
                         obtain ⟨Ao95, co95, eo95⟩ := Kd.R_slice HO_290005.out
                         subst eo95
                         have p328 : 0 ≤ (x8_1 : Int) := of_decide_eq_true (by first | (with_reducible assumption) | assumption)
                         have q328 : x8_1 < (x290005_1.length : Int) := of_decide_eq_true (by first | (with_reducible assumption) | assumption)
                         obtain ⟨ad328, e328, hx328_0⟩ := Kd.at_int (Kd.R_reads' HO_290005.out).2.2 x8_1 p328 q328
                         cases e328
                         replace p328 := eq_true p328
                         replace q328 := eq_true q328
                         go_wp2_with (first | ((with_reducible refine gate_builtin (b := .append) (xs := #[.tmp 92, .tmp 97]) rfl ?_); (try (refine gate_guard (by rfl) ?_; dsimp only)); at_builtin; refine Kd.R_append k56 (w0 := w0) w0.heap.size rfl (.tmp 92) (.tmp 97) 48 56 (.agg #[(.int .i64 0), (.int .i64 0), (.int .i64 0), (.string ⟨#[]⟩)]) 40 rfl Try.underlying48 info56 rfl (by decide) (by omega) u7 x7_1 (⟨2, t292, x8_1, (⟨#[]⟩ : ByteArray)⟩ : S56) [.int .i64 2, .int .i64 t292, .int .i64 x8_1, .string (⟨#[]⟩ : ByteArray)] (fun k_ => ((P0_1_ k_ ∨ P0_2_ k_ ∨ P0_3_ k_ ∨ P0_4_ k_ ∨ P0_5_ k_ ∨ P0_6_ k_) ∨ w.heap.size ≤ k_)) (fun _ => False) rfl rfl ?aP (fun _ hk => hk.elim) ?aF ?aO ?aB ?aS ?aL ?_; (case aP => exact k56_mkM _ _ _ (⟨2, t292, x8_1, (⟨#[]⟩ : ByteArray)⟩ : S56)); (case aB => exact (by repeat (first | (with_reducible first | exact HB.out | apply below_alloc | apply pw_below_drewN | apply below_drew1 | refine below_set ?_ GE289.out | refine below_set ?_ GE290.out) | exact HB.out))); (case aF => exact (fun k_ hk => (.inr (Nat.le_trans (by first | exact HK.out.1 | exact (show Kept w _ (fun k_ => P0_1_ k_ ∨ P0_2_ k_ ∨ P0_3_ k_ ∨ P0_4_ k_ ∨ P0_5_ k_ ∨ P0_6_ k_) from by repeat (first | (with_reducible first | exact HK.out | apply Kept.alloc | apply Kept.drewN | apply Kept.drew | refine Kept.setCell ?_ (.inr GW289.out) _ | refine Kept.setCell ?_ (.inr GW290.out) _) | exact HK.out)).1) hk)))); (case aO => exact (by (with_reducible repeat first | apply ra | apply rb | apply rc); exact HO_7.out)); (case aS => exact (below_size (by repeat (first | (with_reducible first | exact HB.out | apply below_alloc | apply pw_below_drewN | apply below_drew1 | refine below_set ?_ GE289.out | refine below_set ?_ GE290.out) | exact HB.out)))); (case aL => have := LMc91.out; omega); intro v330 w96 ho hb hg hat; rw [← Ny329.out] at ho; have n0_ := Aside0.mk (Kd.R_over' (by (with_reducible repeat first | apply ra | apply rb | apply rc); exact HO_290001.out) (Kd.R_typed (by (with_reducible repeat first | apply ra | apply rb | apply rc); exact HO_7.out)) (by decide) hg); have n1_ := Aside0.mk (Kd.R_over' (by (with_reducible repeat first | apply ra | apply rb | apply rc); exact HO_290002.out) (Kd.R_typed (by (with_reducible repeat first | apply ra | apply rb | apply rc); exact HO_7.out)) (by decide) hg); have n2_ := Aside0.mk (Kd.R_over' (by (with_reducible repeat first | apply ra | apply rb | apply rc); exact HO_290003.out) (Kd.R_typed (by (with_reducible repeat first | apply ra | apply rb | apply rc); exact HO_7.out)) (by decide) hg); have n3_ := Aside0.mk (Kd.R_over' (by (with_reducible repeat first | apply ra | apply rb | apply rc); exact HO_290004.out) (Kd.R_typed (by (with_reducible repeat first | apply ra | apply rb | apply rc); exact HO_7.out)) (by decide) hg); have n4_ := Aside0.mk (Kd.R_over' (by (with_reducible repeat first | apply ra | apply rb | apply rc); exact HO_290005.out) (Kd.R_typed (by (with_reducible repeat first | apply ra | apply rb | apply rc); exact HO_7.out)) (by decide) hg); have n5_ := Aside0.mk (Kd.R_over' (by (with_reducible repeat first | apply ra | apply rb | apply rc); exact HO_290006.out) (Kd.R_typed (by (with_reducible repeat first | apply ra | apply rb | apply rc); exact HO_7.out)) (by decide) hg); have n6_ := Aside0.mk (blk_grown (g := gb289) (o := .cells #[.int .i64 t292, .slice (some ad327) x290001_1.length co40, u290002, u290003, .slice Ao33 t302.length co33, .slice (some ad328) x290005_1.length co95, u290006, .int .i64 t311, .int .i64 a1, .int .i64 t313] 54 (0, 0)) (by (with_reducible repeat first | apply ba | apply bb | apply bc); exact BK289.out) hg (Kd.R_ne HO_7.out BK289.out (by decide))); have n7_ := Aside0.mk (blk_grown (g := gb290) (o := .cells #[.int .i64 0, .slice none 0 0, .slice none 0 0, .slice none 0 0, .slice none 0 0, .slice none 0 0, .slice none 0 0, .int .i64 0, .int .i64 0, .int .i64 0] 54 (0, 0)) (by (with_reducible repeat first | apply ba | apply bb | apply bc); exact BK290.out) hg (Kd.R_ne HO_7.out BK290.out (by decide))); have n8_ := Aside0.mk (hb); have n9_ := Aside0.mk (Kept.of_grown (S := (fun k_ => P0_1_ k_ ∨ P0_2_ k_ ∨ P0_3_ k_ ∨ P0_4_ k_ ∨ P0_5_ k_ ∨ P0_6_ k_)) hg (by repeat (first | (with_reducible first | exact HK.out | apply Kept.alloc | apply Kept.drewN | apply Kept.drew | refine Kept.setCell ?_ (.inr GW289.out) _ | refine Kept.setCell ?_ (.inr GW290.out) _) | exact HK.out)) (fun k_ e_ => (HO_7.out.1 k_ e_))); have n10_ := Aside0.mk (ho); clear HO_290001; clear HO_290002; clear HO_290003; clear HO_290004; clear HO_290005; clear HO_290006; clear BK289; clear BK290; clear HB; clear HK; clear HO_7; have HO_290001 := n0_; have HO_290002 := n1_; have HO_290003 := n2_; have HO_290004 := n3_; have HO_290005 := n4_; have HO_290006 := n5_; have BK289 := n6_; have BK290 := n7_; have HB := n8_; have HK := n9_; have HO331 := n10_; clear n0_ n1_ n2_ n3_ n4_ n5_ n6_ n7_ n8_ n9_ n10_; clear ho hb hg hat; have hcz97_0 : w96.cell? ⟨gb289, 0, none⟩ = some (.int .i64 t292) := (blk_cell BK289.out 0).trans rfl; have hcz97_1 : w96.cell? ⟨gb289, 1, none⟩ = some (.slice (some ad327) x290001_1.length co40) := (blk_cell BK289.out 1).trans rfl; have hcz97_2 : w96.cell? ⟨gb289, 2, none⟩ = some (u290002) := (blk_cell BK289.out 2).trans rfl; have hcz97_3 : w96.cell? ⟨gb289, 3, none⟩ = some (u290003) := (blk_cell BK289.out 3).trans rfl; have hcz97_4 : w96.cell? ⟨gb289, 4, none⟩ = some (.slice Ao33 t302.length co33) := (blk_cell BK289.out 4).trans rfl; have hcz97_5 : w96.cell? ⟨gb289, 5, none⟩ = some (.slice (some ad328) x290005_1.length co95) := (blk_cell BK289.out 5).trans rfl; have hcz97_6 : w96.cell? ⟨gb289, 6, none⟩ = some (u290006) := (blk_cell BK289.out 6).trans rfl; have hcz97_7 : w96.cell? ⟨gb289, 7, none⟩ = some (.int .i64 t311) := (blk_cell BK289.out 7).trans rfl; have hcz97_8 : w96.cell? ⟨gb289, 8, none⟩ = some (.int .i64 a1) := (blk_cell BK289.out 8).trans rfl; have hcz97_9 : w96.cell? ⟨gb289, 9, none⟩ = some (.int .i64 t313) := (blk_cell BK289.out 9).trans rfl; have hfz97_0 := blk_frozen BK289.out 0; have hfz97_1 := blk_frozen BK289.out 1; have hfz97_2 := blk_frozen BK289.out 2; have hfz97_3 := blk_frozen BK289.out 3; have hfz97_4 := blk_frozen BK289.out 4; have hfz97_5 := blk_frozen BK289.out 5; have hfz97_6 := blk_frozen BK289.out 6; have hfz97_7 := blk_frozen BK289.out 7; have hfz97_8 := blk_frozen BK289.out 8; have hfz97_9 := blk_frozen BK289.out 9; have p92 : 0 ≤ (x8_1 : Int) := of_decide_eq_true (by first | (with_reducible assumption) | assumption); have q92 : (x8_1 : Int) < ((x290005_1.length : Int) : Int) := of_decide_eq_true (by first | (with_reducible assumption) | assumption); obtain ⟨go92, co92, eo92, gb92, gl92, cl92, HG92⟩ := Kd.R_form HO_290005.out (by omega); (first | cases eo92 | (injection eo92 with ea_ en_ ec_; (first | subst ea_ | (injection ea_ with ea_; subst ea_)); subst ec_; clear en_)); have GB92 := Aside0.mk gb92; have GG92 := Aside0.mk HG92; clear gb92 gl92 HG92; have HMgo92 := Aside0.mk (show ((P0_1_ go92 ∨ P0_2_ go92 ∨ P0_3_ go92 ∨ P0_4_ go92 ∨ P0_5_ go92 ∨ P0_6_ go92) ∨ w.heap.size ≤ go92) from (HO_290005.out.1 _ rfl).1); (first | simp only [add_plain] at hx328_0 | skip); obtain ⟨hx92_0, hf92_0⟩ := Kd.R_celln 0 HO_290005.out (x8_1 : Int) p92 q92; replace p92 := eq_true p92; replace q92 := eq_true q92; obtain ⟨hy98_, hz98_⟩ := Kd.R_celln 0 HO_290005.out (x8_1 : Int) (of_decide_eq_true (by first | (with_reducible assumption) | assumption)) (of_decide_eq_true (by first | (with_reducible assumption) | assumption)); have HP98 := Kd.R_putg HO_290005.out (x8_1 : Int) (wrap64 (a1 + 20))) | ((with_reducible refine gate_store (t := 3) (p := 104) rfl ?_); refine store_event (t := 3) (p := 104) (v := ?vo_w99) (w1 := (w96.setCell ⟨go92, (x8_1 : Int).toNat, none⟩ (.int .i64 (wrap64 (a1 + 20))))) ?hg ?ho ?hn ?hr ?_; (case ho => rfl); (case hg => rfl); (case hn => rfl); (case hr => first | (go_simp; done) | (go_simp; rfl)); intro w99 hw; have hg : w96.grownBy w99 (some go92) := (by rw [hw]; exact HP98.2); have hp_ : Kd.R (Kd.int .i64) 3 w99 w0.heap.size (fun k_ => ((P0_1_ k_ ∨ P0_2_ k_ ∨ P0_3_ k_ ∨ P0_4_ k_ ∨ P0_5_ k_ ∨ P0_6_ k_) ∨ w.heap.size ≤ k_) ∧ some k_ ≠ (u290006 : Value).ownBlock) (.slice (some ⟨go92, 0, none⟩) x290005_1.length co95) y332 := (by rw [hw, Ny332.out]; exact HP98.1); clear HP98; have n0_ := Aside0.mk (Kd.R_over' (v := (.slice (some ⟨go92, 0, none⟩) x290005_1.length co95)) (by (with_reducible repeat first | apply ra | apply rb | apply rc); exact HO_290001.out) (Kd.R_typed HO_290005.out) (by decide) hg); have n1_ := Aside0.mk (Kd.R_over' (v := (.slice (some ⟨go92, 0, none⟩) x290005_1.length co95)) (by (with_reducible repeat first | apply ra | apply rb | apply rc); exact HO_290002.out) (Kd.R_typed HO_290005.out) (by decide) hg); have n2_ := Aside0.mk (Kd.R_over' (v := (.slice (some ⟨go92, 0, none⟩) x290005_1.length co95)) (by (with_reducible repeat first | apply ra | apply rb | apply rc); exact HO_290003.out) (Kd.R_typed HO_290005.out) (by decide) hg); have n3_ := Aside0.mk (Kd.R_over' (v := (.slice (some ⟨go92, 0, none⟩) x290005_1.length co95)) (by (with_reducible repeat first | apply ra | apply rb | apply rc); exact HO_290004.out) (Kd.R_typed HO_290005.out) (by decide) hg); have n4_ := Aside0.mk (hp_); have n5_ := Aside0.mk (Kd.R_after (v := (.slice (some ⟨go92, 0, none⟩) x290005_1.length co95)) (v1 := (.slice (some ⟨go92, 0, none⟩) x290005_1.length co95)) (ok := (fun k_ => ((P0_1_ k_ ∨ P0_2_ k_ ∨ P0_3_ k_ ∨ P0_4_ k_ ∨ P0_5_ k_ ∨ P0_6_ k_) ∨ w.heap.size ≤ k_))) (by (with_reducible repeat first | apply ra | apply rb | apply rc); exact HO_290006.out) hg (.inl rfl)); have n6_ := Aside0.mk (blk_grown (g := gb289) (o := .cells #[.int .i64 t292, .slice (some ad327) x290001_1.length co40, u290002, u290003, .slice Ao33 t302.length co33, .slice (some ⟨go92, 0, none⟩) x290005_1.length co95, u290006, .int .i64 t311, .int .i64 a1, .int .i64 t313] 54 (0, 0)) (by (with_reducible repeat first | apply ba | apply bb | apply bc); exact BK289.out) hg (Kd.R_ne HO_290005.out BK289.out (by decide))); have n7_ := Aside0.mk (blk_grown (g := gb290) (o := .cells #[.int .i64 0, .slice none 0 0, .slice none 0 0, .slice none 0 0, .slice none 0 0, .slice none 0 0, .slice none 0 0, .int .i64 0, .int .i64 0, .int .i64 0] 54 (0, 0)) (by (with_reducible repeat first | apply ba | apply bb | apply bc); exact BK290.out) hg (Kd.R_ne HO_290005.out BK290.out (by decide))); have n8_ := Aside0.mk (Kd.R_over' (v := (.slice (some ⟨go92, 0, none⟩) x290005_1.length co95)) (by (with_reducible repeat first | apply ra | apply rb | apply rc); exact HO331.out) (Kd.R_typed HO_290005.out) (by decide) hg); have n9_ := Aside0.mk ((by rw [hw]; exact below_set (HB.out) GB92.out : Below w0.heap.size w0 w99)); have n10_ := Aside0.mk (Kept.of_grown (S := (fun k_ => P0_1_ k_ ∨ P0_2_ k_ ∨ P0_3_ k_ ∨ P0_4_ k_ ∨ P0_5_ k_ ∨ P0_6_ k_)) hg (by repeat (first | (with_reducible first | exact HK.out | apply Kept.alloc | apply Kept.drewN | apply Kept.drew | refine Kept.setCell ?_ (.inr GW289.out) _ | refine Kept.setCell ?_ (.inr GW290.out) _) | exact HK.out)) (fun k_ e_ => (HO_290005.out.1 k_ e_).1)); clear HO_290001; clear HO_290002; clear HO_290003; clear HO_290004; clear HO_290005; clear HO_290006; clear BK289; clear BK290; clear HO331; clear HB; clear HK; have HO_290001 := n0_; have HO_290002 := n1_; have HO_290003 := n2_; have HO_290004 := n3_; have HO_290005 := n4_; have HO_290006 := n5_; have BK289 := n6_; have BK290 := n7_; have HO331 := n8_; have HB := n9_; have HK := n10_; clear n0_ n1_ n2_ n3_ n4_ n5_ n6_ n7_ n8_ n9_ n10_; clear hg hw hp_))
                         go_roundg kj36
                         case measure => have := HK1.out; have := HJ36.out; omega
                         case rel => exact ⟨(y329), (wrap64 (x8_1 + 1)), (x290001_1), (x290002_1), (x290003_1), (y332), (x290006_1), (.slice (some ad327) x290001_1.length co40), (u290002), (u290003), (.slice (some ⟨go92, 0, none⟩) x290005_1.length co95), (u290006), (by first | rfl | (simp; done) | (simp [*]; done)), H', ⟨by have := HK1.out; have := HJ36.out; omega⟩, ⟨by (with_reducible repeat first | apply ra | apply rb | apply rc); exact HO331.out⟩, ⟨by (with_reducible repeat first | apply ra | apply rb | apply rc); exact HO_290001.out⟩, ⟨by (with_reducible repeat first | apply ra | apply rb | apply rc); exact HO_290002.out⟩, ⟨by (with_reducible repeat first | apply ra | apply rb | apply rc); exact HO_290003.out⟩, ⟨by (with_reducible repeat first | apply ra | apply rb | apply rc); exact HO_290004.out⟩, ⟨by (with_reducible repeat first | apply ra | apply rb | apply rc); exact HO_290005.out⟩, ⟨by (with_reducible repeat first | apply ra | apply rb | apply rc); exact HO_290006.out⟩, ⟨by (with_reducible repeat first | apply ba | apply bb | apply bc); exact BK289.out⟩, ⟨by (with_reducible repeat first | apply ba | apply bb | apply bc); exact BK290.out⟩, ⟨by repeat (first | (with_reducible first | exact HK.out | apply Kept.alloc | apply Kept.drewN | apply Kept.drew | refine Kept.setCell ?_ (.inr GW289.out) _ | refine Kept.setCell ?_ (.inr GW290.out) _) | exact HK.out)⟩, ⟨by repeat (first | (with_reducible first | exact HB.out | apply below_alloc | apply pw_below_drewN | apply below_drew1 | refine below_set ?_ GE289.out | refine below_set ?_ GE290.out) | exact HB.out)⟩⟩
                       · rw [if_neg c91] at H
                         exact absurd H (by simp)
                     · rw [if_neg c90] at H
                       have c90b0 : decide ((rd x290005_1 x8_1) ≤ a1) = false := decide_eq_false c90
                       clear c90
                       have H' := Aside0.mk H
                       clear H
                       have hnb100 := NB289_290.out
                       have hnc100 := NB290_289.out
                       have hcz101_0 : wc.cell? ⟨gb289, 0, none⟩ = some (.int .i64 t292) := (blk_cell BK289.out 0).trans rfl
                       have hcz101_1 : wc.cell? ⟨gb289, 1, none⟩ = some (.slice Ao40 x290001_1.length co40) := (blk_cell BK289.out 1).trans rfl
                       have hcz101_2 : wc.cell? ⟨gb289, 2, none⟩ = some (u290002) := (blk_cell BK289.out 2).trans rfl
                       have hcz101_3 : wc.cell? ⟨gb289, 3, none⟩ = some (u290003) := (blk_cell BK289.out 3).trans rfl
                       have hcz101_4 : wc.cell? ⟨gb289, 4, none⟩ = some (.slice Ao33 t302.length co33) := (blk_cell BK289.out 4).trans rfl
                       have hcz101_5 : wc.cell? ⟨gb289, 5, none⟩ = some (u290005) := (blk_cell BK289.out 5).trans rfl
                       have hcz101_6 : wc.cell? ⟨gb289, 6, none⟩ = some (u290006) := (blk_cell BK289.out 6).trans rfl
                       have hcz101_7 : wc.cell? ⟨gb289, 7, none⟩ = some (.int .i64 t311) := (blk_cell BK289.out 7).trans rfl
                       have hcz101_8 : wc.cell? ⟨gb289, 8, none⟩ = some (.int .i64 a1) := (blk_cell BK289.out 8).trans rfl
                       have hcz101_9 : wc.cell? ⟨gb289, 9, none⟩ = some (.int .i64 t313) := (blk_cell BK289.out 9).trans rfl
                       have hfz101_0 := blk_frozen BK289.out 0
                       have hfz101_1 := blk_frozen BK289.out 1
                       have hfz101_2 := blk_frozen BK289.out 2
                       have hfz101_3 := blk_frozen BK289.out 3
                       have hfz101_4 := blk_frozen BK289.out 4
                       have hfz101_5 := blk_frozen BK289.out 5
                       have hfz101_6 := blk_frozen BK289.out 6
                       have hfz101_7 := blk_frozen BK289.out 7
                       have hfz101_8 := blk_frozen BK289.out 8
                       have hfz101_9 := blk_frozen BK289.out 9
                       have p327 : 0 ≤ (x8_1 : Int) := of_decide_eq_true (by first | (with_reducible assumption) | assumption)
                       have q327 : x8_1 < (x290001_1.length : Int) := of_decide_eq_true (by first | (with_reducible assumption) | assumption)
                       obtain ⟨ad327, e327, hx327_0⟩ := Kd.at_bool (Kd.R_reads' HO_290001.out).2.2 x8_1 p327 q327
                       (try rw [← Nbq85.out] at hx327_0)
                       cases e327
                       replace p327 := eq_true p327
                       replace q327 := eq_true q327
                       obtain ⟨Ao102, co102, eo102⟩ := Kd.R_slice HO_290005.out
                       subst eo102
                       have p328 : 0 ≤ (x8_1 : Int) := of_decide_eq_true (by first | (with_reducible assumption) | assumption)
                       have q328 : x8_1 < (x290005_1.length : Int) := of_decide_eq_true (by first | (with_reducible assumption) | assumption)
                       obtain ⟨ad328, e328, hx328_0⟩ := Kd.at_int (Kd.R_reads' HO_290005.out).2.2 x8_1 p328 q328
                       cases e328
                       replace p328 := eq_true p328
                       replace q328 := eq_true q328
                       go_wp2
                       go_roundg kj36
                       case measure => have := HK1.out; have := HJ36.out; omega
                       case rel => exact ⟨(x7_1), (wrap64 (x8_1 + 1)), (x290001_1), (x290002_1), (x290003_1), (x290005_1), (x290006_1), (.slice (some ad327) x290001_1.length co40), (u290002), (u290003), (.slice (some ad328) x290005_1.length co102), (u290006), (by first | rfl | (simp; done) | (simp [*]; done)), H', ⟨by have := HK1.out; have := HJ36.out; omega⟩, ⟨by (with_reducible repeat first | apply ra | apply rb | apply rc); exact HO_7.out⟩, ⟨by (with_reducible repeat first | apply ra | apply rb | apply rc); exact HO_290001.out⟩, ⟨by (with_reducible repeat first | apply ra | apply rb | apply rc); exact HO_290002.out⟩, ⟨by (with_reducible repeat first | apply ra | apply rb | apply rc); exact HO_290003.out⟩, ⟨by (with_reducible repeat first | apply ra | apply rb | apply rc); exact HO_290004.out⟩, ⟨by (with_reducible repeat first | apply ra | apply rb | apply rc); exact HO_290005.out⟩, ⟨by (with_reducible repeat first | apply ra | apply rb | apply rc); exact HO_290006.out⟩, ⟨by (with_reducible repeat first | apply ba | apply bb | apply bc); exact BK289.out⟩, ⟨by (with_reducible repeat first | apply ba | apply bb | apply bc); exact BK290.out⟩, ⟨by repeat (first | (with_reducible first | exact HK.out | apply Kept.alloc | apply Kept.drewN | apply Kept.drew | refine Kept.setCell ?_ (.inr GW289.out) _ | refine Kept.setCell ?_ (.inr GW290.out) _) | exact HK.out)⟩, ⟨by repeat (first | (with_reducible first | exact HB.out | apply below_alloc | apply pw_below_drewN | apply below_drew1 | refine below_set ?_ GE289.out | refine below_set ?_ GE290.out) | exact HB.out)⟩⟩
                   · rw [if_neg c89] at H
                     exact absurd H (by simp)
               · rw [if_neg c84] at H
                 exact absurd H (by simp)
             · rw [if_neg c83] at H
               exact absurd H (by simp)
       · rw [if_neg c36] at H
         have c36b0 : decide (x8_1 < (x290001_1.length : Int)) = false := decide_eq_false c36
         clear c36
         by_cases c103 : t292 = 0
         · rw [if_pos c103] at H
           have c103b0 : (t292 == 0) = true := beq_iff_eq.mpr c103
           have c103b1 : (t292 != 0) = false := bne_eq_false_iff_eq.mpr c103
           clear c103
           by_cases c104 : (x290001_1.length : Int) > 0
           · rw [if_pos c104] at H
             have c104b0 : decide (0 < (x290001_1.length : Int)) = true := decide_eq_true c104
             have c104b1 : decide (0 < x290001_1.length) = true := decide_eq_true (by omega)
             clear c104
             by_cases c105 : t311 ≤ a1
             · rw [if_pos c105] at H
               have c105b0 : decide (t311 ≤ a1) = true := decide_eq_true c105
               clear c105
               by_cases c106 : x7_1.length < 3518437208883
               · rw [if_pos c106] at H
                 have LMc106 := Aside0.mk c106
                 clear c106
                 obtain ⟨y314, hy314⟩ : ∃ y_ : List (S56), y_ = (x7_1 ++ [(⟨3, 0, (x290001_1.length : Int), (⟨#[]⟩ : ByteArray)⟩ : S56)]) := ⟨_, rfl⟩
                 replace H : (some (t292, x290001_1, x290002_1, x290003_1, t302, x290005_1, x290006_1, wrap64 (a1 + 50), a1, t313, y314, 0)) = some (r1, r2, r3, r4, r5, r6, r7, r8, r9, r10, r11, r12) := by first | (rw [hy314]; with_reducible exact H) | (have H2_ := (Option.bind_some _ _).symm.trans H; rw [hy314]; with_reducible exact H2_) | (have H2_ := (Option.bind_some _ _).symm.trans H; with_reducible exact H2_) | with_reducible exact H | (rw [hy314]; exact H) | exact H
                 have Ny314 := Aside0.mk hy314
                 clear hy314
                 simp only [Option.some.injEq, Prod.mk.injEq] at H
                 obtain ⟨rfl, rfl, rfl, rfl, rfl, rfl, rfl, rfl, rfl, rfl, rfl, rfl⟩ := H
                 have hnb107 := NB289_290.out
                 have hnc107 := NB290_289.out
                 have hcz108_0 : wr.cell? ⟨gb289, 0, none⟩ = some (.int .i64 t292) := (blk_cell BK289.out 0).trans rfl
                 have hcz108_1 : wr.cell? ⟨gb289, 1, none⟩ = some (u290001) := (blk_cell BK289.out 1).trans rfl
                 have hcz108_2 : wr.cell? ⟨gb289, 2, none⟩ = some (u290002) := (blk_cell BK289.out 2).trans rfl
                 have hcz108_3 : wr.cell? ⟨gb289, 3, none⟩ = some (u290003) := (blk_cell BK289.out 3).trans rfl
                 have hcz108_4 : wr.cell? ⟨gb289, 4, none⟩ = some (.slice Ao33 t302.length co33) := (blk_cell BK289.out 4).trans rfl
                 have hcz108_5 : wr.cell? ⟨gb289, 5, none⟩ = some (u290005) := (blk_cell BK289.out 5).trans rfl
                 have hcz108_6 : wr.cell? ⟨gb289, 6, none⟩ = some (u290006) := (blk_cell BK289.out 6).trans rfl
                 have hcz108_7 : wr.cell? ⟨gb289, 7, none⟩ = some (.int .i64 t311) := (blk_cell BK289.out 7).trans rfl
                 have hcz108_8 : wr.cell? ⟨gb289, 8, none⟩ = some (.int .i64 a1) := (blk_cell BK289.out 8).trans rfl
                 have hcz108_9 : wr.cell? ⟨gb289, 9, none⟩ = some (.int .i64 t313) := (blk_cell BK289.out 9).trans rfl
                 have hfz108_0 := blk_frozen BK289.out 0
                 have hfz108_1 := blk_frozen BK289.out 1
                 have hfz108_2 := blk_frozen BK289.out 2
                 have hfz108_3 := blk_frozen BK289.out 3
                 have hfz108_4 := blk_frozen BK289.out 4
                 have hfz108_5 := blk_frozen BK289.out 5
                 have hfz108_6 := blk_frozen BK289.out 6
                 have hfz108_7 := blk_frozen BK289.out 7
                 have hfz108_8 := blk_frozen BK289.out 8
                 have hfz108_9 := blk_frozen BK289.out 9
                 obtain ⟨Ao109, co109, eo109⟩ := Kd.R_slice HO_290001.out
                 subst eo109
                 go_wp2_with (first | ((with_reducible refine gate_builtin (b := .append) (xs := #[.tmp 120, .tmp 125]) rfl ?_); (try (refine gate_guard (by rfl) ?_; dsimp only)); at_builtin; refine Kd.R_append k56 (w0 := w0) w0.heap.size rfl (.tmp 120) (.tmp 125) 48 56 (.agg #[(.int .i64 0), (.int .i64 0), (.int .i64 0), (.string ⟨#[]⟩)]) 40 rfl Try.underlying48 info56 rfl (by decide) (by omega) u7 x7_1 (⟨3, 0, (x290001_1.length : Int), (⟨#[]⟩ : ByteArray)⟩ : S56) [.int .i64 3, .int .i64 0, .int .i64 (x290001_1.length : Int), .string (⟨#[]⟩ : ByteArray)] (fun k_ => ((P0_1_ k_ ∨ P0_2_ k_ ∨ P0_3_ k_ ∨ P0_4_ k_ ∨ P0_5_ k_ ∨ P0_6_ k_) ∨ w.heap.size ≤ k_)) (fun _ => False) rfl rfl ?aP (fun _ hk => hk.elim) ?aF ?aO ?aB ?aS ?aL ?_; (case aP => exact k56_mkM _ _ _ (⟨3, 0, (x290001_1.length : Int), (⟨#[]⟩ : ByteArray)⟩ : S56)); (case aB => exact (by repeat (first | (with_reducible first | exact HB.out | apply below_alloc | apply pw_below_drewN | apply below_drew1 | refine below_set ?_ GE289.out | refine below_set ?_ GE290.out) | exact HB.out))); (case aF => exact (fun k_ hk => (.inr (Nat.le_trans (by first | exact HK.out.1 | exact (show Kept w _ (fun k_ => P0_1_ k_ ∨ P0_2_ k_ ∨ P0_3_ k_ ∨ P0_4_ k_ ∨ P0_5_ k_ ∨ P0_6_ k_) from by repeat (first | (with_reducible first | exact HK.out | apply Kept.alloc | apply Kept.drewN | apply Kept.drew | refine Kept.setCell ?_ (.inr GW289.out) _ | refine Kept.setCell ?_ (.inr GW290.out) _) | exact HK.out)).1) hk)))); (case aO => exact (by (with_reducible repeat first | apply ra | apply rb | apply rc); exact HO_7.out)); (case aS => exact (below_size (by repeat (first | (with_reducible first | exact HB.out | apply below_alloc | apply pw_below_drewN | apply below_drew1 | refine below_set ?_ GE289.out | refine below_set ?_ GE290.out) | exact HB.out)))); (case aL => have := LMc106.out; omega); intro v315 w110 ho hb hg hat; rw [← Ny314.out] at ho; have n0_ := Aside0.mk (Kd.R_over' (by (with_reducible repeat first | apply ra | apply rb | apply rc); exact HO_290001.out) (Kd.R_typed (by (with_reducible repeat first | apply ra | apply rb | apply rc); exact HO_7.out)) (by decide) hg); have n1_ := Aside0.mk (Kd.R_over' (by (with_reducible repeat first | apply ra | apply rb | apply rc); exact HO_290002.out) (Kd.R_typed (by (with_reducible repeat first | apply ra | apply rb | apply rc); exact HO_7.out)) (by decide) hg); have n2_ := Aside0.mk (Kd.R_over' (by (with_reducible repeat first | apply ra | apply rb | apply rc); exact HO_290003.out) (Kd.R_typed (by (with_reducible repeat first | apply ra | apply rb | apply rc); exact HO_7.out)) (by decide) hg); have n3_ := Aside0.mk (Kd.R_over' (by (with_reducible repeat first | apply ra | apply rb | apply rc); exact HO_290004.out) (Kd.R_typed (by (with_reducible repeat first | apply ra | apply rb | apply rc); exact HO_7.out)) (by decide) hg); have n4_ := Aside0.mk (Kd.R_over' (by (with_reducible repeat first | apply ra | apply rb | apply rc); exact HO_290005.out) (Kd.R_typed (by (with_reducible repeat first | apply ra | apply rb | apply rc); exact HO_7.out)) (by decide) hg); have n5_ := Aside0.mk (Kd.R_over' (by (with_reducible repeat first | apply ra | apply rb | apply rc); exact HO_290006.out) (Kd.R_typed (by (with_reducible repeat first | apply ra | apply rb | apply rc); exact HO_7.out)) (by decide) hg); have n6_ := Aside0.mk (blk_grown (g := gb289) (o := .cells #[.int .i64 t292, .slice Ao109 x290001_1.length co109, u290002, u290003, .slice Ao33 t302.length co33, u290005, u290006, .int .i64 t311, .int .i64 a1, .int .i64 t313] 54 (0, 0)) (by (with_reducible repeat first | apply ba | apply bb | apply bc); exact BK289.out) hg (Kd.R_ne HO_7.out BK289.out (by decide))); have n7_ := Aside0.mk (blk_grown (g := gb290) (o := .cells #[.int .i64 0, .slice none 0 0, .slice none 0 0, .slice none 0 0, .slice none 0 0, .slice none 0 0, .slice none 0 0, .int .i64 0, .int .i64 0, .int .i64 0] 54 (0, 0)) (by (with_reducible repeat first | apply ba | apply bb | apply bc); exact BK290.out) hg (Kd.R_ne HO_7.out BK290.out (by decide))); have n8_ := Aside0.mk (hb); have n9_ := Aside0.mk (Kept.of_grown (S := (fun k_ => P0_1_ k_ ∨ P0_2_ k_ ∨ P0_3_ k_ ∨ P0_4_ k_ ∨ P0_5_ k_ ∨ P0_6_ k_)) hg (by repeat (first | (with_reducible first | exact HK.out | apply Kept.alloc | apply Kept.drewN | apply Kept.drew | refine Kept.setCell ?_ (.inr GW289.out) _ | refine Kept.setCell ?_ (.inr GW290.out) _) | exact HK.out)) (fun k_ e_ => (HO_7.out.1 k_ e_))); have n10_ := Aside0.mk (ho); clear HO_290001; clear HO_290002; clear HO_290003; clear HO_290004; clear HO_290005; clear HO_290006; clear BK289; clear BK290; clear HB; clear HK; clear HO_7; have HO_290001 := n0_; have HO_290002 := n1_; have HO_290003 := n2_; have HO_290004 := n3_; have HO_290005 := n4_; have HO_290006 := n5_; have BK289 := n6_; have BK290 := n7_; have HB := n8_; have HK := n9_; have HO316 := n10_; clear n0_ n1_ n2_ n3_ n4_ n5_ n6_ n7_ n8_ n9_ n10_; clear ho hb hg hat; have hcz111_0 : w110.cell? ⟨gb289, 0, none⟩ = some (.int .i64 t292) := (blk_cell BK289.out 0).trans rfl; have hcz111_1 : w110.cell? ⟨gb289, 1, none⟩ = some (.slice Ao109 x290001_1.length co109) := (blk_cell BK289.out 1).trans rfl; have hcz111_2 : w110.cell? ⟨gb289, 2, none⟩ = some (u290002) := (blk_cell BK289.out 2).trans rfl; have hcz111_3 : w110.cell? ⟨gb289, 3, none⟩ = some (u290003) := (blk_cell BK289.out 3).trans rfl; have hcz111_4 : w110.cell? ⟨gb289, 4, none⟩ = some (.slice Ao33 t302.length co33) := (blk_cell BK289.out 4).trans rfl; have hcz111_5 : w110.cell? ⟨gb289, 5, none⟩ = some (u290005) := (blk_cell BK289.out 5).trans rfl; have hcz111_6 : w110.cell? ⟨gb289, 6, none⟩ = some (u290006) := (blk_cell BK289.out 6).trans rfl; have hcz111_7 : w110.cell? ⟨gb289, 7, none⟩ = some (.int .i64 t311) := (blk_cell BK289.out 7).trans rfl; have hcz111_8 : w110.cell? ⟨gb289, 8, none⟩ = some (.int .i64 a1) := (blk_cell BK289.out 8).trans rfl; have hcz111_9 : w110.cell? ⟨gb289, 9, none⟩ = some (.int .i64 t313) := (blk_cell BK289.out 9).trans rfl; have hfz111_0 := blk_frozen BK289.out 0; have hfz111_1 := blk_frozen BK289.out 1; have hfz111_2 := blk_frozen BK289.out 2; have hfz111_3 := blk_frozen BK289.out 3; have hfz111_4 := blk_frozen BK289.out 4; have hfz111_5 := blk_frozen BK289.out 5; have hfz111_6 := blk_frozen BK289.out 6; have hfz111_7 := blk_frozen BK289.out 7; have hfz111_8 := blk_frozen BK289.out 8; have hfz111_9 := blk_frozen BK289.out 9; have hcz112_0 : w110.cell? ⟨gb290, 0, none⟩ = some (.int .i64 0) := (blk_cell BK290.out 0).trans rfl; have hcz112_1 : w110.cell? ⟨gb290, 1, none⟩ = some (.slice none 0 0) := (blk_cell BK290.out 1).trans rfl; have hcz112_2 : w110.cell? ⟨gb290, 2, none⟩ = some (.slice none 0 0) := (blk_cell BK290.out 2).trans rfl; have hcz112_3 : w110.cell? ⟨gb290, 3, none⟩ = some (.slice none 0 0) := (blk_cell BK290.out 3).trans rfl; have hcz112_4 : w110.cell? ⟨gb290, 4, none⟩ = some (.slice none 0 0) := (blk_cell BK290.out 4).trans rfl; have hcz112_5 : w110.cell? ⟨gb290, 5, none⟩ = some (.slice none 0 0) := (blk_cell BK290.out 5).trans rfl; have hcz112_6 : w110.cell? ⟨gb290, 6, none⟩ = some (.slice none 0 0) := (blk_cell BK290.out 6).trans rfl; have hcz112_7 : w110.cell? ⟨gb290, 7, none⟩ = some (.int .i64 0) := (blk_cell BK290.out 7).trans rfl; have hcz112_8 : w110.cell? ⟨gb290, 8, none⟩ = some (.int .i64 0) := (blk_cell BK290.out 8).trans rfl; have hcz112_9 : w110.cell? ⟨gb290, 9, none⟩ = some (.int .i64 0) := (blk_cell BK290.out 9).trans rfl; have hfz112_0 := blk_frozen BK290.out 0; have hfz112_1 := blk_frozen BK290.out 1; have hfz112_2 := blk_frozen BK290.out 2; have hfz112_3 := blk_frozen BK290.out 3; have hfz112_4 := blk_frozen BK290.out 4; have hfz112_5 := blk_frozen BK290.out 5; have hfz112_6 := blk_frozen BK290.out 6; have hfz112_7 := blk_frozen BK290.out 7; have hfz112_8 := blk_frozen BK290.out 8; have hfz112_9 := blk_frozen BK290.out 9; obtain ⟨Ao113, co113, eo113⟩ := Kd.R_slice HO_290002.out; subst eo113; obtain ⟨Ao114, co114, eo114⟩ := Kd.R_slice HO_290003.out; subst eo114; obtain ⟨Ao115, co115, eo115⟩ := Kd.R_slice HO_290005.out; subst eo115; obtain ⟨Ao116, co116, eo116⟩ := Kd.R_slice HO_290006.out; subst eo116))
                 refine bodyPost_ret (results_ctt rfl _ _ gb290 54 #[.int .i64 t292, .slice Ao109 x290001_1.length co109, .slice Ao113 x290002_1.length co113, .slice Ao114 x290003_1.length co114, .slice Ao33 t302.length co33, .slice Ao115 x290005_1.length co115, .slice Ao116 x290006_1.length co116, .int .i64 (wrap64 (a1 + 50)), .int .i64 a1, .int .i64 t313] (0, 0) _ rfl (by (with_reducible repeat first | apply ba | apply bb | apply bc); refine blk_put (cs := #[.int .i64 t292, .slice Ao109 x290001_1.length co109, .slice Ao113 x290002_1.length co113, .slice Ao114 x290003_1.length co114, .slice Ao33 t302.length co33, .slice Ao115 x290005_1.length co115, .slice Ao116 x290006_1.length co116, .int .i64 (wrap64 (a1 + 50)), .int .i64 a1, .int .i64 0]) ?_ 9 _ rfl; (with_reducible repeat first | apply ba | apply bb | apply bc); refine blk_put (cs := #[.int .i64 t292, .slice Ao109 x290001_1.length co109, .slice Ao113 x290002_1.length co113, .slice Ao114 x290003_1.length co114, .slice Ao33 t302.length co33, .slice Ao115 x290005_1.length co115, .slice Ao116 x290006_1.length co116, .int .i64 (wrap64 (a1 + 50)), .int .i64 0, .int .i64 0]) ?_ 8 _ rfl; (with_reducible repeat first | apply ba | apply bb | apply bc); refine blk_put (cs := #[.int .i64 t292, .slice Ao109 x290001_1.length co109, .slice Ao113 x290002_1.length co113, .slice Ao114 x290003_1.length co114, .slice Ao33 t302.length co33, .slice Ao115 x290005_1.length co115, .slice Ao116 x290006_1.length co116, .int .i64 0, .int .i64 0, .int .i64 0]) ?_ 7 _ rfl; (with_reducible repeat first | apply ba | apply bb | apply bc); refine blk_put (cs := #[.int .i64 t292, .slice Ao109 x290001_1.length co109, .slice Ao113 x290002_1.length co113, .slice Ao114 x290003_1.length co114, .slice Ao33 t302.length co33, .slice Ao115 x290005_1.length co115, .slice none 0 0, .int .i64 0, .int .i64 0, .int .i64 0]) ?_ 6 _ rfl; (with_reducible repeat first | apply ba | apply bb | apply bc); refine blk_put (cs := #[.int .i64 t292, .slice Ao109 x290001_1.length co109, .slice Ao113 x290002_1.length co113, .slice Ao114 x290003_1.length co114, .slice Ao33 t302.length co33, .slice none 0 0, .slice none 0 0, .int .i64 0, .int .i64 0, .int .i64 0]) ?_ 5 _ rfl; (with_reducible repeat first | apply ba | apply bb | apply bc); refine blk_put (cs := #[.int .i64 t292, .slice Ao109 x290001_1.length co109, .slice Ao113 x290002_1.length co113, .slice Ao114 x290003_1.length co114, .slice none 0 0, .slice none 0 0, .slice none 0 0, .int .i64 0, .int .i64 0, .int .i64 0]) ?_ 4 _ rfl; (with_reducible repeat first | apply ba | apply bb | apply bc); refine blk_put (cs := #[.int .i64 t292, .slice Ao109 x290001_1.length co109, .slice Ao113 x290002_1.length co113, .slice none 0 0, .slice none 0 0, .slice none 0 0, .slice none 0 0, .int .i64 0, .int .i64 0, .int .i64 0]) ?_ 3 _ rfl; (with_reducible repeat first | apply ba | apply bb | apply bc); refine blk_put (cs := #[.int .i64 t292, .slice Ao109 x290001_1.length co109, .slice none 0 0, .slice none 0 0, .slice none 0 0, .slice none 0 0, .slice none 0 0, .int .i64 0, .int .i64 0, .int .i64 0]) ?_ 2 _ rfl; (with_reducible repeat first | apply ba | apply bb | apply bc); refine blk_put (cs := #[.int .i64 t292, .slice none 0 0, .slice none 0 0, .slice none 0 0, .slice none 0 0, .slice none 0 0, .slice none 0 0, .int .i64 0, .int .i64 0, .int .i64 0]) ?_ 1 _ rfl; (with_reducible repeat first | apply ba | apply bb | apply bc); refine blk_put (cs := #[.int .i64 0, .slice none 0 0, .slice none 0 0, .slice none 0 0, .slice none 0 0, .slice none 0 0, .slice none 0 0, .int .i64 0, .int .i64 0, .int .i64 0]) ?_ 0 _ rfl; (with_reducible repeat first | apply ba | apply bb | apply bc); refine blk_far ?_ NB290_289.out _; (with_reducible repeat first | apply ba | apply bb | apply bc); exact BK290.out) Try.underlying54 rfl (by kernel_rfl)) rfl ?_
                 exact ⟨_, _, _, _, _, _, _, by first | rfl | (simp [errW_none, errW_some] <;> rfl) | (simp [*, errW_none, errW_some] <;> rfl), by (with_reducible repeat first | apply ra | apply rb | apply rc); exact Kd.R_mono (far10 gb290 (Kd.R_far (p := ⟨gb289, 7, none⟩) (Kd.R_types (Kd.R_types HO_290001.out BK289.out (by decide)) BK290.out (by decide)) (fun _ hk => hk.1.2) (.int .i64 (wrap64 (a1 + 50)))) (fun _ hk => hk.2)) (fun _ hk => ⟨hk.1.1.1, ⟨hk.1.1.2.1, hk.1.1.2.2⟩⟩), by (with_reducible repeat first | apply ra | apply rb | apply rc); exact Kd.R_mono (far10 gb290 (Kd.R_far (p := ⟨gb289, 7, none⟩) (Kd.R_types (Kd.R_types HO_290002.out BK289.out (by decide)) BK290.out (by decide)) (fun _ hk => hk.1.2) (.int .i64 (wrap64 (a1 + 50)))) (fun _ hk => hk.2)) (fun _ hk => ⟨hk.1.1.1, ⟨hk.1.1.2.1, hk.1.1.2.2⟩⟩), by (with_reducible repeat first | apply ra | apply rb | apply rc); exact Kd.R_mono (far10 gb290 (Kd.R_far (p := ⟨gb289, 7, none⟩) (Kd.R_types (Kd.R_types HO_290003.out BK289.out (by decide)) BK290.out (by decide)) (fun _ hk => hk.1.2) (.int .i64 (wrap64 (a1 + 50)))) (fun _ hk => hk.2)) (fun _ hk => ⟨hk.1.1.1, ⟨hk.1.1.2.1, hk.1.1.2.2⟩⟩), by (with_reducible repeat first | apply ra | apply rb | apply rc); exact Kd.R_mono (far10 gb290 (Kd.R_far (p := ⟨gb289, 7, none⟩) (Kd.R_types (Kd.R_types HO_290004.out BK289.out (by decide)) BK290.out (by decide)) (fun _ hk => hk.1.2) (.int .i64 (wrap64 (a1 + 50)))) (fun _ hk => hk.2)) (fun _ hk => hk.1.1), by (with_reducible repeat first | apply ra | apply rb | apply rc); exact Kd.R_mono (far10 gb290 (Kd.R_far (p := ⟨gb289, 7, none⟩) (Kd.R_types (Kd.R_types HO_290005.out BK289.out (by decide)) BK290.out (by decide)) (fun _ hk => hk.1.2) (.int .i64 (wrap64 (a1 + 50)))) (fun _ hk => hk.2)) (fun _ hk => ⟨hk.1.1.1, hk.1.1.2⟩), by (with_reducible repeat first | apply ra | apply rb | apply rc); exact Kd.R_mono (far10 gb290 (Kd.R_far (p := ⟨gb289, 7, none⟩) (Kd.R_types (Kd.R_types HO_290006.out BK289.out (by decide)) BK290.out (by decide)) (fun _ hk => hk.1.2) (.int .i64 (wrap64 (a1 + 50)))) (fun _ hk => hk.2)) (fun _ hk => ⟨hk.1.1.1, hk.1.1.2⟩), by (with_reducible repeat first | apply ra | apply rb | apply rc); exact Kd.R_mono (far10 gb290 (Kd.R_far (p := ⟨gb289, 7, none⟩) (Kd.R_types (Kd.R_types HO316.out BK289.out (by decide)) BK290.out (by decide)) (fun _ hk => hk.1.2) (.int .i64 (wrap64 (a1 + 50)))) (fun _ hk => hk.2)) (fun _ hk => hk.1.1), by repeat (first | (with_reducible first | exact HB.out | apply below_alloc | apply pw_below_drewN | apply below_drew1 | refine below_set ?_ GE289.out | refine below_set ?_ GE290.out) | exact HB.out), by repeat (first | (with_reducible first | exact HK.out | apply Kept.alloc | apply Kept.drewN | apply Kept.drew | refine Kept.setCell ?_ (.inr GW289.out) _ | refine Kept.setCell ?_ (.inr GW290.out) _) | exact HK.out)⟩
               · rw [if_neg c106] at H
                 exact absurd H (by simp)
             · rw [if_neg c105] at H
               have c105b0 : decide (t311 ≤ a1) = false := decide_eq_false c105
               clear c105
               simp only [Option.some.injEq, Prod.mk.injEq] at H
               obtain ⟨rfl, rfl, rfl, rfl, rfl, rfl, rfl, rfl, rfl, rfl, rfl, rfl⟩ := H
               have hnb117 := NB289_290.out
               have hnc117 := NB290_289.out
               have hcz118_0 : wr.cell? ⟨gb289, 0, none⟩ = some (.int .i64 t292) := (blk_cell BK289.out 0).trans rfl
               have hcz118_1 : wr.cell? ⟨gb289, 1, none⟩ = some (u290001) := (blk_cell BK289.out 1).trans rfl
               have hcz118_2 : wr.cell? ⟨gb289, 2, none⟩ = some (u290002) := (blk_cell BK289.out 2).trans rfl
               have hcz118_3 : wr.cell? ⟨gb289, 3, none⟩ = some (u290003) := (blk_cell BK289.out 3).trans rfl
               have hcz118_4 : wr.cell? ⟨gb289, 4, none⟩ = some (.slice Ao33 t302.length co33) := (blk_cell BK289.out 4).trans rfl
               have hcz118_5 : wr.cell? ⟨gb289, 5, none⟩ = some (u290005) := (blk_cell BK289.out 5).trans rfl
               have hcz118_6 : wr.cell? ⟨gb289, 6, none⟩ = some (u290006) := (blk_cell BK289.out 6).trans rfl
               have hcz118_7 : wr.cell? ⟨gb289, 7, none⟩ = some (.int .i64 t311) := (blk_cell BK289.out 7).trans rfl
               have hcz118_8 : wr.cell? ⟨gb289, 8, none⟩ = some (.int .i64 a1) := (blk_cell BK289.out 8).trans rfl
               have hcz118_9 : wr.cell? ⟨gb289, 9, none⟩ = some (.int .i64 t313) := (blk_cell BK289.out 9).trans rfl
               have hfz118_0 := blk_frozen BK289.out 0
               have hfz118_1 := blk_frozen BK289.out 1
               have hfz118_2 := blk_frozen BK289.out 2
               have hfz118_3 := blk_frozen BK289.out 3
               have hfz118_4 := blk_frozen BK289.out 4
               have hfz118_5 := blk_frozen BK289.out 5
               have hfz118_6 := blk_frozen BK289.out 6
               have hfz118_7 := blk_frozen BK289.out 7
               have hfz118_8 := blk_frozen BK289.out 8
               have hfz118_9 := blk_frozen BK289.out 9
               obtain ⟨Ao119, co119, eo119⟩ := Kd.R_slice HO_290001.out
               subst eo119
               have hcz120_0 : wr.cell? ⟨gb290, 0, none⟩ = some (.int .i64 0) := (blk_cell BK290.out 0).trans rfl
               have hcz120_1 : wr.cell? ⟨gb290, 1, none⟩ = some (.slice none 0 0) := (blk_cell BK290.out 1).trans rfl
               have hcz120_2 : wr.cell? ⟨gb290, 2, none⟩ = some (.slice none 0 0) := (blk_cell BK290.out 2).trans rfl
               have hcz120_3 : wr.cell? ⟨gb290, 3, none⟩ = some (.slice none 0 0) := (blk_cell BK290.out 3).trans rfl
               have hcz120_4 : wr.cell? ⟨gb290, 4, none⟩ = some (.slice none 0 0) := (blk_cell BK290.out 4).trans rfl
               have hcz120_5 : wr.cell? ⟨gb290, 5, none⟩ = some (.slice none 0 0) := (blk_cell BK290.out 5).trans rfl
               have hcz120_6 : wr.cell? ⟨gb290, 6, none⟩ = some (.slice none 0 0) := (blk_cell BK290.out 6).trans rfl
               have hcz120_7 : wr.cell? ⟨gb290, 7, none⟩ = some (.int .i64 0) := (blk_cell BK290.out 7).trans rfl
               have hcz120_8 : wr.cell? ⟨gb290, 8, none⟩ = some (.int .i64 0) := (blk_cell BK290.out 8).trans rfl
               have hcz120_9 : wr.cell? ⟨gb290, 9, none⟩ = some (.int .i64 0) := (blk_cell BK290.out 9).trans rfl
               have hfz120_0 := blk_frozen BK290.out 0
               have hfz120_1 := blk_frozen BK290.out 1
               have hfz120_2 := blk_frozen BK290.out 2
               have hfz120_3 := blk_frozen BK290.out 3
               have hfz120_4 := blk_frozen BK290.out 4
               have hfz120_5 := blk_frozen BK290.out 5
               have hfz120_6 := blk_frozen BK290.out 6
               have hfz120_7 := blk_frozen BK290.out 7
               have hfz120_8 := blk_frozen BK290.out 8
               have hfz120_9 := blk_frozen BK290.out 9
               obtain ⟨Ao121, co121, eo121⟩ := Kd.R_slice HO_290002.out
               subst eo121
               obtain ⟨Ao122, co122, eo122⟩ := Kd.R_slice HO_290003.out
               subst eo122
               obtain ⟨Ao123, co123, eo123⟩ := Kd.R_slice HO_290005.out
               subst eo123
               obtain ⟨Ao124, co124, eo124⟩ := Kd.R_slice HO_290006.out
               subst eo124
               go_wp2
               refine bodyPost_ret (results_ctt rfl _ _ gb290 54 #[.int .i64 t292, .slice Ao119 x290001_1.length co119, .slice Ao121 x290002_1.length co121, .slice Ao122 x290003_1.length co122, .slice Ao33 t302.length co33, .slice Ao123 x290005_1.length co123, .slice Ao124 x290006_1.length co124, .int .i64 t311, .int .i64 a1, .int .i64 t313] (0, 0) _ rfl (by (with_reducible repeat first | apply ba | apply bb | apply bc); refine blk_put (cs := #[.int .i64 t292, .slice Ao119 x290001_1.length co119, .slice Ao121 x290002_1.length co121, .slice Ao122 x290003_1.length co122, .slice Ao33 t302.length co33, .slice Ao123 x290005_1.length co123, .slice Ao124 x290006_1.length co124, .int .i64 t311, .int .i64 a1, .int .i64 0]) ?_ 9 _ rfl; (with_reducible repeat first | apply ba | apply bb | apply bc); refine blk_put (cs := #[.int .i64 t292, .slice Ao119 x290001_1.length co119, .slice Ao121 x290002_1.length co121, .slice Ao122 x290003_1.length co122, .slice Ao33 t302.length co33, .slice Ao123 x290005_1.length co123, .slice Ao124 x290006_1.length co124, .int .i64 t311, .int .i64 0, .int .i64 0]) ?_ 8 _ rfl; (with_reducible repeat first | apply ba | apply bb | apply bc); refine blk_put (cs := #[.int .i64 t292, .slice Ao119 x290001_1.length co119, .slice Ao121 x290002_1.length co121, .slice Ao122 x290003_1.length co122, .slice Ao33 t302.length co33, .slice Ao123 x290005_1.length co123, .slice Ao124 x290006_1.length co124, .int .i64 0, .int .i64 0, .int .i64 0]) ?_ 7 _ rfl; (with_reducible repeat first | apply ba | apply bb | apply bc); refine blk_put (cs := #[.int .i64 t292, .slice Ao119 x290001_1.length co119, .slice Ao121 x290002_1.length co121, .slice Ao122 x290003_1.length co122, .slice Ao33 t302.length co33, .slice Ao123 x290005_1.length co123, .slice none 0 0, .int .i64 0, .int .i64 0, .int .i64 0]) ?_ 6 _ rfl; (with_reducible repeat first | apply ba | apply bb | apply bc); refine blk_put (cs := #[.int .i64 t292, .slice Ao119 x290001_1.length co119, .slice Ao121 x290002_1.length co121, .slice Ao122 x290003_1.length co122, .slice Ao33 t302.length co33, .slice none 0 0, .slice none 0 0, .int .i64 0, .int .i64 0, .int .i64 0]) ?_ 5 _ rfl; (with_reducible repeat first | apply ba | apply bb | apply bc); refine blk_put (cs := #[.int .i64 t292, .slice Ao119 x290001_1.length co119, .slice Ao121 x290002_1.length co121, .slice Ao122 x290003_1.length co122, .slice none 0 0, .slice none 0 0, .slice none 0 0, .int .i64 0, .int .i64 0, .int .i64 0]) ?_ 4 _ rfl; (with_reducible repeat first | apply ba | apply bb | apply bc); refine blk_put (cs := #[.int .i64 t292, .slice Ao119 x290001_1.length co119, .slice Ao121 x290002_1.length co121, .slice none 0 0, .slice none 0 0, .slice none 0 0, .slice none 0 0, .int .i64 0, .int .i64 0, .int .i64 0]) ?_ 3 _ rfl; (with_reducible repeat first | apply ba | apply bb | apply bc); refine blk_put (cs := #[.int .i64 t292, .slice Ao119 x290001_1.length co119, .slice none 0 0, .slice none 0 0, .slice none 0 0, .slice none 0 0, .slice none 0 0, .int .i64 0, .int .i64 0, .int .i64 0]) ?_ 2 _ rfl; (with_reducible repeat first | apply ba | apply bb | apply bc); refine blk_put (cs := #[.int .i64 t292, .slice none 0 0, .slice none 0 0, .slice none 0 0, .slice none 0 0, .slice none 0 0, .slice none 0 0, .int .i64 0, .int .i64 0, .int .i64 0]) ?_ 1 _ rfl; (with_reducible repeat first | apply ba | apply bb | apply bc); refine blk_put (cs := #[.int .i64 0, .slice none 0 0, .slice none 0 0, .slice none 0 0, .slice none 0 0, .slice none 0 0, .slice none 0 0, .int .i64 0, .int .i64 0, .int .i64 0]) ?_ 0 _ rfl; (with_reducible repeat first | apply ba | apply bb | apply bc); exact BK290.out) Try.underlying54 rfl (by kernel_rfl)) rfl ?_
               exact ⟨_, _, _, _, _, _, _, by first | rfl | (simp [errW_none, errW_some] <;> rfl) | (simp [*, errW_none, errW_some] <;> rfl), by (with_reducible repeat first | apply ra | apply rb | apply rc); exact Kd.R_mono (far10 gb290 (Kd.R_types HO_290001.out BK290.out (by decide)) (fun _ hk => hk.2)) (fun _ hk => ⟨hk.1.1, ⟨hk.1.2.1, hk.1.2.2⟩⟩), by (with_reducible repeat first | apply ra | apply rb | apply rc); exact Kd.R_mono (far10 gb290 (Kd.R_types HO_290002.out BK290.out (by decide)) (fun _ hk => hk.2)) (fun _ hk => ⟨hk.1.1, ⟨hk.1.2.1, hk.1.2.2⟩⟩), by (with_reducible repeat first | apply ra | apply rb | apply rc); exact Kd.R_mono (far10 gb290 (Kd.R_types HO_290003.out BK290.out (by decide)) (fun _ hk => hk.2)) (fun _ hk => ⟨hk.1.1, ⟨hk.1.2.1, hk.1.2.2⟩⟩), by (with_reducible repeat first | apply ra | apply rb | apply rc); exact Kd.R_mono (far10 gb290 (Kd.R_types HO_290004.out BK290.out (by decide)) (fun _ hk => hk.2)) (fun _ hk => hk.1), by (with_reducible repeat first | apply ra | apply rb | apply rc); exact Kd.R_mono (far10 gb290 (Kd.R_types HO_290005.out BK290.out (by decide)) (fun _ hk => hk.2)) (fun _ hk => ⟨hk.1.1, hk.1.2⟩), by (with_reducible repeat first | apply ra | apply rb | apply rc); exact Kd.R_mono (far10 gb290 (Kd.R_types HO_290006.out BK290.out (by decide)) (fun _ hk => hk.2)) (fun _ hk => ⟨hk.1.1, hk.1.2⟩), by (with_reducible repeat first | apply ra | apply rb | apply rc); exact Kd.R_mono (far10 gb290 (Kd.R_types HO_7.out BK290.out (by decide)) (fun _ hk => hk.2)) (fun _ hk => hk.1), by repeat (first | (with_reducible first | exact HB.out | apply below_alloc | apply pw_below_drewN | apply below_drew1 | refine below_set ?_ GE289.out | refine below_set ?_ GE290.out) | exact HB.out), by repeat (first | (with_reducible first | exact HK.out | apply Kept.alloc | apply Kept.drewN | apply Kept.drew | refine Kept.setCell ?_ (.inr GW289.out) _ | refine Kept.setCell ?_ (.inr GW290.out) _) | exact HK.out)⟩
           · rw [if_neg c104] at H
             have c104b0 : decide (0 < (x290001_1.length : Int)) = false := decide_eq_false c104
             have c104b1 : decide (0 < x290001_1.length) = false := decide_eq_false (by omega)
             clear c104
             simp only [Option.some.injEq, Prod.mk.injEq] at H
             obtain ⟨rfl, rfl, rfl, rfl, rfl, rfl, rfl, rfl, rfl, rfl, rfl, rfl⟩ := H
             have hnb125 := NB289_290.out
             have hnc125 := NB290_289.out
             have hcz126_0 : wr.cell? ⟨gb289, 0, none⟩ = some (.int .i64 t292) := (blk_cell BK289.out 0).trans rfl
             have hcz126_1 : wr.cell? ⟨gb289, 1, none⟩ = some (u290001) := (blk_cell BK289.out 1).trans rfl
             have hcz126_2 : wr.cell? ⟨gb289, 2, none⟩ = some (u290002) := (blk_cell BK289.out 2).trans rfl
             have hcz126_3 : wr.cell? ⟨gb289, 3, none⟩ = some (u290003) := (blk_cell BK289.out 3).trans rfl
             have hcz126_4 : wr.cell? ⟨gb289, 4, none⟩ = some (.slice Ao33 t302.length co33) := (blk_cell BK289.out 4).trans rfl
             have hcz126_5 : wr.cell? ⟨gb289, 5, none⟩ = some (u290005) := (blk_cell BK289.out 5).trans rfl
             have hcz126_6 : wr.cell? ⟨gb289, 6, none⟩ = some (u290006) := (blk_cell BK289.out 6).trans rfl
             have hcz126_7 : wr.cell? ⟨gb289, 7, none⟩ = some (.int .i64 t311) := (blk_cell BK289.out 7).trans rfl
             have hcz126_8 : wr.cell? ⟨gb289, 8, none⟩ = some (.int .i64 a1) := (blk_cell BK289.out 8).trans rfl
             have hcz126_9 : wr.cell? ⟨gb289, 9, none⟩ = some (.int .i64 t313) := (blk_cell BK289.out 9).trans rfl
             have hfz126_0 := blk_frozen BK289.out 0
             have hfz126_1 := blk_frozen BK289.out 1
             have hfz126_2 := blk_frozen BK289.out 2
             have hfz126_3 := blk_frozen BK289.out 3
             have hfz126_4 := blk_frozen BK289.out 4
             have hfz126_5 := blk_frozen BK289.out 5
             have hfz126_6 := blk_frozen BK289.out 6
             have hfz126_7 := blk_frozen BK289.out 7
             have hfz126_8 := blk_frozen BK289.out 8
             have hfz126_9 := blk_frozen BK289.out 9
             obtain ⟨Ao127, co127, eo127⟩ := Kd.R_slice HO_290001.out
             subst eo127
             have hcz128_0 : wr.cell? ⟨gb290, 0, none⟩ = some (.int .i64 0) := (blk_cell BK290.out 0).trans rfl
             have hcz128_1 : wr.cell? ⟨gb290, 1, none⟩ = some (.slice none 0 0) := (blk_cell BK290.out 1).trans rfl
             have hcz128_2 : wr.cell? ⟨gb290, 2, none⟩ = some (.slice none 0 0) := (blk_cell BK290.out 2).trans rfl
             have hcz128_3 : wr.cell? ⟨gb290, 3, none⟩ = some (.slice none 0 0) := (blk_cell BK290.out 3).trans rfl
             have hcz128_4 : wr.cell? ⟨gb290, 4, none⟩ = some (.slice none 0 0) := (blk_cell BK290.out 4).trans rfl
             have hcz128_5 : wr.cell? ⟨gb290, 5, none⟩ = some (.slice none 0 0) := (blk_cell BK290.out 5).trans rfl
             have hcz128_6 : wr.cell? ⟨gb290, 6, none⟩ = some (.slice none 0 0) := (blk_cell BK290.out 6).trans rfl
             have hcz128_7 : wr.cell? ⟨gb290, 7, none⟩ = some (.int .i64 0) := (blk_cell BK290.out 7).trans rfl
             have hcz128_8 : wr.cell? ⟨gb290, 8, none⟩ = some (.int .i64 0) := (blk_cell BK290.out 8).trans rfl
             have hcz128_9 : wr.cell? ⟨gb290, 9, none⟩ = some (.int .i64 0) := (blk_cell BK290.out 9).trans rfl
             have hfz128_0 := blk_frozen BK290.out 0
             have hfz128_1 := blk_frozen BK290.out 1
             have hfz128_2 := blk_frozen BK290.out 2
             have hfz128_3 := blk_frozen BK290.out 3
             have hfz128_4 := blk_frozen BK290.out 4
             have hfz128_5 := blk_frozen BK290.out 5
             have hfz128_6 := blk_frozen BK290.out 6
             have hfz128_7 := blk_frozen BK290.out 7
             have hfz128_8 := blk_frozen BK290.out 8
             have hfz128_9 := blk_frozen BK290.out 9
             obtain ⟨Ao129, co129, eo129⟩ := Kd.R_slice HO_290002.out
             subst eo129
             obtain ⟨Ao130, co130, eo130⟩ := Kd.R_slice HO_290003.out
             subst eo130
             obtain ⟨Ao131, co131, eo131⟩ := Kd.R_slice HO_290005.out
             subst eo131
             obtain ⟨Ao132, co132, eo132⟩ := Kd.R_slice HO_290006.out
             subst eo132
             go_wp2
             refine bodyPost_ret (results_ctt rfl _ _ gb290 54 #[.int .i64 t292, .slice Ao127 x290001_1.length co127, .slice Ao129 x290002_1.length co129, .slice Ao130 x290003_1.length co130, .slice Ao33 t302.length co33, .slice Ao131 x290005_1.length co131, .slice Ao132 x290006_1.length co132, .int .i64 t311, .int .i64 a1, .int .i64 t313] (0, 0) _ rfl (by (with_reducible repeat first | apply ba | apply bb | apply bc); refine blk_put (cs := #[.int .i64 t292, .slice Ao127 x290001_1.length co127, .slice Ao129 x290002_1.length co129, .slice Ao130 x290003_1.length co130, .slice Ao33 t302.length co33, .slice Ao131 x290005_1.length co131, .slice Ao132 x290006_1.length co132, .int .i64 t311, .int .i64 a1, .int .i64 0]) ?_ 9 _ rfl; (with_reducible repeat first | apply ba | apply bb | apply bc); refine blk_put (cs := #[.int .i64 t292, .slice Ao127 x290001_1.length co127, .slice Ao129 x290002_1.length co129, .slice Ao130 x290003_1.length co130, .slice Ao33 t302.length co33, .slice Ao131 x290005_1.length co131, .slice Ao132 x290006_1.length co132, .int .i64 t311, .int .i64 0, .int .i64 0]) ?_ 8 _ rfl; (with_reducible repeat first | apply ba | apply bb | apply bc); refine blk_put (cs := #[.int .i64 t292, .slice Ao127 x290001_1.length co127, .slice Ao129 x290002_1.length co129, .slice Ao130 x290003_1.length co130, .slice Ao33 t302.length co33, .slice Ao131 x290005_1.length co131, .slice Ao132 x290006_1.length co132, .int .i64 0, .int .i64 0, .int .i64 0]) ?_ 7 _ rfl; (with_reducible repeat first | apply ba | apply bb | apply bc); refine blk_put (cs := #[.int .i64 t292, .slice Ao127 x290001_1.length co127, .slice Ao129 x290002_1.length co129, .slice Ao130 x290003_1.length co130, .slice Ao33 t302.length co33, .slice Ao131 x290005_1.length co131, .slice none 0 0, .int .i64 0, .int .i64 0, .int .i64 0]) ?_ 6 _ rfl; (with_reducible repeat first | apply ba | apply bb | apply bc); refine blk_put (cs := #[.int .i64 t292, .slice Ao127 x290001_1.length co127, .slice Ao129 x290002_1.length co129, .slice Ao130 x290003_1.length co130, .slice Ao33 t302.length co33, .slice none 0 0, .slice none 0 0, .int .i64 0, .int .i64 0, .int .i64 0]) ?_ 5 _ rfl; (with_reducible repeat first | apply ba | apply bb | apply bc); refine blk_put (cs := #[.int .i64 t292, .slice Ao127 x290001_1.length co127, .slice Ao129 x290002_1.length co129, .slice Ao130 x290003_1.length co130, .slice none 0 0, .slice none 0 0, .slice none 0 0, .int .i64 0, .int .i64 0, .int .i64 0]) ?_ 4 _ rfl; (with_reducible repeat first | apply ba | apply bb | apply bc); refine blk_put (cs := #[.int .i64 t292, .slice Ao127 x290001_1.length co127, .slice Ao129 x290002_1.length co129, .slice none 0 0, .slice none 0 0, .slice none 0 0, .slice none 0 0, .int .i64 0, .int .i64 0, .int .i64 0]) ?_ 3 _ rfl; (with_reducible repeat first | apply ba | apply bb | apply bc); refine blk_put (cs := #[.int .i64 t292, .slice Ao127 x290001_1.length co127, .slice none 0 0, .slice none 0 0, .slice none 0 0, .slice none 0 0, .slice none 0 0, .int .i64 0, .int .i64 0, .int .i64 0]) ?_ 2 _ rfl; (with_reducible repeat first | apply ba | apply bb | apply bc); refine blk_put (cs := #[.int .i64 t292, .slice none 0 0, .slice none 0 0, .slice none 0 0, .slice none 0 0, .slice none 0 0, .slice none 0 0, .int .i64 0, .int .i64 0, .int .i64 0]) ?_ 1 _ rfl; (with_reducible repeat first | apply ba | apply bb | apply bc); refine blk_put (cs := #[.int .i64 0, .slice none 0 0, .slice none 0 0, .slice none 0 0, .slice none 0 0, .slice none 0 0, .slice none 0 0, .int .i64 0, .int .i64 0, .int .i64 0]) ?_ 0 _ rfl; (with_reducible repeat first | apply ba | apply bb | apply bc); exact BK290.out) Try.underlying54 rfl (by kernel_rfl)) rfl ?_
             exact ⟨_, _, _, _, _, _, _, by first | rfl | (simp [errW_none, errW_some] <;> rfl) | (simp [*, errW_none, errW_some] <;> rfl), by (with_reducible repeat first | apply ra | apply rb | apply rc); exact Kd.R_mono (far10 gb290 (Kd.R_types HO_290001.out BK290.out (by decide)) (fun _ hk => hk.2)) (fun _ hk => ⟨hk.1.1, ⟨hk.1.2.1, hk.1.2.2⟩⟩), by (with_reducible repeat first | apply ra | apply rb | apply rc); exact Kd.R_mono (far10 gb290 (Kd.R_types HO_290002.out BK290.out (by decide)) (fun _ hk => hk.2)) (fun _ hk => ⟨hk.1.1, ⟨hk.1.2.1, hk.1.2.2⟩⟩), by (with_reducible repeat first | apply ra | apply rb | apply rc); exact Kd.R_mono (far10 gb290 (Kd.R_types HO_290003.out BK290.out (by decide)) (fun _ hk => hk.2)) (fun _ hk => ⟨hk.1.1, ⟨hk.1.2.1, hk.1.2.2⟩⟩), by (with_reducible repeat first | apply ra | apply rb | apply rc); exact Kd.R_mono (far10 gb290 (Kd.R_types HO_290004.out BK290.out (by decide)) (fun _ hk => hk.2)) (fun _ hk => hk.1), by (with_reducible repeat first | apply ra | apply rb | apply rc); exact Kd.R_mono (far10 gb290 (Kd.R_types HO_290005.out BK290.out (by decide)) (fun _ hk => hk.2)) (fun _ hk => ⟨hk.1.1, hk.1.2⟩), by (with_reducible repeat first | apply ra | apply rb | apply rc); exact Kd.R_mono (far10 gb290 (Kd.R_types HO_290006.out BK290.out (by decide)) (fun _ hk => hk.2)) (fun _ hk => ⟨hk.1.1, hk.1.2⟩), by (with_reducible repeat first | apply ra | apply rb | apply rc); exact Kd.R_mono (far10 gb290 (Kd.R_types HO_7.out BK290.out (by decide)) (fun _ hk => hk.2)) (fun _ hk => hk.1), by repeat (first | (with_reducible first | exact HB.out | apply below_alloc | apply pw_below_drewN | apply below_drew1 | refine below_set ?_ GE289.out | refine below_set ?_ GE290.out) | exact HB.out), by repeat (first | (with_reducible first | exact HK.out | apply Kept.alloc | apply Kept.drewN | apply Kept.drew | refine Kept.setCell ?_ (.inr GW289.out) _ | refine Kept.setCell ?_ (.inr GW290.out) _) | exact HK.out)⟩
         · rw [if_neg c103] at H
           have c103b0 : (t292 == 0) = false := beq_eq_false_iff_ne.mpr c103
           have c103b1 : (t292 != 0) = true := bne_iff_ne.mpr c103
           simp only [Option.some.injEq, Prod.mk.injEq] at H
           obtain ⟨rfl, rfl, rfl, rfl, rfl, rfl, rfl, rfl, rfl, rfl, rfl, rfl⟩ := H
           have hnb133 := NB289_290.out
           have hnc133 := NB290_289.out
           have hcz134_0 : wr.cell? ⟨gb289, 0, none⟩ = some (.int .i64 t292) := (blk_cell BK289.out 0).trans rfl
           have hcz134_1 : wr.cell? ⟨gb289, 1, none⟩ = some (u290001) := (blk_cell BK289.out 1).trans rfl
           have hcz134_2 : wr.cell? ⟨gb289, 2, none⟩ = some (u290002) := (blk_cell BK289.out 2).trans rfl
           have hcz134_3 : wr.cell? ⟨gb289, 3, none⟩ = some (u290003) := (blk_cell BK289.out 3).trans rfl
           have hcz134_4 : wr.cell? ⟨gb289, 4, none⟩ = some (.slice Ao33 t302.length co33) := (blk_cell BK289.out 4).trans rfl
           have hcz134_5 : wr.cell? ⟨gb289, 5, none⟩ = some (u290005) := (blk_cell BK289.out 5).trans rfl
           have hcz134_6 : wr.cell? ⟨gb289, 6, none⟩ = some (u290006) := (blk_cell BK289.out 6).trans rfl
           have hcz134_7 : wr.cell? ⟨gb289, 7, none⟩ = some (.int .i64 t311) := (blk_cell BK289.out 7).trans rfl
           have hcz134_8 : wr.cell? ⟨gb289, 8, none⟩ = some (.int .i64 a1) := (blk_cell BK289.out 8).trans rfl
           have hcz134_9 : wr.cell? ⟨gb289, 9, none⟩ = some (.int .i64 t313) := (blk_cell BK289.out 9).trans rfl
           have hfz134_0 := blk_frozen BK289.out 0
           have hfz134_1 := blk_frozen BK289.out 1
           have hfz134_2 := blk_frozen BK289.out 2
           have hfz134_3 := blk_frozen BK289.out 3
           have hfz134_4 := blk_frozen BK289.out 4
           have hfz134_5 := blk_frozen BK289.out 5
           have hfz134_6 := blk_frozen BK289.out 6
           have hfz134_7 := blk_frozen BK289.out 7
           have hfz134_8 := blk_frozen BK289.out 8
           have hfz134_9 := blk_frozen BK289.out 9
           obtain ⟨Ao135, co135, eo135⟩ := Kd.R_slice HO_290001.out
           subst eo135
           have hcz136_0 : wr.cell? ⟨gb290, 0, none⟩ = some (.int .i64 0) := (blk_cell BK290.out 0).trans rfl
           have hcz136_1 : wr.cell? ⟨gb290, 1, none⟩ = some (.slice none 0 0) := (blk_cell BK290.out 1).trans rfl
           have hcz136_2 : wr.cell? ⟨gb290, 2, none⟩ = some (.slice none 0 0) := (blk_cell BK290.out 2).trans rfl
           have hcz136_3 : wr.cell? ⟨gb290, 3, none⟩ = some (.slice none 0 0) := (blk_cell BK290.out 3).trans rfl
           have hcz136_4 : wr.cell? ⟨gb290, 4, none⟩ = some (.slice none 0 0) := (blk_cell BK290.out 4).trans rfl
           have hcz136_5 : wr.cell? ⟨gb290, 5, none⟩ = some (.slice none 0 0) := (blk_cell BK290.out 5).trans rfl
           have hcz136_6 : wr.cell? ⟨gb290, 6, none⟩ = some (.slice none 0 0) := (blk_cell BK290.out 6).trans rfl
           have hcz136_7 : wr.cell? ⟨gb290, 7, none⟩ = some (.int .i64 0) := (blk_cell BK290.out 7).trans rfl
           have hcz136_8 : wr.cell? ⟨gb290, 8, none⟩ = some (.int .i64 0) := (blk_cell BK290.out 8).trans rfl
           have hcz136_9 : wr.cell? ⟨gb290, 9, none⟩ = some (.int .i64 0) := (blk_cell BK290.out 9).trans rfl
           have hfz136_0 := blk_frozen BK290.out 0
           have hfz136_1 := blk_frozen BK290.out 1
           have hfz136_2 := blk_frozen BK290.out 2
           have hfz136_3 := blk_frozen BK290.out 3
           have hfz136_4 := blk_frozen BK290.out 4
           have hfz136_5 := blk_frozen BK290.out 5
           have hfz136_6 := blk_frozen BK290.out 6
           have hfz136_7 := blk_frozen BK290.out 7
           have hfz136_8 := blk_frozen BK290.out 8
           have hfz136_9 := blk_frozen BK290.out 9
           obtain ⟨Ao137, co137, eo137⟩ := Kd.R_slice HO_290002.out
           subst eo137
           obtain ⟨Ao138, co138, eo138⟩ := Kd.R_slice HO_290003.out
           subst eo138
           obtain ⟨Ao139, co139, eo139⟩ := Kd.R_slice HO_290005.out
           subst eo139
           obtain ⟨Ao140, co140, eo140⟩ := Kd.R_slice HO_290006.out
           subst eo140
           go_wp2
           refine bodyPost_ret (results_ctt rfl _ _ gb290 54 #[.int .i64 t292, .slice Ao135 x290001_1.length co135, .slice Ao137 x290002_1.length co137, .slice Ao138 x290003_1.length co138, .slice Ao33 t302.length co33, .slice Ao139 x290005_1.length co139, .slice Ao140 x290006_1.length co140, .int .i64 t311, .int .i64 a1, .int .i64 t313] (0, 0) _ rfl (by (with_reducible repeat first | apply ba | apply bb | apply bc); refine blk_put (cs := #[.int .i64 t292, .slice Ao135 x290001_1.length co135, .slice Ao137 x290002_1.length co137, .slice Ao138 x290003_1.length co138, .slice Ao33 t302.length co33, .slice Ao139 x290005_1.length co139, .slice Ao140 x290006_1.length co140, .int .i64 t311, .int .i64 a1, .int .i64 0]) ?_ 9 _ rfl; (with_reducible repeat first | apply ba | apply bb | apply bc); refine blk_put (cs := #[.int .i64 t292, .slice Ao135 x290001_1.length co135, .slice Ao137 x290002_1.length co137, .slice Ao138 x290003_1.length co138, .slice Ao33 t302.length co33, .slice Ao139 x290005_1.length co139, .slice Ao140 x290006_1.length co140, .int .i64 t311, .int .i64 0, .int .i64 0]) ?_ 8 _ rfl; (with_reducible repeat first | apply ba | apply bb | apply bc); refine blk_put (cs := #[.int .i64 t292, .slice Ao135 x290001_1.length co135, .slice Ao137 x290002_1.length co137, .slice Ao138 x290003_1.length co138, .slice Ao33 t302.length co33, .slice Ao139 x290005_1.length co139, .slice Ao140 x290006_1.length co140, .int .i64 0, .int .i64 0, .int .i64 0]) ?_ 7 _ rfl; (with_reducible repeat first | apply ba | apply bb | apply bc); refine blk_put (cs := #[.int .i64 t292, .slice Ao135 x290001_1.length co135, .slice Ao137 x290002_1.length co137, .slice Ao138 x290003_1.length co138, .slice Ao33 t302.length co33, .slice Ao139 x290005_1.length co139, .slice none 0 0, .int .i64 0, .int .i64 0, .int .i64 0]) ?_ 6 _ rfl; (with_reducible repeat first | apply ba | apply bb | apply bc); refine blk_put (cs := #[.int .i64 t292, .slice Ao135 x290001_1.length co135, .slice Ao137 x290002_1.length co137, .slice Ao138 x290003_1.length co138, .slice Ao33 t302.length co33, .slice none 0 0, .slice none 0 0, .int .i64 0, .int .i64 0, .int .i64 0]) ?_ 5 _ rfl; (with_reducible repeat first | apply ba | apply bb | apply bc); refine blk_put (cs := #[.int .i64 t292, .slice Ao135 x290001_1.length co135, .slice Ao137 x290002_1.length co137, .slice Ao138 x290003_1.length co138, .slice none 0 0, .slice none 0 0, .slice none 0 0, .int .i64 0, .int .i64 0, .int .i64 0]) ?_ 4 _ rfl; (with_reducible repeat first | apply ba | apply bb | apply bc); refine blk_put (cs := #[.int .i64 t292, .slice Ao135 x290001_1.length co135, .slice Ao137 x290002_1.length co137, .slice none 0 0, .slice none 0 0, .slice none 0 0, .slice none 0 0, .int .i64 0, .int .i64 0, .int .i64 0]) ?_ 3 _ rfl; (with_reducible repeat first | apply ba | apply bb | apply bc); refine blk_put (cs := #[.int .i64 t292, .slice Ao135 x290001_1.length co135, .slice none 0 0, .slice none 0 0, .slice none 0 0, .slice none 0 0, .slice none 0 0, .int .i64 0, .int .i64 0, .int .i64 0]) ?_ 2 _ rfl; (with_reducible repeat first | apply ba | apply bb | apply bc); refine blk_put (cs := #[.int .i64 t292, .slice none 0 0, .slice none 0 0, .slice none 0 0, .slice none 0 0, .slice none 0 0, .slice none 0 0, .int .i64 0, .int .i64 0, .int .i64 0]) ?_ 1 _ rfl; (with_reducible repeat first | apply ba | apply bb | apply bc); refine blk_put (cs := #[.int .i64 0, .slice none 0 0, .slice none 0 0, .slice none 0 0, .slice none 0 0, .slice none 0 0, .slice none 0 0, .int .i64 0, .int .i64 0, .int .i64 0]) ?_ 0 _ rfl; (with_reducible repeat first | apply ba | apply bb | apply bc); exact BK290.out) Try.underlying54 rfl (by kernel_rfl)) rfl ?_
           exact ⟨_, _, _, _, _, _, _, by first | rfl | (simp [errW_none, errW_some] <;> rfl) | (simp [*, errW_none, errW_some] <;> rfl), by (with_reducible repeat first | apply ra | apply rb | apply rc); exact Kd.R_mono (far10 gb290 (Kd.R_types HO_290001.out BK290.out (by decide)) (fun _ hk => hk.2)) (fun _ hk => ⟨hk.1.1, ⟨hk.1.2.1, hk.1.2.2⟩⟩), by (with_reducible repeat first | apply ra | apply rb | apply rc); exact Kd.R_mono (far10 gb290 (Kd.R_types HO_290002.out BK290.out (by decide)) (fun _ hk => hk.2)) (fun _ hk => ⟨hk.1.1, ⟨hk.1.2.1, hk.1.2.2⟩⟩), by (with_reducible repeat first | apply ra | apply rb | apply rc); exact Kd.R_mono (far10 gb290 (Kd.R_types HO_290003.out BK290.out (by decide)) (fun _ hk => hk.2)) (fun _ hk => ⟨hk.1.1, ⟨hk.1.2.1, hk.1.2.2⟩⟩), by (with_reducible repeat first | apply ra | apply rb | apply rc); exact Kd.R_mono (far10 gb290 (Kd.R_types HO_290004.out BK290.out (by decide)) (fun _ hk => hk.2)) (fun _ hk => hk.1), by (with_reducible repeat first | apply ra | apply rb | apply rc); exact Kd.R_mono (far10 gb290 (Kd.R_types HO_290005.out BK290.out (by decide)) (fun _ hk => hk.2)) (fun _ hk => ⟨hk.1.1, hk.1.2⟩), by (with_reducible repeat first | apply ra | apply rb | apply rc); exact Kd.R_mono (far10 gb290 (Kd.R_types HO_290006.out BK290.out (by decide)) (fun _ hk => hk.2)) (fun _ hk => ⟨hk.1.1, hk.1.2⟩), by (with_reducible repeat first | apply ra | apply rb | apply rc); exact Kd.R_mono (far10 gb290 (Kd.R_types HO_7.out BK290.out (by decide)) (fun _ hk => hk.2)) (fun _ hk => hk.1), by repeat (first | (with_reducible first | exact HB.out | apply below_alloc | apply pw_below_drewN | apply below_drew1 | refine below_set ?_ GE289.out | refine below_set ?_ GE290.out) | exact HB.out), by repeat (first | (with_reducible first | exact HK.out | apply Kept.alloc | apply Kept.drewN | apply Kept.drew | refine Kept.setCell ?_ (.inr GW289.out) _ | refine Kept.setCell ?_ (.inr GW290.out) _) | exact HK.out)⟩
 · replace c4 := Bool.eq_false_iff.mpr c4
   subst c4
   have H1 : (some (a0_0, l0_1, l0_2, l0_3, l0_4, l0_5, l0_6, a0_7, a0_8, a0_9, ([] : List (S56)), 1)) = some (r1, r2, r3, r4, r5, r6, r7, r8, r9, r10, r11, r12) := by rw [if_neg (show ¬ (false = true) by decide)] at H; exact H
   clear H
   have H := H1
   clear H1
   simp only [Option.some.injEq, Prod.mk.injEq] at H
   obtain ⟨rfl, rfl, rfl, rfl, rfl, rfl, rfl, rfl, rfl, rfl, rfl, rfl⟩ := H
   obtain ⟨Ao141, co141, eo141⟩ := Kd.R_slice HO0_1.out
   subst eo141
   obtain ⟨Ao142, co142, eo142⟩ := Kd.R_slice HO0_2.out
   subst eo142
   obtain ⟨Ao143, co143, eo143⟩ := Kd.R_slice HO0_3.out
   subst eo143
   obtain ⟨Ao144, co144, eo144⟩ := Kd.R_slice HO0_4.out
   subst eo144
   obtain ⟨Ao145, co145, eo145⟩ := Kd.R_slice HO0_5.out
   subst eo145
   obtain ⟨Ao146, co146, eo146⟩ := Kd.R_slice HO0_6.out
   subst eo146
   go_enter Try.func28, Try.ntmps28
   go_wp2_with (first | ((with_reducible refine gate_dst (N := 2) rfl ?_); (try (refine gate_guard (by rfl) ?_; dsimp only)); refine box_event ?hg (N := 2) ?hd (cs := #[.int .i64 a0_0, .slice Ao141 l0_1.length co141, .slice Ao142 l0_2.length co142, .slice Ao143 l0_3.length co143, .slice Ao144 l0_4.length co144, .slice Ao145 l0_5.length co145, .slice Ao146 l0_6.length co146, .int .i64 a0_7, .int .i64 a0_8, .int .i64 a0_9]) (t := 54) ?hr ?_; (case hd => rfl); (case hg => rfl); (case hr => first | (go_simp; done) | (go_simp; rfl)); intro gb289 hg w147 hbox hb; have n0_ := Aside0.mk (Kd.R_below (by (with_reducible repeat first | apply ra | apply rb | apply rc); exact HO0_1.out) hb); have n1_ := Aside0.mk (Kd.R_below (by (with_reducible repeat first | apply ra | apply rb | apply rc); exact HO0_2.out) hb); have n2_ := Aside0.mk (Kd.R_below (by (with_reducible repeat first | apply ra | apply rb | apply rc); exact HO0_3.out) hb); have n3_ := Aside0.mk (Kd.R_below (by (with_reducible repeat first | apply ra | apply rb | apply rc); exact HO0_4.out) hb); have n4_ := Aside0.mk (Kd.R_below (by (with_reducible repeat first | apply ra | apply rb | apply rc); exact HO0_5.out) hb); have n5_ := Aside0.mk (Kd.R_below (by (with_reducible repeat first | apply ra | apply rb | apply rc); exact HO0_6.out) hb); have n6_ := Aside0.mk (Kept.below (S := (fun k_ => P0_1_ k_ ∨ P0_2_ k_ ∨ P0_3_ k_ ∨ P0_4_ k_ ∨ P0_5_ k_ ∨ P0_6_ k_)) (by repeat (first | (with_reducible first | exact HK.out | apply Kept.alloc | apply Kept.drewN | apply Kept.drew) | exact HK.out)) hb); have n7_ := Aside0.mk (below_step (by repeat (first | (with_reducible first | exact HB.out | apply below_alloc | apply pw_below_drewN | apply below_drew1) | exact HB.out)) hb); have n8_ := Aside0.mk (hbox); have n9_ := Aside0.mk ((by rw [hg]; exact (by first | exact HK.out.1 | exact (show Kept w _ (fun k_ => P0_1_ k_ ∨ P0_2_ k_ ∨ P0_3_ k_ ∨ P0_4_ k_ ∨ P0_5_ k_ ∨ P0_6_ k_) from by repeat (first | (with_reducible first | exact HK.out | apply Kept.alloc | apply Kept.drewN | apply Kept.drew) | exact HK.out)).1) : w.heap.size ≤ gb289)); have n10_ := Aside0.mk ((by rw [hg]; exact (below_size (by repeat (first | (with_reducible first | exact HB.out | apply below_alloc | apply pw_below_drewN | apply below_drew1) | exact HB.out))) : w0.heap.size ≤ gb289)); clear HO0_1; clear HO0_2; clear HO0_3; clear HO0_4; clear HO0_5; clear HO0_6; clear HK; clear HB; have HO0_1 := n0_; have HO0_2 := n1_; have HO0_3 := n2_; have HO0_4 := n3_; have HO0_5 := n4_; have HO0_6 := n5_; have HK := n6_; have HB := n7_; have BK289 := n8_; have GW289 := n9_; have GE289 := n10_; clear n0_ n1_ n2_ n3_ n4_ n5_ n6_ n7_ n8_ n9_ n10_; clear hb hbox hg) | ((with_reducible refine gate_dst (N := 4) rfl ?_); (try (refine gate_guard (by rfl) ?_; dsimp only)); refine box_event ?hg (N := 4) ?hd (cs := #[.int .i64 0, .slice none 0 0, .slice none 0 0, .slice none 0 0, .slice none 0 0, .slice none 0 0, .slice none 0 0, .int .i64 0, .int .i64 0, .int .i64 0]) (t := 54) ?hr ?_; (case hd => rfl); (case hg => rfl); (case hr => first | (go_simp; done) | (go_simp; rfl)); intro gb290 hg w148 hbox hb; have n0_ := Aside0.mk (Kd.R_below (by (with_reducible repeat first | apply ra | apply rb | apply rc); exact HO0_1.out) hb); have n1_ := Aside0.mk (Kd.R_below (by (with_reducible repeat first | apply ra | apply rb | apply rc); exact HO0_2.out) hb); have n2_ := Aside0.mk (Kd.R_below (by (with_reducible repeat first | apply ra | apply rb | apply rc); exact HO0_3.out) hb); have n3_ := Aside0.mk (Kd.R_below (by (with_reducible repeat first | apply ra | apply rb | apply rc); exact HO0_4.out) hb); have n4_ := Aside0.mk (Kd.R_below (by (with_reducible repeat first | apply ra | apply rb | apply rc); exact HO0_5.out) hb); have n5_ := Aside0.mk (Kd.R_below (by (with_reducible repeat first | apply ra | apply rb | apply rc); exact HO0_6.out) hb); have n6_ := Aside0.mk (blk_below (g := gb289) (o := .cells #[.int .i64 a0_0, .slice Ao141 l0_1.length co141, .slice Ao142 l0_2.length co142, .slice Ao143 l0_3.length co143, .slice Ao144 l0_4.length co144, .slice Ao145 l0_5.length co145, .slice Ao146 l0_6.length co146, .int .i64 a0_7, .int .i64 a0_8, .int .i64 a0_9] 54 (0, 0)) (by (with_reducible repeat first | apply ba | apply bb | apply bc); exact BK289.out) hb); have n7_ := Aside0.mk (Kept.below (S := (fun k_ => P0_1_ k_ ∨ P0_2_ k_ ∨ P0_3_ k_ ∨ P0_4_ k_ ∨ P0_5_ k_ ∨ P0_6_ k_)) (by repeat (first | (with_reducible first | exact HK.out | apply Kept.alloc | apply Kept.drewN | apply Kept.drew | refine Kept.setCell ?_ (.inr GW289.out) _) | exact HK.out)) hb); have n8_ := Aside0.mk (below_step (by repeat (first | (with_reducible first | exact HB.out | apply below_alloc | apply pw_below_drewN | apply below_drew1 | refine below_set ?_ GE289.out) | exact HB.out)) hb); have n9_ := Aside0.mk (hbox); have n10_ := Aside0.mk ((by rw [hg]; exact (by first | exact HK.out.1 | exact (show Kept w _ (fun k_ => P0_1_ k_ ∨ P0_2_ k_ ∨ P0_3_ k_ ∨ P0_4_ k_ ∨ P0_5_ k_ ∨ P0_6_ k_) from by repeat (first | (with_reducible first | exact HK.out | apply Kept.alloc | apply Kept.drewN | apply Kept.drew | refine Kept.setCell ?_ (.inr GW289.out) _) | exact HK.out)).1) : w.heap.size ≤ gb290)); have n11_ := Aside0.mk ((by rw [hg]; exact (below_size (by repeat (first | (with_reducible first | exact HB.out | apply below_alloc | apply pw_below_drewN | apply below_drew1 | refine below_set ?_ GE289.out) | exact HB.out))) : w0.heap.size ≤ gb290)); have n12_ := Aside0.mk ((by rw [hg]; exact Nat.ne_of_lt (blk_lt (g := gb289) (o := .cells #[.int .i64 a0_0, .slice Ao141 l0_1.length co141, .slice Ao142 l0_2.length co142, .slice Ao143 l0_3.length co143, .slice Ao144 l0_4.length co144, .slice Ao145 l0_5.length co145, .slice Ao146 l0_6.length co146, .int .i64 a0_7, .int .i64 a0_8, .int .i64 a0_9] 54 (0, 0)) (by (with_reducible repeat first | apply ba | apply bb | apply bc); exact BK289.out)) : gb289 ≠ gb290)); have n13_ := Aside0.mk ((by rw [hg]; exact Nat.ne_of_gt (blk_lt (g := gb289) (o := .cells #[.int .i64 a0_0, .slice Ao141 l0_1.length co141, .slice Ao142 l0_2.length co142, .slice Ao143 l0_3.length co143, .slice Ao144 l0_4.length co144, .slice Ao145 l0_5.length co145, .slice Ao146 l0_6.length co146, .int .i64 a0_7, .int .i64 a0_8, .int .i64 a0_9] 54 (0, 0)) (by (with_reducible repeat first | apply ba | apply bb | apply bc); exact BK289.out)) : gb290 ≠ gb289)); clear HO0_1; clear HO0_2; clear HO0_3; clear HO0_4; clear HO0_5; clear HO0_6; clear BK289; clear HK; clear HB; have HO0_1 := n0_; have HO0_2 := n1_; have HO0_3 := n2_; have HO0_4 := n3_; have HO0_5 := n4_; have HO0_6 := n5_; have BK289 := n6_; have HK := n7_; have HB := n8_; have BK290 := n9_; have GW290 := n10_; have GE290 := n11_; have NB289_290 := n12_; have NB290_289 := n13_; clear n0_ n1_ n2_ n3_ n4_ n5_ n6_ n7_ n8_ n9_ n10_ n11_ n12_ n13_; clear hb hbox hg) | ((with_reducible refine gate_callee (f := 7) rfl ?_); refine goesL_ (some 10) rfl rfl Try.func7 (by kernel_rfl) rfl #[.int .i64 a1, .int .i64 0, .int .i64 1000000000] rfl (by (try simp only [List.map_toArray, List.map_cons, List.map_nil]); first | done | rfl | (simp only [List.length_drop, List.length_take]; rfl)) ?_; (with_reducible refine (patchbayref3_In.calls a1 0 1000000000 false _ A3.out).mono ?_); rintro e w' ⟨rfl, ⟨nd, rfl⟩⟩; refine ⟨_, rfl, ?_⟩; (try (rw [drewN_self w148]; generalize hq_ : World.drewN w148 _ = w148; have n0_ : Aside0 (Kd.R Kd.bool 4 w148 w0.heap.size (fun k_ => ((P0_1_ k_ ∨ P0_2_ k_ ∨ P0_3_ k_ ∨ P0_4_ k_ ∨ P0_5_ k_ ∨ P0_6_ k_) ∨ w.heap.size ≤ k_) ∧ some k_ ≠ (.slice Ao142 l0_2.length co142 : Value).ownBlock ∧ some k_ ≠ (.slice Ao143 l0_3.length co143 : Value).ownBlock) (.slice Ao141 l0_1.length co141) l0_1) := ⟨by rw [← hq_]; exact (by (with_reducible repeat first | apply ra | apply rb | apply rc); exact HO0_1.out)⟩; have n1_ : Aside0 (Kd.R Kd.bool 4 w148 w0.heap.size (fun k_ => ((P0_1_ k_ ∨ P0_2_ k_ ∨ P0_3_ k_ ∨ P0_4_ k_ ∨ P0_5_ k_ ∨ P0_6_ k_) ∨ w.heap.size ≤ k_) ∧ some k_ ≠ (.slice Ao141 l0_1.length co141 : Value).ownBlock ∧ some k_ ≠ (.slice Ao143 l0_3.length co143 : Value).ownBlock) (.slice Ao142 l0_2.length co142) l0_2) := ⟨by rw [← hq_]; exact (by (with_reducible repeat first | apply ra | apply rb | apply rc); exact HO0_2.out)⟩; have n2_ : Aside0 (Kd.R Kd.bool 4 w148 w0.heap.size (fun k_ => ((P0_1_ k_ ∨ P0_2_ k_ ∨ P0_3_ k_ ∨ P0_4_ k_ ∨ P0_5_ k_ ∨ P0_6_ k_) ∨ w.heap.size ≤ k_) ∧ some k_ ≠ (.slice Ao141 l0_1.length co141 : Value).ownBlock ∧ some k_ ≠ (.slice Ao142 l0_2.length co142 : Value).ownBlock) (.slice Ao143 l0_3.length co143) l0_3) := ⟨by rw [← hq_]; exact (by (with_reducible repeat first | apply ra | apply rb | apply rc); exact HO0_3.out)⟩; have n3_ : Aside0 (Kd.R Kd.string 9 w148 w0.heap.size (fun k_ => ((P0_1_ k_ ∨ P0_2_ k_ ∨ P0_3_ k_ ∨ P0_4_ k_ ∨ P0_5_ k_ ∨ P0_6_ k_) ∨ w.heap.size ≤ k_)) (.slice Ao144 l0_4.length co144) l0_4) := ⟨by rw [← hq_]; exact (by (with_reducible repeat first | apply ra | apply rb | apply rc); exact HO0_4.out)⟩; have n4_ : Aside0 (Kd.R (Kd.int .i64) 3 w148 w0.heap.size (fun k_ => ((P0_1_ k_ ∨ P0_2_ k_ ∨ P0_3_ k_ ∨ P0_4_ k_ ∨ P0_5_ k_ ∨ P0_6_ k_) ∨ w.heap.size ≤ k_) ∧ some k_ ≠ (.slice Ao146 l0_6.length co146 : Value).ownBlock) (.slice Ao145 l0_5.length co145) l0_5) := ⟨by rw [← hq_]; exact (by (with_reducible repeat first | apply ra | apply rb | apply rc); exact HO0_5.out)⟩; have n5_ : Aside0 (Kd.R (Kd.int .i64) 3 w148 w0.heap.size (fun k_ => ((P0_1_ k_ ∨ P0_2_ k_ ∨ P0_3_ k_ ∨ P0_4_ k_ ∨ P0_5_ k_ ∨ P0_6_ k_) ∨ w.heap.size ≤ k_) ∧ some k_ ≠ (.slice Ao145 l0_5.length co145 : Value).ownBlock) (.slice Ao146 l0_6.length co146) l0_6) := ⟨by rw [← hq_]; exact (by (with_reducible repeat first | apply ra | apply rb | apply rc); exact HO0_6.out)⟩; have n6_ : Aside0 (w148.heap[gb289]? = some (.cells #[.int .i64 a0_0, .slice Ao141 l0_1.length co141, .slice Ao142 l0_2.length co142, .slice Ao143 l0_3.length co143, .slice Ao144 l0_4.length co144, .slice Ao145 l0_5.length co145, .slice Ao146 l0_6.length co146, .int .i64 a0_7, .int .i64 a0_8, .int .i64 a0_9] 54 (0, 0))) := ⟨by rw [← hq_]; exact (by (with_reducible repeat first | apply ba | apply bb | apply bc); exact BK289.out)⟩; have n7_ : Aside0 (w148.heap[gb290]? = some (.cells #[.int .i64 0, .slice none 0 0, .slice none 0 0, .slice none 0 0, .slice none 0 0, .slice none 0 0, .slice none 0 0, .int .i64 0, .int .i64 0, .int .i64 0] 54 (0, 0))) := ⟨by rw [← hq_]; exact (by (with_reducible repeat first | apply ba | apply bb | apply bc); exact BK290.out)⟩; have n8_ : Aside0 (Kept w w148 (fun k_ => P0_1_ k_ ∨ P0_2_ k_ ∨ P0_3_ k_ ∨ P0_4_ k_ ∨ P0_5_ k_ ∨ P0_6_ k_)) := ⟨by rw [← hq_]; exact (by repeat (first | (with_reducible first | exact HK.out | apply Kept.alloc | apply Kept.drewN | apply Kept.drew | refine Kept.setCell ?_ (.inr GW289.out) _ | refine Kept.setCell ?_ (.inr GW290.out) _) | exact HK.out))⟩; have n9_ : Aside0 (Below w0.heap.size w0 w148) := ⟨by rw [← hq_]; exact (by repeat (first | (with_reducible first | exact HB.out | apply below_alloc | apply pw_below_drewN | apply below_drew1 | refine below_set ?_ GE289.out | refine below_set ?_ GE290.out) | exact HB.out))⟩; clear HO0_1 HO0_2 HO0_3 HO0_4 HO0_5 HO0_6 BK289 BK290 HK HB hq_; have HO0_1 := n0_; have HO0_2 := n1_; have HO0_3 := n2_; have HO0_4 := n3_; have HO0_5 := n4_; have HO0_6 := n5_; have BK289 := n6_; have BK290 := n7_; have HK := n8_; have HB := n9_; clear n0_ n1_ n2_ n3_ n4_ n5_ n6_ n7_ n8_ n9_)); have hnb149 := NB289_290.out; have hnc149 := NB290_289.out; have hcz150_0 : w148.cell? ⟨gb289, 0, none⟩ = some (.int .i64 a0_0) := (blk_cell BK289.out 0).trans rfl; have hcz150_1 : w148.cell? ⟨gb289, 1, none⟩ = some (.slice Ao141 l0_1.length co141) := (blk_cell BK289.out 1).trans rfl; have hcz150_2 : w148.cell? ⟨gb289, 2, none⟩ = some (.slice Ao142 l0_2.length co142) := (blk_cell BK289.out 2).trans rfl; have hcz150_3 : w148.cell? ⟨gb289, 3, none⟩ = some (.slice Ao143 l0_3.length co143) := (blk_cell BK289.out 3).trans rfl; have hcz150_4 : w148.cell? ⟨gb289, 4, none⟩ = some (.slice Ao144 l0_4.length co144) := (blk_cell BK289.out 4).trans rfl; have hcz150_5 : w148.cell? ⟨gb289, 5, none⟩ = some (.slice Ao145 l0_5.length co145) := (blk_cell BK289.out 5).trans rfl; have hcz150_6 : w148.cell? ⟨gb289, 6, none⟩ = some (.slice Ao146 l0_6.length co146) := (blk_cell BK289.out 6).trans rfl; have hcz150_7 : w148.cell? ⟨gb289, 7, none⟩ = some (.int .i64 a0_7) := (blk_cell BK289.out 7).trans rfl; have hcz150_8 : w148.cell? ⟨gb289, 8, none⟩ = some (.int .i64 a0_8) := (blk_cell BK289.out 8).trans rfl; have hcz150_9 : w148.cell? ⟨gb289, 9, none⟩ = some (.int .i64 a0_9) := (blk_cell BK289.out 9).trans rfl; have hfz150_0 := blk_frozen BK289.out 0; have hfz150_1 := blk_frozen BK289.out 1; have hfz150_2 := blk_frozen BK289.out 2; have hfz150_3 := blk_frozen BK289.out 3; have hfz150_4 := blk_frozen BK289.out 4; have hfz150_5 := blk_frozen BK289.out 5; have hfz150_6 := blk_frozen BK289.out 6; have hfz150_7 := blk_frozen BK289.out 7; have hfz150_8 := blk_frozen BK289.out 8; have hfz150_9 := blk_frozen BK289.out 9; have hcz151_0 : w148.cell? ⟨gb290, 0, none⟩ = some (.int .i64 0) := (blk_cell BK290.out 0).trans rfl; have hcz151_1 : w148.cell? ⟨gb290, 1, none⟩ = some (.slice none 0 0) := (blk_cell BK290.out 1).trans rfl; have hcz151_2 : w148.cell? ⟨gb290, 2, none⟩ = some (.slice none 0 0) := (blk_cell BK290.out 2).trans rfl; have hcz151_3 : w148.cell? ⟨gb290, 3, none⟩ = some (.slice none 0 0) := (blk_cell BK290.out 3).trans rfl; have hcz151_4 : w148.cell? ⟨gb290, 4, none⟩ = some (.slice none 0 0) := (blk_cell BK290.out 4).trans rfl; have hcz151_5 : w148.cell? ⟨gb290, 5, none⟩ = some (.slice none 0 0) := (blk_cell BK290.out 5).trans rfl; have hcz151_6 : w148.cell? ⟨gb290, 6, none⟩ = some (.slice none 0 0) := (blk_cell BK290.out 6).trans rfl; have hcz151_7 : w148.cell? ⟨gb290, 7, none⟩ = some (.int .i64 0) := (blk_cell BK290.out 7).trans rfl; have hcz151_8 : w148.cell? ⟨gb290, 8, none⟩ = some (.int .i64 0) := (blk_cell BK290.out 8).trans rfl; have hcz151_9 : w148.cell? ⟨gb290, 9, none⟩ = some (.int .i64 0) := (blk_cell BK290.out 9).trans rfl; have hfz151_0 := blk_frozen BK290.out 0; have hfz151_1 := blk_frozen BK290.out 1; have hfz151_2 := blk_frozen BK290.out 2; have hfz151_3 := blk_frozen BK290.out 3; have hfz151_4 := blk_frozen BK290.out 4; have hfz151_5 := blk_frozen BK290.out 5; have hfz151_6 := blk_frozen BK290.out 6; have hfz151_7 := blk_frozen BK290.out 7; have hfz151_8 := blk_frozen BK290.out 8; have hfz151_9 := blk_frozen BK290.out 9))
   refine bodyPost_ret (results_ctt rfl _ _ gb290 54 #[.int .i64 a0_0, .slice Ao141 l0_1.length co141, .slice Ao142 l0_2.length co142, .slice Ao143 l0_3.length co143, .slice Ao144 l0_4.length co144, .slice Ao145 l0_5.length co145, .slice Ao146 l0_6.length co146, .int .i64 a0_7, .int .i64 a0_8, .int .i64 a0_9] (0, 0) _ rfl (by (with_reducible repeat first | apply ba | apply bb | apply bc); refine blk_put (cs := #[.int .i64 a0_0, .slice Ao141 l0_1.length co141, .slice Ao142 l0_2.length co142, .slice Ao143 l0_3.length co143, .slice Ao144 l0_4.length co144, .slice Ao145 l0_5.length co145, .slice Ao146 l0_6.length co146, .int .i64 a0_7, .int .i64 a0_8, .int .i64 0]) ?_ 9 _ rfl; (with_reducible repeat first | apply ba | apply bb | apply bc); refine blk_put (cs := #[.int .i64 a0_0, .slice Ao141 l0_1.length co141, .slice Ao142 l0_2.length co142, .slice Ao143 l0_3.length co143, .slice Ao144 l0_4.length co144, .slice Ao145 l0_5.length co145, .slice Ao146 l0_6.length co146, .int .i64 a0_7, .int .i64 0, .int .i64 0]) ?_ 8 _ rfl; (with_reducible repeat first | apply ba | apply bb | apply bc); refine blk_put (cs := #[.int .i64 a0_0, .slice Ao141 l0_1.length co141, .slice Ao142 l0_2.length co142, .slice Ao143 l0_3.length co143, .slice Ao144 l0_4.length co144, .slice Ao145 l0_5.length co145, .slice Ao146 l0_6.length co146, .int .i64 0, .int .i64 0, .int .i64 0]) ?_ 7 _ rfl; (with_reducible repeat first | apply ba | apply bb | apply bc); refine blk_put (cs := #[.int .i64 a0_0, .slice Ao141 l0_1.length co141, .slice Ao142 l0_2.length co142, .slice Ao143 l0_3.length co143, .slice Ao144 l0_4.length co144, .slice Ao145 l0_5.length co145, .slice none 0 0, .int .i64 0, .int .i64 0, .int .i64 0]) ?_ 6 _ rfl; (with_reducible repeat first | apply ba | apply bb | apply bc); refine blk_put (cs := #[.int .i64 a0_0, .slice Ao141 l0_1.length co141, .slice Ao142 l0_2.length co142, .slice Ao143 l0_3.length co143, .slice Ao144 l0_4.length co144, .slice none 0 0, .slice none 0 0, .int .i64 0, .int .i64 0, .int .i64 0]) ?_ 5 _ rfl; (with_reducible repeat first | apply ba | apply bb | apply bc); refine blk_put (cs := #[.int .i64 a0_0, .slice Ao141 l0_1.length co141, .slice Ao142 l0_2.length co142, .slice Ao143 l0_3.length co143, .slice none 0 0, .slice none 0 0, .slice none 0 0, .int .i64 0, .int .i64 0, .int .i64 0]) ?_ 4 _ rfl; (with_reducible repeat first | apply ba | apply bb | apply bc); refine blk_put (cs := #[.int .i64 a0_0, .slice Ao141 l0_1.length co141, .slice Ao142 l0_2.length co142, .slice none 0 0, .slice none 0 0, .slice none 0 0, .slice none 0 0, .int .i64 0, .int .i64 0, .int .i64 0]) ?_ 3 _ rfl; (with_reducible repeat first | apply ba | apply bb | apply bc); refine blk_put (cs := #[.int .i64 a0_0, .slice Ao141 l0_1.length co141, .slice none 0 0, .slice none 0 0, .slice none 0 0, .slice none 0 0, .slice none 0 0, .int .i64 0, .int .i64 0, .int .i64 0]) ?_ 2 _ rfl; (with_reducible repeat first | apply ba | apply bb | apply bc); refine blk_put (cs := #[.int .i64 a0_0, .slice none 0 0, .slice none 0 0, .slice none 0 0, .slice none 0 0, .slice none 0 0, .slice none 0 0, .int .i64 0, .int .i64 0, .int .i64 0]) ?_ 1 _ rfl; (with_reducible repeat first | apply ba | apply bb | apply bc); refine blk_put (cs := #[.int .i64 0, .slice none 0 0, .slice none 0 0, .slice none 0 0, .slice none 0 0, .slice none 0 0, .slice none 0 0, .int .i64 0, .int .i64 0, .int .i64 0]) ?_ 0 _ rfl; (with_reducible repeat first | apply ba | apply bb | apply bc); exact BK290.out) Try.underlying54 rfl (by kernel_rfl)) rfl ?_
   exact ⟨_, _, _, _, _, _, _, by first | rfl | (simp [errW_none, errW_some] <;> rfl) | (simp [*, errW_none, errW_some] <;> rfl), by (with_reducible repeat first | apply ra | apply rb | apply rc); exact Kd.R_mono (far10 gb290 (Kd.R_types HO0_1.out BK290.out (by decide)) (fun _ hk => hk.2)) (fun _ hk => ⟨hk.1.1, ⟨hk.1.2.1, hk.1.2.2⟩⟩), by (with_reducible repeat first | apply ra | apply rb | apply rc); exact Kd.R_mono (far10 gb290 (Kd.R_types HO0_2.out BK290.out (by decide)) (fun _ hk => hk.2)) (fun _ hk => ⟨hk.1.1, ⟨hk.1.2.1, hk.1.2.2⟩⟩), by (with_reducible repeat first | apply ra | apply rb | apply rc); exact Kd.R_mono (far10 gb290 (Kd.R_types HO0_3.out BK290.out (by decide)) (fun _ hk => hk.2)) (fun _ hk => ⟨hk.1.1, ⟨hk.1.2.1, hk.1.2.2⟩⟩), by (with_reducible repeat first | apply ra | apply rb | apply rc); exact Kd.R_mono (far10 gb290 (Kd.R_types HO0_4.out BK290.out (by decide)) (fun _ hk => hk.2)) (fun _ hk => hk.1), by (with_reducible repeat first | apply ra | apply rb | apply rc); exact Kd.R_mono (far10 gb290 (Kd.R_types HO0_5.out BK290.out (by decide)) (fun _ hk => hk.2)) (fun _ hk => ⟨hk.1.1, hk.1.2⟩), by (with_reducible repeat first | apply ra | apply rb | apply rc); exact Kd.R_mono (far10 gb290 (Kd.R_types HO0_6.out BK290.out (by decide)) (fun _ hk => hk.2)) (fun _ hk => ⟨hk.1.1, hk.1.2⟩), by first | exact Kd.R_nil _ _ _ _ _ | exact Kd.N_nil _ _ _ _ _ | exact Kd.V_nil _ _ _ _ _ | exact Kd.Q_nil _ _ _ _ _ | exact Kd.S_nil _ _ _ _ _, by repeat (first | (with_reducible first | exact HB.out | apply below_alloc | apply pw_below_drewN | apply below_drew1 | refine below_set ?_ GE289.out | refine below_set ?_ GE290.out) | exact HB.out), by repeat (first | (with_reducible first | exact HK.out | apply Kept.alloc | apply Kept.drewN | apply Kept.drew | refine Kept.setCell ?_ (.inr GW289.out) _ | refine Kept.setCell ?_ (.inr GW290.out) _) | exact HK.out)⟩

end Go.Proofs.Ytcllcjflgeiehaa.PCastPlays
