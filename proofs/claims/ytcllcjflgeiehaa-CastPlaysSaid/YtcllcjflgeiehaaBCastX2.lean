/- Turned from a printed text of this claim. -/
import Derived.Test.YtcllcjflgeiehaaBCastX0
import Derived.Test.YtcllcjflgeiehaaBW
namespace Go.Proofs.Ytcllcjflgeiehaa.PCastPlays
open Go.RowKit Go.Proofs.YtcllcjflgeiehaaW.PrintWords Go.Proofs.YtcllcjflgeiehaaW.PrintLast Go.Proofs.YtcllcjflgeiehaaW.PrintMore
attribute [local go_sem] max2_int min2_int max_two min_two max_three min_three max_four min_four   -- for this text's walks alone
set_option linter.unusedVariables false
set_option linter.unusedSimpArgs false

theorem dj_new {α : Type} {d : Kd α} {e base : Nat} {W : World} {ok : Nat → Prop} {u v : Value} {xs : List α} (hv : ∀ k, v.ownBlock = some k → W.heap.size ≤ k) (hu : d.R e W base ok u xs) : ∀ k_, some k_ = v.ownBlock → some k_ ≠ u.ownBlock :=
 fun k h1 h2 => by
  have h3 := hv k h1.symm
  have h4 := Kd.R_lt hu k h2.symm
  omega
theorem dj_symm {u v : Value} (h : ∀ k_, some k_ = v.ownBlock → some k_ ≠ u.ownBlock) : ∀ k_, some k_ = u.ownBlock → some k_ ≠ v.ownBlock := fun k h1 h2 => h k h2 h1
theorem dj_app {α : Type} {d : Kd α} {e base : Nat} {W : World} {ok : Nat → Prop} {u v v1 : Value} {xs : List α} (hat : v1.ownBlock = v.ownBlock ∨ ∃ b, v1.ownBlock = some b ∧ W.heap.size ≤ b) (hd : ∀ k_, some k_ = v.ownBlock → some k_ ≠ u.ownBlock) (hu : d.R e W base ok u xs) : ∀ k_, some k_ = v1.ownBlock → some k_ ≠ u.ownBlock :=
 fun k h1 h2 => by
  rcases hat with h | ⟨b, h, hb⟩
  · exact hd k (h1.trans h) h2
  · have h4 := Kd.R_lt hu k h2.symm
    rw [h] at h1
    injection h1 with h1
    omega
/-! ### patchbayref3_Cast_Copied: function 37 -/
def patchbayref3_Cast_Copied.f (a0_0 : Int) (l0_1 : List Bool) (l0_2 : List Bool) (l0_3 : List Bool) (l0_4 : List ByteArray) (l0_5 : List Int) (l0_6 : List Int) (a0_7 : Int) (a0_8 : Int) (a0_9 : Int) : Option (Int × List Bool × List Bool × List Bool × List ByteArray × List Int × List Int × Int × Int × Int) := (some (([] : List Bool) : List Bool)).bind fun y104 => (if y104.length + l0_1.length < 140737488355328 then ((some (([] : List Bool) : List Bool)).bind fun y110 => (if y110.length + l0_2.length < 140737488355328 then ((some (([] : List Bool) : List Bool)).bind fun y116 => (if y116.length + l0_3.length < 140737488355328 then ((some (([] : List ByteArray) : List ByteArray)).bind fun y122 => (if y122.length + l0_4.length < 8796093022208 then ((some (([] : List Int) : List Int)).bind fun y128 => (if y128.length + l0_5.length < 17592186044416 then ((some (([] : List Int) : List Int)).bind fun y134 => (if y134.length + l0_6.length < 17592186044416 then (some (a0_0, (y104 ++ l0_1), (y110 ++ l0_2), (y116 ++ l0_3), (y122 ++ l0_4), (y128 ++ l0_5), (y134 ++ l0_6), a0_7, a0_8, a0_9)) else (none))) else (none))) else (none))) else (none))) else (none))) else (none))
def patchbayref3_Cast_Copied.T1 : Bool × List (List Nat × List Nat) := (true, [([], []), ([0], [0]), ([], []), ([], []), ([3], [3]), ([2, 4], [2, 4]), ([], []), ([], []), ([7], [7]), ([6, 8, 5], [6, 8]), ([], []), ([], []), ([11], [11]), ([10, 12, 9], [10, 12]), ([], []), ([], []), ([15], [15]), ([14, 16, 13], [14, 16]), ([], []), ([], []), ([19], [19]), ([18, 20, 17], [18, 20]), ([], []), ([], []), ([23], [23]), ([22, 24, 21], [22, 24]), ([], []), ([26], [26]), ([], []), ([28], [28]), ([], []), ([30], [30]), ([1, 5, 9, 13, 17, 21, 25, 27, 29, 31], [1, 5, 9, 13, 17, 21, 25, 27, 29, 31]), ([32, 25, 0, 1, 2, 3, 4, 5, 6, 7, 8, 9, 10, 11, 12, 13, 14, 15, 16, 17, 18, 19, 20, 21, 22, 23, 24, 25, 26, 27, 28, 29, 30, 31, 32], [32])])
def patchbayref3_Cast_Copied.B1 : List Nat := [0, 1, 0, 0, 8, 28, 0, 0, 128, 508, 0, 0, 2048, 8188, 0, 0, 32768, 131068, 0, 0, 524288, 2097148, 0, 0, 8388608, 33554428, 0, 67108864, 0, 268435456, 0, 1073741824, 4294967295, 8589934591]
theorem patchbayref3_Cast_Copied.tab1 : rtab .any (opsOf Try.f37 1) = patchbayref3_Cast_Copied.T1 := by kernel_rfl
theorem patchbayref3_Cast_Copied.bits1 : waitsOk patchbayref3_Cast_Copied.T1.2 patchbayref3_Cast_Copied.B1 = true := by kernel_rfl
set_option maxHeartbeats 8000000 in
set_option maxRecDepth 100000 in
theorem patchbayref3_Cast_Copied.calls (a0_0 : Int) (A0_1 : Option Addr) (c0_1 : Nat) (l0_1 : List Bool) (A0_2 : Option Addr) (c0_2 : Nat) (l0_2 : List Bool) (A0_3 : Option Addr) (c0_3 : Nat) (l0_3 : List Bool) (A0_4 : Option Addr) (c0_4 : Nat) (l0_4 : List ByteArray) (A0_5 : Option Addr) (c0_5 : Nat) (l0_5 : List Int) (A0_6 : Option Addr) (c0_6 : Nat) (l0_6 : List Int) (a0_7 : Int) (a0_8 : Int) (a0_9 : Int) (r1 : Int) (r2 : List Bool) (r3 : List Bool) (r4 : List Bool) (r5 : List ByteArray) (r6 : List Int) (r7 : List Int) (r8 : Int) (r9 : Int) (r10 : Int) (w : World) (hr0_1 : Kd.C Kd.bool w A0_1 l0_1.length l0_1) (hc0_1 : l0_1.length ≤ c0_1) (hr0_2 : Kd.C Kd.bool w A0_2 l0_2.length l0_2) (hc0_2 : l0_2.length ≤ c0_2) (hr0_3 : Kd.C Kd.bool w A0_3 l0_3.length l0_3) (hc0_3 : l0_3.length ≤ c0_3) (hr0_4 : Kd.C Kd.string w A0_4 l0_4.length l0_4) (hc0_4 : l0_4.length ≤ c0_4) (hr0_5 : Kd.C (Kd.int .i64) w A0_5 l0_5.length l0_5) (hc0_5 : l0_5.length ≤ c0_5) (hr0_6 : Kd.C (Kd.int .i64) w A0_6 l0_6.length l0_6) (hc0_6 : l0_6.length ≤ c0_6) (h : patchbayref3_Cast_Copied.f a0_0 l0_1 l0_2 l0_3 l0_4 l0_5 l0_6 a0_7 a0_8 a0_9 = some (r1, r2, r3, r4, r5, r6, r7, r8, r9, r10)) :
 Calls Try.prog 37 #[.agg #[.int .i64 a0_0, .slice A0_1 l0_1.length c0_1, .slice A0_2 l0_2.length c0_2, .slice A0_3 l0_3.length c0_3, .slice A0_4 l0_4.length c0_4, .slice A0_5 l0_5.length c0_5, .slice A0_6 l0_6.length c0_6, .int .i64 a0_7, .int .i64 a0_8, .int .i64 a0_9]] w fun e w' => ∃ v1_ v2_ v3_ v4_ v5_ v6_ : Value, e = .returned (.agg #[.int .i64 r1, v1_, v2_, v3_, v4_, v5_, v6_, .int .i64 r8, .int .i64 r9, .int .i64 r10]) ∧ Kd.R Kd.bool 4 w' w.heap.size (fun k_ => some k_ ≠ (v2_ : Value).ownBlock ∧ some k_ ≠ (v3_ : Value).ownBlock) v1_ r2 ∧ Kd.R Kd.bool 4 w' w.heap.size (fun k_ => some k_ ≠ (v1_ : Value).ownBlock ∧ some k_ ≠ (v3_ : Value).ownBlock) v2_ r3 ∧ Kd.R Kd.bool 4 w' w.heap.size (fun k_ => some k_ ≠ (v1_ : Value).ownBlock ∧ some k_ ≠ (v2_ : Value).ownBlock) v3_ r4 ∧ Kd.R Kd.string 9 w' w.heap.size (fun _ => True) v4_ r5 ∧ Kd.R (Kd.int .i64) 3 w' w.heap.size (fun k_ => some k_ ≠ (v6_ : Value).ownBlock) v5_ r6 ∧ Kd.R (Kd.int .i64) 3 w' w.heap.size (fun k_ => some k_ ≠ (v5_ : Value).ownBlock) v6_ r7 ∧ Below w.heap.size w w' := by
 have hu54 := Try.underlying54
 have HR0_1 := Aside0.mk hr0_1
 have HC0_1 := Aside0.mk hc0_1
 clear hr0_1 hc0_1
 have HR0_2 := Aside0.mk hr0_2
 have HC0_2 := Aside0.mk hc0_2
 clear hr0_2 hc0_2
 have HR0_3 := Aside0.mk hr0_3
 have HC0_3 := Aside0.mk hc0_3
 clear hr0_3 hc0_3
 have HR0_4 := Aside0.mk hr0_4
 have HC0_4 := Aside0.mk hc0_4
 clear hr0_4 hc0_4
 have HR0_5 := Aside0.mk hr0_5
 have HC0_5 := Aside0.mk hc0_5
 clear hr0_5 hc0_5
 have HR0_6 := Aside0.mk hr0_6
 have HC0_6 := Aside0.mk hc0_6
 clear hr0_6 hc0_6
 have HB := Aside0.mk (Below.refl w.heap.size w)
 have H : ((some (([] : List Bool) : List Bool)).bind fun y104 => (if y104.length + l0_1.length < 140737488355328 then ((some (([] : List Bool) : List Bool)).bind fun y110 => (if y110.length + l0_2.length < 140737488355328 then ((some (([] : List Bool) : List Bool)).bind fun y116 => (if y116.length + l0_3.length < 140737488355328 then ((some (([] : List ByteArray) : List ByteArray)).bind fun y122 => (if y122.length + l0_4.length < 8796093022208 then ((some (([] : List Int) : List Int)).bind fun y128 => (if y128.length + l0_5.length < 17592186044416 then ((some (([] : List Int) : List Int)).bind fun y134 => (if y134.length + l0_6.length < 17592186044416 then (some (a0_0, (y104 ++ l0_1), (y110 ++ l0_2), (y116 ++ l0_3), (y122 ++ l0_4), (y128 ++ l0_5), (y134 ++ l0_6), a0_7, a0_8, a0_9)) else (none))) else (none))) else (none))) else (none))) else (none))) else (none))) = some (r1, r2, r3, r4, r5, r6, r7, r8, r9, r10) := h
 clear h
 obtain ⟨y104, hy104⟩ : ∃ y_ : List Bool, y_ = (([] : List Bool)) := ⟨_, rfl⟩
 replace H : (if y104.length + l0_1.length < 140737488355328 then ((some (([] : List Bool) : List Bool)).bind fun y110 => (if y110.length + l0_2.length < 140737488355328 then ((some (([] : List Bool) : List Bool)).bind fun y116 => (if y116.length + l0_3.length < 140737488355328 then ((some (([] : List ByteArray) : List ByteArray)).bind fun y122 => (if y122.length + l0_4.length < 8796093022208 then ((some (([] : List Int) : List Int)).bind fun y128 => (if y128.length + l0_5.length < 17592186044416 then ((some (([] : List Int) : List Int)).bind fun y134 => (if y134.length + l0_6.length < 17592186044416 then (some (a0_0, (y104 ++ l0_1), (y110 ++ l0_2), (y116 ++ l0_3), (y122 ++ l0_4), (y128 ++ l0_5), (y134 ++ l0_6), a0_7, a0_8, a0_9)) else (none))) else (none))) else (none))) else (none))) else (none))) else (none)) = some (r1, r2, r3, r4, r5, r6, r7, r8, r9, r10) := by first | (rw [hy104]; with_reducible exact H) | (have H2_ := (Option.bind_some _ _).symm.trans H; rw [hy104]; with_reducible exact H2_) | (have H2_ := (Option.bind_some _ _).symm.trans H; with_reducible exact H2_) | with_reducible exact H | (rw [hy104]; exact H) | exact H
 have Ny104 := Aside0.mk hy104
 clear hy104
 by_cases c2 : y104.length + l0_1.length < 140737488355328
 · rw [if_pos c2] at H
   have LMc2 := Aside0.mk c2
   clear c2
   obtain ⟨y107, hy107⟩ : ∃ y_ : List Bool, y_ = (y104 ++ l0_1) := ⟨_, rfl⟩
   replace H : ((some (([] : List Bool) : List Bool)).bind fun y110 => (if y110.length + l0_2.length < 140737488355328 then ((some (([] : List Bool) : List Bool)).bind fun y116 => (if y116.length + l0_3.length < 140737488355328 then ((some (([] : List ByteArray) : List ByteArray)).bind fun y122 => (if y122.length + l0_4.length < 8796093022208 then ((some (([] : List Int) : List Int)).bind fun y128 => (if y128.length + l0_5.length < 17592186044416 then ((some (([] : List Int) : List Int)).bind fun y134 => (if y134.length + l0_6.length < 17592186044416 then (some (a0_0, y107, (y110 ++ l0_2), (y116 ++ l0_3), (y122 ++ l0_4), (y128 ++ l0_5), (y134 ++ l0_6), a0_7, a0_8, a0_9)) else (none))) else (none))) else (none))) else (none))) else (none))) = some (r1, r2, r3, r4, r5, r6, r7, r8, r9, r10) := by first | (rw [hy107]; with_reducible exact H) | (have H2_ := (Option.bind_some _ _).symm.trans H; rw [hy107]; with_reducible exact H2_) | (have H2_ := (Option.bind_some _ _).symm.trans H; with_reducible exact H2_) | with_reducible exact H | (rw [hy107]; exact H) | exact H
   have Ny107 := Aside0.mk hy107
   clear hy107
   obtain ⟨y110, hy110⟩ : ∃ y_ : List Bool, y_ = (([] : List Bool)) := ⟨_, rfl⟩
   replace H : (if y110.length + l0_2.length < 140737488355328 then ((some (([] : List Bool) : List Bool)).bind fun y116 => (if y116.length + l0_3.length < 140737488355328 then ((some (([] : List ByteArray) : List ByteArray)).bind fun y122 => (if y122.length + l0_4.length < 8796093022208 then ((some (([] : List Int) : List Int)).bind fun y128 => (if y128.length + l0_5.length < 17592186044416 then ((some (([] : List Int) : List Int)).bind fun y134 => (if y134.length + l0_6.length < 17592186044416 then (some (a0_0, y107, (y110 ++ l0_2), (y116 ++ l0_3), (y122 ++ l0_4), (y128 ++ l0_5), (y134 ++ l0_6), a0_7, a0_8, a0_9)) else (none))) else (none))) else (none))) else (none))) else (none)) = some (r1, r2, r3, r4, r5, r6, r7, r8, r9, r10) := by first | (rw [hy110]; with_reducible exact H) | (have H2_ := (Option.bind_some _ _).symm.trans H; rw [hy110]; with_reducible exact H2_) | (have H2_ := (Option.bind_some _ _).symm.trans H; with_reducible exact H2_) | with_reducible exact H | (rw [hy110]; exact H) | exact H
   have Ny110 := Aside0.mk hy110
   clear hy110
   by_cases c3 : y110.length + l0_2.length < 140737488355328
   · rw [if_pos c3] at H
     have LMc3 := Aside0.mk c3
     clear c3
     obtain ⟨y113, hy113⟩ : ∃ y_ : List Bool, y_ = (y110 ++ l0_2) := ⟨_, rfl⟩
     replace H : ((some (([] : List Bool) : List Bool)).bind fun y116 => (if y116.length + l0_3.length < 140737488355328 then ((some (([] : List ByteArray) : List ByteArray)).bind fun y122 => (if y122.length + l0_4.length < 8796093022208 then ((some (([] : List Int) : List Int)).bind fun y128 => (if y128.length + l0_5.length < 17592186044416 then ((some (([] : List Int) : List Int)).bind fun y134 => (if y134.length + l0_6.length < 17592186044416 then (some (a0_0, y107, y113, (y116 ++ l0_3), (y122 ++ l0_4), (y128 ++ l0_5), (y134 ++ l0_6), a0_7, a0_8, a0_9)) else (none))) else (none))) else (none))) else (none))) = some (r1, r2, r3, r4, r5, r6, r7, r8, r9, r10) := by first | (rw [hy113]; with_reducible exact H) | (have H2_ := (Option.bind_some _ _).symm.trans H; rw [hy113]; with_reducible exact H2_) | (have H2_ := (Option.bind_some _ _).symm.trans H; with_reducible exact H2_) | with_reducible exact H | (rw [hy113]; exact H) | exact H
     have Ny113 := Aside0.mk hy113
     clear hy113
     obtain ⟨y116, hy116⟩ : ∃ y_ : List Bool, y_ = (([] : List Bool)) := ⟨_, rfl⟩
     replace H : (if y116.length + l0_3.length < 140737488355328 then ((some (([] : List ByteArray) : List ByteArray)).bind fun y122 => (if y122.length + l0_4.length < 8796093022208 then ((some (([] : List Int) : List Int)).bind fun y128 => (if y128.length + l0_5.length < 17592186044416 then ((some (([] : List Int) : List Int)).bind fun y134 => (if y134.length + l0_6.length < 17592186044416 then (some (a0_0, y107, y113, (y116 ++ l0_3), (y122 ++ l0_4), (y128 ++ l0_5), (y134 ++ l0_6), a0_7, a0_8, a0_9)) else (none))) else (none))) else (none))) else (none)) = some (r1, r2, r3, r4, r5, r6, r7, r8, r9, r10) := by first | (rw [hy116]; with_reducible exact H) | (have H2_ := (Option.bind_some _ _).symm.trans H; rw [hy116]; with_reducible exact H2_) | (have H2_ := (Option.bind_some _ _).symm.trans H; with_reducible exact H2_) | with_reducible exact H | (rw [hy116]; exact H) | exact H
     have Ny116 := Aside0.mk hy116
     clear hy116
     by_cases c4 : y116.length + l0_3.length < 140737488355328
     · rw [if_pos c4] at H
       have LMc4 := Aside0.mk c4
       clear c4
       obtain ⟨y119, hy119⟩ : ∃ y_ : List Bool, y_ = (y116 ++ l0_3) := ⟨_, rfl⟩
       replace H : ((some (([] : List ByteArray) : List ByteArray)).bind fun y122 => (if y122.length + l0_4.length < 8796093022208 then ((some (([] : List Int) : List Int)).bind fun y128 => (if y128.length + l0_5.length < 17592186044416 then ((some (([] : List Int) : List Int)).bind fun y134 => (if y134.length + l0_6.length < 17592186044416 then (some (a0_0, y107, y113, y119, (y122 ++ l0_4), (y128 ++ l0_5), (y134 ++ l0_6), a0_7, a0_8, a0_9)) else (none))) else (none))) else (none))) = some (r1, r2, r3, r4, r5, r6, r7, r8, r9, r10) := by first | (rw [hy119]; with_reducible exact H) | (have H2_ := (Option.bind_some _ _).symm.trans H; rw [hy119]; with_reducible exact H2_) | (have H2_ := (Option.bind_some _ _).symm.trans H; with_reducible exact H2_) | with_reducible exact H | (rw [hy119]; exact H) | exact H
       have Ny119 := Aside0.mk hy119
       clear hy119
       obtain ⟨y122, hy122⟩ : ∃ y_ : List ByteArray, y_ = (([] : List ByteArray)) := ⟨_, rfl⟩
       replace H : (if y122.length + l0_4.length < 8796093022208 then ((some (([] : List Int) : List Int)).bind fun y128 => (if y128.length + l0_5.length < 17592186044416 then ((some (([] : List Int) : List Int)).bind fun y134 => (if y134.length + l0_6.length < 17592186044416 then (some (a0_0, y107, y113, y119, (y122 ++ l0_4), (y128 ++ l0_5), (y134 ++ l0_6), a0_7, a0_8, a0_9)) else (none))) else (none))) else (none)) = some (r1, r2, r3, r4, r5, r6, r7, r8, r9, r10) := by first | (rw [hy122]; with_reducible exact H) | (have H2_ := (Option.bind_some _ _).symm.trans H; rw [hy122]; with_reducible exact H2_) | (have H2_ := (Option.bind_some _ _).symm.trans H; with_reducible exact H2_) | with_reducible exact H | (rw [hy122]; exact H) | exact H
       have Ny122 := Aside0.mk hy122
       clear hy122
       by_cases c5 : y122.length + l0_4.length < 8796093022208
       · rw [if_pos c5] at H
         have LMc5 := Aside0.mk c5
         clear c5
         obtain ⟨y125, hy125⟩ : ∃ y_ : List ByteArray, y_ = (y122 ++ l0_4) := ⟨_, rfl⟩
         replace H : ((some (([] : List Int) : List Int)).bind fun y128 => (if y128.length + l0_5.length < 17592186044416 then ((some (([] : List Int) : List Int)).bind fun y134 => (if y134.length + l0_6.length < 17592186044416 then (some (a0_0, y107, y113, y119, y125, (y128 ++ l0_5), (y134 ++ l0_6), a0_7, a0_8, a0_9)) else (none))) else (none))) = some (r1, r2, r3, r4, r5, r6, r7, r8, r9, r10) := by first | (rw [hy125]; with_reducible exact H) | (have H2_ := (Option.bind_some _ _).symm.trans H; rw [hy125]; with_reducible exact H2_) | (have H2_ := (Option.bind_some _ _).symm.trans H; with_reducible exact H2_) | with_reducible exact H | (rw [hy125]; exact H) | exact H
         have Ny125 := Aside0.mk hy125
         clear hy125
         obtain ⟨y128, hy128⟩ : ∃ y_ : List Int, y_ = (([] : List Int)) := ⟨_, rfl⟩
         replace H : (if y128.length + l0_5.length < 17592186044416 then ((some (([] : List Int) : List Int)).bind fun y134 => (if y134.length + l0_6.length < 17592186044416 then (some (a0_0, y107, y113, y119, y125, (y128 ++ l0_5), (y134 ++ l0_6), a0_7, a0_8, a0_9)) else (none))) else (none)) = some (r1, r2, r3, r4, r5, r6, r7, r8, r9, r10) := by first | (rw [hy128]; with_reducible exact H) | (have H2_ := (Option.bind_some _ _).symm.trans H; rw [hy128]; with_reducible exact H2_) | (have H2_ := (Option.bind_some _ _).symm.trans H; with_reducible exact H2_) | with_reducible exact H | (rw [hy128]; exact H) | exact H
         have Ny128 := Aside0.mk hy128
         clear hy128
         by_cases c6 : y128.length + l0_5.length < 17592186044416
         · rw [if_pos c6] at H
           have LMc6 := Aside0.mk c6
           clear c6
           obtain ⟨y131, hy131⟩ : ∃ y_ : List Int, y_ = (y128 ++ l0_5) := ⟨_, rfl⟩
           replace H : ((some (([] : List Int) : List Int)).bind fun y134 => (if y134.length + l0_6.length < 17592186044416 then (some (a0_0, y107, y113, y119, y125, y131, (y134 ++ l0_6), a0_7, a0_8, a0_9)) else (none))) = some (r1, r2, r3, r4, r5, r6, r7, r8, r9, r10) := by first | (rw [hy131]; with_reducible exact H) | (have H2_ := (Option.bind_some _ _).symm.trans H; rw [hy131]; with_reducible exact H2_) | (have H2_ := (Option.bind_some _ _).symm.trans H; with_reducible exact H2_) | with_reducible exact H | (rw [hy131]; exact H) | exact H
           have Ny131 := Aside0.mk hy131
           clear hy131
           obtain ⟨y134, hy134⟩ : ∃ y_ : List Int, y_ = (([] : List Int)) := ⟨_, rfl⟩
           replace H : (if y134.length + l0_6.length < 17592186044416 then (some (a0_0, y107, y113, y119, y125, y131, (y134 ++ l0_6), a0_7, a0_8, a0_9)) else (none)) = some (r1, r2, r3, r4, r5, r6, r7, r8, r9, r10) := by first | (rw [hy134]; with_reducible exact H) | (have H2_ := (Option.bind_some _ _).symm.trans H; rw [hy134]; with_reducible exact H2_) | (have H2_ := (Option.bind_some _ _).symm.trans H; with_reducible exact H2_) | with_reducible exact H | (rw [hy134]; exact H) | exact H
           have Ny134 := Aside0.mk hy134
           clear hy134
           by_cases c7 : y134.length + l0_6.length < 17592186044416
           · rw [if_pos c7] at H
             have LMc7 := Aside0.mk c7
             clear c7
             obtain ⟨y137, hy137⟩ : ∃ y_ : List Int, y_ = (y134 ++ l0_6) := ⟨_, rfl⟩
             replace H : (some (a0_0, y107, y113, y119, y125, y131, y137, a0_7, a0_8, a0_9)) = some (r1, r2, r3, r4, r5, r6, r7, r8, r9, r10) := by first | (rw [hy137]; with_reducible exact H) | (have H2_ := (Option.bind_some _ _).symm.trans H; rw [hy137]; with_reducible exact H2_) | (have H2_ := (Option.bind_some _ _).symm.trans H; with_reducible exact H2_) | with_reducible exact H | (rw [hy137]; exact H) | exact H
             have Ny137 := Aside0.mk hy137
             clear hy137
             simp only [Option.some.injEq, Prod.mk.injEq] at H
             obtain ⟨rfl, rfl, rfl, rfl, rfl, rfl, rfl, rfl, rfl, rfl⟩ := H
             go_enter Try.func37, Try.ntmps37
             try go_wp2_with (first | ((with_reducible refine gate_dst (N := 1) rfl ?_); refine box_event ?hg (N := 1) ?hd (cs := #[.int .i64 a0_0, .slice A0_1 l0_1.length c0_1, .slice A0_2 l0_2.length c0_2, .slice A0_3 l0_3.length c0_3, .slice A0_4 l0_4.length c0_4, .slice A0_5 l0_5.length c0_5, .slice A0_6 l0_6.length c0_6, .int .i64 a0_7, .int .i64 a0_8, .int .i64 a0_9]) (t := 54) ?hr ?_; (case hd => rfl); (case hg => rfl); (case hr => first | (go_simp; done) | (go_simp; rfl)); intro gb102 hg w8 hbox hb; have n0_ := Aside0.mk (below_step (by repeat (first | (with_reducible first | exact HB.out | apply below_alloc | apply pw_below_drewN | apply below_drew1) | exact HB.out)) hb); have n1_ := Aside0.mk (hbox); have n2_ := Aside0.mk ((by rw [hg]; exact (below_size (by repeat (first | (with_reducible first | exact HB.out | apply below_alloc | apply pw_below_drewN | apply below_drew1) | exact HB.out))) : w.heap.size ≤ gb102)); have n3_ := Aside0.mk ((by rw [hg]; exact (below_size (by repeat (first | (with_reducible first | exact HB.out | apply below_alloc | apply pw_below_drewN | apply below_drew1) | exact HB.out))) : w.heap.size ≤ gb102)); clear HB; have HB := n0_; have BK102 := n1_; have GW102 := n2_; have GE102 := n3_; clear n0_ n1_ n2_ n3_; clear hb hbox hg) | ((with_reducible refine gate_dst (N := 2) rfl ?_); refine box_event ?hg (N := 2) ?hd (cs := #[.int .i64 0, .slice none 0 0, .slice none 0 0, .slice none 0 0, .slice none 0 0, .slice none 0 0, .slice none 0 0, .int .i64 0, .int .i64 0, .int .i64 0]) (t := 54) ?hr ?_; (case hd => rfl); (case hg => rfl); (case hr => first | (go_simp; done) | (go_simp; rfl)); intro gb103 hg w9 hbox hb; have n0_ := Aside0.mk (blk_below (g := gb102) (o := .cells #[.int .i64 a0_0, .slice A0_1 l0_1.length c0_1, .slice A0_2 l0_2.length c0_2, .slice A0_3 l0_3.length c0_3, .slice A0_4 l0_4.length c0_4, .slice A0_5 l0_5.length c0_5, .slice A0_6 l0_6.length c0_6, .int .i64 a0_7, .int .i64 a0_8, .int .i64 a0_9] 54 (0, 0)) (by (with_reducible repeat first | apply ba | apply bb | apply bc); exact BK102.out) hb); have n1_ := Aside0.mk (below_step (by repeat (first | (with_reducible first | exact HB.out | apply below_alloc | apply pw_below_drewN | apply below_drew1 | refine below_set ?_ GE102.out) | exact HB.out)) hb); have n2_ := Aside0.mk (hbox); have n3_ := Aside0.mk ((by rw [hg]; exact (below_size (by repeat (first | (with_reducible first | exact HB.out | apply below_alloc | apply pw_below_drewN | apply below_drew1 | refine below_set ?_ GE102.out) | exact HB.out))) : w.heap.size ≤ gb103)); have n4_ := Aside0.mk ((by rw [hg]; exact (below_size (by repeat (first | (with_reducible first | exact HB.out | apply below_alloc | apply pw_below_drewN | apply below_drew1 | refine below_set ?_ GE102.out) | exact HB.out))) : w.heap.size ≤ gb103)); have n5_ := Aside0.mk ((by rw [hg]; exact Nat.ne_of_lt (blk_lt (g := gb102) (o := .cells #[.int .i64 a0_0, .slice A0_1 l0_1.length c0_1, .slice A0_2 l0_2.length c0_2, .slice A0_3 l0_3.length c0_3, .slice A0_4 l0_4.length c0_4, .slice A0_5 l0_5.length c0_5, .slice A0_6 l0_6.length c0_6, .int .i64 a0_7, .int .i64 a0_8, .int .i64 a0_9] 54 (0, 0)) (by (with_reducible repeat first | apply ba | apply bb | apply bc); exact BK102.out)) : gb102 ≠ gb103)); have n6_ := Aside0.mk ((by rw [hg]; exact Nat.ne_of_gt (blk_lt (g := gb102) (o := .cells #[.int .i64 a0_0, .slice A0_1 l0_1.length c0_1, .slice A0_2 l0_2.length c0_2, .slice A0_3 l0_3.length c0_3, .slice A0_4 l0_4.length c0_4, .slice A0_5 l0_5.length c0_5, .slice A0_6 l0_6.length c0_6, .int .i64 a0_7, .int .i64 a0_8, .int .i64 a0_9] 54 (0, 0)) (by (with_reducible repeat first | apply ba | apply bb | apply bc); exact BK102.out)) : gb103 ≠ gb102)); clear BK102; clear HB; have BK102 := n0_; have HB := n1_; have BK103 := n2_; have GW103 := n3_; have GE103 := n4_; have NB102_103 := n5_; have NB103_102 := n6_; clear n0_ n1_ n2_ n3_ n4_ n5_ n6_; clear hb hbox hg))
             have n0_ := Aside0.mk (blk_drew BK102.out)
             have n1_ := Aside0.mk (blk_drew BK103.out)
             have n2_ := Aside0.mk (below_drew1 HB.out)
             clear BK102
             clear BK103
             clear HB
             have BK102 := n0_
             have BK103 := n1_
             have HB := n2_
             clear n0_ n1_ n2_
             refine start_ (n := 34) (S := fun w' => True) (ds := []) #[false, false, false, false, false, false, false, false, false, false, false, false, false, false, false, false, false, false, false, false, false, false, false, false, false, false, false, false, false, false, false, false, false, false] (by kernel_rfl) rfl rfl trivial (fun hHeld => ?_); refine with_tabW patchbayref3_Cast_Copied.tab1 patchbayref3_Cast_Copied.bits1 (fun HT_ HW_ => ?_)
             generalize w9.drew = w10 at BK102 BK103 HB hHeld ⊢
             refine pure_ (i := 0) (N := some 3) (v := ?_) (a' := ?_) #[true, false, false, false, false, false, false, false, false, false, false, false, false, false, false, false, false, false, false, false, false, false, false, false, false, false, false, false, false, false, false, false, false, false] rfl rfl (any_of HT_.out (by kernel_rfl)) (fun _ _ _ h => h) (Or.inl ⟨by rfl, ?_⟩) ?_ ?_
             rotate_left
             · intro w'
               go_simp
               with_reducible rfl
             rotate_left
             · simp only [Act.put, List.setIfInBounds_toArray, List.set_cons_zero, List.set_cons_succ, i64_w, i32_w]
               rfl
             refine pure_ (i := 3) (N := some 6) (v := ?_) (a' := ?_) #[true, false, false, true, false, false, false, false, false, false, false, false, false, false, false, false, false, false, false, false, false, false, false, false, false, false, false, false, false, false, false, false, false, false] rfl rfl (any_of HT_.out (by kernel_rfl)) (fun _ _ _ h => h) (Or.inl ⟨by rfl, ?_⟩) ?_ ?_
             rotate_left
             · intro w'
               go_simp
               with_reducible rfl
             rotate_left
             · simp only [Act.put, List.setIfInBounds_toArray, List.set_cons_zero, List.set_cons_succ, i64_w, i32_w]
               rfl
             refine pure_ (i := 7) (N := some 10) (v := ?_) (a' := ?_) #[true, false, false, true, false, false, false, true, false, false, false, false, false, false, false, false, false, false, false, false, false, false, false, false, false, false, false, false, false, false, false, false, false, false] rfl rfl (any_of HT_.out (by kernel_rfl)) (fun _ _ _ h => h) (Or.inl ⟨by rfl, ?_⟩) ?_ ?_
             rotate_left
             · intro w'
               go_simp
               with_reducible rfl
             rotate_left
             · simp only [Act.put, List.setIfInBounds_toArray, List.set_cons_zero, List.set_cons_succ, i64_w, i32_w]
               rfl
             refine pure_ (i := 11) (N := some 14) (v := ?_) (a' := ?_) #[true, false, false, true, false, false, false, true, false, false, false, true, false, false, false, false, false, false, false, false, false, false, false, false, false, false, false, false, false, false, false, false, false, false] rfl rfl (any_of HT_.out (by kernel_rfl)) (fun _ _ _ h => h) (Or.inl ⟨by rfl, ?_⟩) ?_ ?_
             rotate_left
             · intro w'
               go_simp
               with_reducible rfl
             rotate_left
             · simp only [Act.put, List.setIfInBounds_toArray, List.set_cons_zero, List.set_cons_succ, i64_w, i32_w]
               rfl
             refine pure_ (i := 15) (N := some 18) (v := ?_) (a' := ?_) #[true, false, false, true, false, false, false, true, false, false, false, true, false, false, false, true, false, false, false, false, false, false, false, false, false, false, false, false, false, false, false, false, false, false] rfl rfl (any_of HT_.out (by kernel_rfl)) (fun _ _ _ h => h) (Or.inl ⟨by rfl, ?_⟩) ?_ ?_
             rotate_left
             · intro w'
               go_simp
               with_reducible rfl
             rotate_left
             · simp only [Act.put, List.setIfInBounds_toArray, List.set_cons_zero, List.set_cons_succ, i64_w, i32_w]
               rfl
             refine pure_ (i := 19) (N := some 22) (v := ?_) (a' := ?_) #[true, false, false, true, false, false, false, true, false, false, false, true, false, false, false, true, false, false, false, true, false, false, false, false, false, false, false, false, false, false, false, false, false, false] rfl rfl (any_of HT_.out (by kernel_rfl)) (fun _ _ _ h => h) (Or.inl ⟨by rfl, ?_⟩) ?_ ?_
             rotate_left
             · intro w'
               go_simp
               with_reducible rfl
             rotate_left
             · simp only [Act.put, List.setIfInBounds_toArray, List.set_cons_zero, List.set_cons_succ, i64_w, i32_w]
               rfl
             refine pure_ (i := 23) (N := some 26) (v := ?_) (a' := ?_) #[true, false, false, true, false, false, false, true, false, false, false, true, false, false, false, true, false, false, false, true, false, false, false, true, false, false, false, false, false, false, false, false, false, false] rfl rfl (any_of HT_.out (by kernel_rfl)) (fun _ _ _ h => h) (Or.inl ⟨by rfl, ?_⟩) ?_ ?_
             rotate_left
             · intro w'
               go_simp
               with_reducible rfl
             rotate_left
             · simp only [Act.put, List.setIfInBounds_toArray, List.set_cons_zero, List.set_cons_succ, i64_w, i32_w]
               rfl
             refine pure_ (i := 26) (N := some 29) (v := ?_) (a' := ?_) #[true, false, false, true, false, false, false, true, false, false, false, true, false, false, false, true, false, false, false, true, false, false, false, true, false, false, true, false, false, false, false, false, false, false] rfl rfl (any_of HT_.out (by kernel_rfl)) (fun _ _ _ h => h) (Or.inl ⟨by rfl, ?_⟩) ?_ ?_
             rotate_left
             · intro w'
               go_simp
               with_reducible rfl
             rotate_left
             · simp only [Act.put, List.setIfInBounds_toArray, List.set_cons_zero, List.set_cons_succ, i64_w, i32_w]
               rfl
             refine pure_ (i := 28) (N := some 31) (v := ?_) (a' := ?_) #[true, false, false, true, false, false, false, true, false, false, false, true, false, false, false, true, false, false, false, true, false, false, false, true, false, false, true, false, true, false, false, false, false, false] rfl rfl (any_of HT_.out (by kernel_rfl)) (fun _ _ _ h => h) (Or.inl ⟨by rfl, ?_⟩) ?_ ?_
             rotate_left
             · intro w'
               go_simp
               with_reducible rfl
             rotate_left
             · simp only [Act.put, List.setIfInBounds_toArray, List.set_cons_zero, List.set_cons_succ, i64_w, i32_w]
               rfl
             refine pure_ (i := 30) (N := some 33) (v := ?_) (a' := ?_) #[true, false, false, true, false, false, false, true, false, false, false, true, false, false, false, true, false, false, false, true, false, false, false, true, false, false, true, false, true, false, true, false, false, false] rfl rfl (any_of HT_.out (by kernel_rfl)) (fun _ _ _ h => h) (Or.inl ⟨by rfl, ?_⟩) ?_ ?_
             rotate_left
             · intro w'
               go_simp
               with_reducible rfl
             rotate_left
             · simp only [Act.put, List.setIfInBounds_toArray, List.set_cons_zero, List.set_cons_succ, i64_w, i32_w]
               rfl
             refine inv_at [1, 2, 4, 5, 6, 8, 9, 10, 12, 13, 14, 16, 17, 18, 20, 21, 22, 24, 25, 27, 29, 31, 32, 33] (fun a0_ b a w' => ∃ (v105 : Value) (v108 : Value) (v111 : Value) (v114 : Value) (v117 : Value) (v120 : Value) (v123 : Value) (v126 : Value) (v129 : Value) (v132 : Value) (v135 : Value) (v138 : Value) (m32_ : Value), a = putSel a0_ b [(1, 4, .int .i64 a0_0), (2, 5, v105), (4, 7, .slice A0_1 l0_1.length c0_1), (5, 8, v108), (6, 9, v111), (8, 11, .slice A0_2 l0_2.length c0_2), (9, 12, v114), (10, 13, v117), (12, 15, .slice A0_3 l0_3.length c0_3), (13, 16, v120), (14, 17, v123), (16, 19, .slice A0_4 l0_4.length c0_4), (17, 20, v126), (18, 21, v129), (20, 23, .slice A0_5 l0_5.length c0_5), (21, 24, v132), (22, 25, v135), (24, 27, .slice A0_6 l0_6.length c0_6), (25, 28, v138), (27, 30, .int .i64 a0_7), (29, 32, .int .i64 a0_8), (31, 34, .int .i64 a0_9), (32, 35, m32_)] ∧ (w'.heap[gb102]? = some (.cells #[.int .i64 a0_0, .slice A0_1 l0_1.length c0_1, .slice A0_2 l0_2.length c0_2, .slice A0_3 l0_3.length c0_3, .slice A0_4 l0_4.length c0_4, .slice A0_5 l0_5.length c0_5, .slice A0_6 l0_6.length c0_6, .int .i64 a0_7, .int .i64 a0_8, .int .i64 a0_9] 54 (0, 0))) ∧ (b 33 = false → w'.heap[gb103]? = some (.cells #[.int .i64 0, .slice none 0 0, .slice none 0 0, .slice none 0 0, .slice none 0 0, .slice none 0 0, .slice none 0 0, .int .i64 0, .int .i64 0, .int .i64 0] 54 (0, 0))) ∧ (Below w.heap.size w w') ∧ (b 2 = true → b 5 = false → Kd.R Kd.bool 4 w' w.heap.size (fun _ => True) v105 y104) ∧ (b 5 = true → Kd.R Kd.bool 4 w' w.heap.size (fun _ => True) v108 y107) ∧ (b 6 = true → b 9 = false → Kd.R Kd.bool 4 w' w.heap.size (fun _ => True) v111 y110) ∧ (b 9 = true → Kd.R Kd.bool 4 w' w.heap.size (fun _ => True) v114 y113) ∧ (b 10 = true → b 13 = false → Kd.R Kd.bool 4 w' w.heap.size (fun _ => True) v117 y116) ∧ (b 13 = true → Kd.R Kd.bool 4 w' w.heap.size (fun _ => True) v120 y119) ∧ (b 14 = true → b 17 = false → Kd.R Kd.string 9 w' w.heap.size (fun _ => True) v123 y122) ∧ (b 17 = true → Kd.R Kd.string 9 w' w.heap.size (fun _ => True) v126 y125) ∧ (b 18 = true → b 21 = false → Kd.R (Kd.int .i64) 3 w' w.heap.size (fun _ => True) v129 y128) ∧ (b 21 = true → Kd.R (Kd.int .i64) 3 w' w.heap.size (fun _ => True) v132 y131) ∧ (b 22 = true → b 25 = false → Kd.R (Kd.int .i64) 3 w' w.heap.size (fun _ => True) v135 y134) ∧ (b 25 = true → Kd.R (Kd.int .i64) 3 w' w.heap.size (fun _ => True) v138 y137) ∧ (b 33 = true → w'.heap[gb103]? = some (.cells #[.int .i64 a0_0, v108, v114, v120, v126, v132, v138, .int .i64 a0_7, .int .i64 a0_8, .int .i64 a0_9] 54 (0, 0))) ∧ (b 2 = true → b 6 = true → b 5 = false → b 9 = false → ∀ k_, some k_ = (v105 : Value).ownBlock → some k_ ≠ (v111 : Value).ownBlock) ∧ (b 2 = true → b 10 = true → b 5 = false → b 13 = false → ∀ k_, some k_ = (v105 : Value).ownBlock → some k_ ≠ (v117 : Value).ownBlock) ∧ (b 5 = true → b 6 = true → b 9 = false → ∀ k_, some k_ = (v108 : Value).ownBlock → some k_ ≠ (v111 : Value).ownBlock) ∧ (b 5 = true → b 9 = true → ∀ k_, some k_ = (v108 : Value).ownBlock → some k_ ≠ (v114 : Value).ownBlock) ∧ (b 5 = true → b 10 = true → b 13 = false → ∀ k_, some k_ = (v108 : Value).ownBlock → some k_ ≠ (v117 : Value).ownBlock) ∧ (b 5 = true → b 13 = true → ∀ k_, some k_ = (v108 : Value).ownBlock → some k_ ≠ (v120 : Value).ownBlock) ∧ (b 6 = true → b 10 = true → b 9 = false → b 13 = false → ∀ k_, some k_ = (v111 : Value).ownBlock → some k_ ≠ (v117 : Value).ownBlock) ∧ (b 9 = true → b 10 = true → b 13 = false → ∀ k_, some k_ = (v114 : Value).ownBlock → some k_ ≠ (v117 : Value).ownBlock) ∧ (b 9 = true → b 13 = true → ∀ k_, some k_ = (v114 : Value).ownBlock → some k_ ≠ (v120 : Value).ownBlock) ∧ (b 18 = true → b 22 = true → b 21 = false → b 25 = false → ∀ k_, some k_ = (v129 : Value).ownBlock → some k_ ≠ (v135 : Value).ownBlock) ∧ (b 21 = true → b 22 = true → b 25 = false → ∀ k_, some k_ = (v132 : Value).ownBlock → some k_ ≠ (v135 : Value).ownBlock) ∧ (b 21 = true → b 25 = true → ∀ k_, some k_ = (v132 : Value).ownBlock → some k_ ≠ (v138 : Value).ownBlock) ∧ (b 32 = true → (m32_ : Value) = .agg #[.int .i64 a0_0, v108, v114, v120, v126, v132, v138, .int .i64 a0_7, .int .i64 a0_8, .int .i64 a0_9])) HT_.out HW_.out (by kernel_rfl) (by kernel_rfl) ?_ ?_ ?_
             · exact ⟨.bool false, .bool false, .bool false, .bool false, .bool false, .bool false, .bool false, .bool false, .bool false, .bool false, .bool false, .bool false, .bool false, by simp only [putSel, Bool.false_eq_true, if_false], BK102.out, fun _ => BK103.out, HB.out, fun h_ => absurd h_ (by decide), fun h_ => absurd h_ (by decide), fun h_ => absurd h_ (by decide), fun h_ => absurd h_ (by decide), fun h_ => absurd h_ (by decide), fun h_ => absurd h_ (by decide), fun h_ => absurd h_ (by decide), fun h_ => absurd h_ (by decide), fun h_ => absurd h_ (by decide), fun h_ => absurd h_ (by decide), fun h_ => absurd h_ (by decide), fun h_ => absurd h_ (by decide), fun h_ => absurd h_ (by decide), fun h_ => absurd h_ (by decide), fun h_ => absurd h_ (by decide), fun h_ => absurd h_ (by decide), fun h_ => absurd h_ (by decide), fun h_ => absurd h_ (by decide), fun h_ => absurd h_ (by decide), fun h_ => absurd h_ (by decide), fun h_ => absurd h_ (by decide), fun h_ => absurd h_ (by decide), fun h_ => absurd h_ (by decide), fun h_ => absurd h_ (by decide), fun h_ => absurd h_ (by decide), fun h_ => absurd h_ (by decide)⟩
             · skip
               clear BK102 BK103 HB
               refine steps_cons ?_ ?_
               · rintro b a w' ⟨v105, v108, v111, v114, v117, v120, v123, v126, v129, v132, v135, v138, m32_, ha, Q_BK102, Q_BK103, Q_HB, Q_HO106, Q_HO109, Q_HO112, Q_HO115, Q_HO118, Q_HO121, Q_HO124, Q_HO127, Q_HO130, Q_HO133, Q_HO136, Q_HO139, Q_BK103_e33, Q_DJ_v105_v111, Q_DJ_v105_v117, Q_DJ_v108_v111, Q_DJ_v108_v114, Q_DJ_v108_v117, Q_DJ_v108_v120, Q_DJ_v111_v117, Q_DJ_v114_v117, Q_DJ_v114_v120, Q_DJ_v129_v135, Q_DJ_v132_v135, Q_DJ_v132_v138, Q_X32_⟩ hb_ hon hoff
                 refine ⟨_, rfl, fun K hK => ?_⟩
                 have e3 : a.tmps[3]? = some (.pointer (some ⟨gb102, 0, none⟩)) := by rw [ha]; exact (putSel_off rfl).trans rfl
                 replace ha := Aside0.mk ha
                 have BK102 := Aside0.mk Q_BK102
                 have BK103 := Aside0.mk (Q_BK103 (hoff 33 (by kernel_rfl)))
                 have HB := Aside0.mk Q_HB
                 have hc0_ : w'.cell? ⟨gb102, 0, none⟩ = some (.int .i64 a0_0) := (blk_cell BK102.out 0).trans rfl
                 have hc1_ : w'.cell? ⟨gb102, 1, none⟩ = some (.slice A0_1 l0_1.length c0_1) := (blk_cell BK102.out 1).trans rfl
                 have hc2_ : w'.cell? ⟨gb102, 2, none⟩ = some (.slice A0_2 l0_2.length c0_2) := (blk_cell BK102.out 2).trans rfl
                 have hc3_ : w'.cell? ⟨gb102, 3, none⟩ = some (.slice A0_3 l0_3.length c0_3) := (blk_cell BK102.out 3).trans rfl
                 have hc4_ : w'.cell? ⟨gb102, 4, none⟩ = some (.slice A0_4 l0_4.length c0_4) := (blk_cell BK102.out 4).trans rfl
                 have hc5_ : w'.cell? ⟨gb102, 5, none⟩ = some (.slice A0_5 l0_5.length c0_5) := (blk_cell BK102.out 5).trans rfl
                 have hc6_ : w'.cell? ⟨gb102, 6, none⟩ = some (.slice A0_6 l0_6.length c0_6) := (blk_cell BK102.out 6).trans rfl
                 have hc7_ : w'.cell? ⟨gb102, 7, none⟩ = some (.int .i64 a0_7) := (blk_cell BK102.out 7).trans rfl
                 have hc8_ : w'.cell? ⟨gb102, 8, none⟩ = some (.int .i64 a0_8) := (blk_cell BK102.out 8).trans rfl
                 have hc9_ : w'.cell? ⟨gb102, 9, none⟩ = some (.int .i64 a0_9) := (blk_cell BK102.out 9).trans rfl
                 refine value_ (w1 := w') (v := .int .i64 a0_0) (by rfl) rfl ?_ ?_
                 · go_simp
                   (try simp only [i64_w])
                   try rfl
                 refine hK.out _ _ ⟨v105, v108, v111, v114, v117, v120, v123, v126, v129, v132, v135, v138, m32_, (by rw [ha.out]; exact putSel_upk 0 hb_ rfl rfl rfl), Q_BK102, Q_BK103, Q_HB, Q_HO106, Q_HO109, Q_HO112, Q_HO115, Q_HO118, Q_HO121, Q_HO124, Q_HO127, Q_HO130, Q_HO133, Q_HO136, Q_HO139, fun h0_ => absurd ((hoff 33 (by kernel_rfl)).symm.trans h0_) (by decide), Q_DJ_v105_v111, Q_DJ_v105_v117, Q_DJ_v108_v111, Q_DJ_v108_v114, Q_DJ_v108_v117, Q_DJ_v108_v120, Q_DJ_v111_v117, Q_DJ_v114_v117, Q_DJ_v114_v120, Q_DJ_v129_v135, Q_DJ_v132_v135, Q_DJ_v132_v138, fun h0_ => absurd ((hoff 32 (by kernel_rfl)).symm.trans h0_) (by decide)⟩
               refine steps_cons ?_ ?_
               · rintro b a w' ⟨v105, v108, v111, v114, v117, v120, v123, v126, v129, v132, v135, v138, m32_, ha, Q_BK102, Q_BK103, Q_HB, Q_HO106, Q_HO109, Q_HO112, Q_HO115, Q_HO118, Q_HO121, Q_HO124, Q_HO127, Q_HO130, Q_HO133, Q_HO136, Q_HO139, Q_BK103_e33, Q_DJ_v105_v111, Q_DJ_v105_v117, Q_DJ_v108_v111, Q_DJ_v108_v114, Q_DJ_v108_v117, Q_DJ_v108_v120, Q_DJ_v111_v117, Q_DJ_v114_v117, Q_DJ_v114_v120, Q_DJ_v129_v135, Q_DJ_v132_v135, Q_DJ_v132_v138, Q_X32_⟩ hb_ hon hoff
                 refine ⟨_, rfl, fun K hK => ?_⟩
                 replace ha := Aside0.mk ha
                 have BK102 := Aside0.mk Q_BK102
                 have BK103 := Aside0.mk (Q_BK103 (hoff 33 (by kernel_rfl)))
                 have HB := Aside0.mk Q_HB
                 refine Kd.R_lit_step Kd.bool _ 4 ?hg_2 (N := 5) ?hd_2 (xs := ([] : List Bool)) (inner := []) (ok := fun _ => True) (okp := fun _ => True) ?hr_2 ?hp_2 (fun _ hk => hk) trivial (Below.refl _ _) (Nat.le_refl _) (by simp) ?_; (case hd_2 => rfl); (case hg_2 => rfl); (case hr_2 => first | (go_simp; done) | (go_simp; rfl)); (case hp_2 => exact (Reps.none _ _))
                 intro v105 w11 ho12 hb hg_ hnew_
                 clear hg_ hnew_
                 (first | rw [← Ny104.out] at ho12 | (simp only [Int.reduceToNat] at ho12; rw [← Ny104.out] at ho12))
                 have n0_ := Aside0.mk (Kd.R_lower ho12 (below_size (by repeat (first | (with_reducible first | exact HB.out | apply below_alloc | apply pw_below_drewN | apply below_drew1 | refine below_set ?_ GE102.out | refine below_set ?_ GE103.out) | exact HB.out))))
                 have n1_ := Aside0.mk (blk_below (g := gb102) (o := .cells #[.int .i64 a0_0, .slice A0_1 l0_1.length c0_1, .slice A0_2 l0_2.length c0_2, .slice A0_3 l0_3.length c0_3, .slice A0_4 l0_4.length c0_4, .slice A0_5 l0_5.length c0_5, .slice A0_6 l0_6.length c0_6, .int .i64 a0_7, .int .i64 a0_8, .int .i64 a0_9] 54 (0, 0)) (by (with_reducible repeat first | apply ba | apply bb | apply bc); exact BK102.out) hb)
                 have n2_ := Aside0.mk (blk_below (g := gb103) (o := .cells #[.int .i64 0, .slice none 0 0, .slice none 0 0, .slice none 0 0, .slice none 0 0, .slice none 0 0, .slice none 0 0, .int .i64 0, .int .i64 0, .int .i64 0] 54 (0, 0)) (by (with_reducible repeat first | apply ba | apply bb | apply bc); exact BK103.out) hb)
                 have n3_ := Aside0.mk (below_step (by repeat (first | (with_reducible first | exact HB.out | apply below_alloc | apply pw_below_drewN | apply below_drew1 | refine below_set ?_ GE102.out | refine below_set ?_ GE103.out) | exact HB.out)) hb)
                 have z_HO112 := fun (h0_ : b 6 = true) (h1_ : b 9 = false) => (show Kd.R Kd.bool 4 w11 w.heap.size (fun _ => True) v111 y110 from Kd.R_below (Q_HO112 h0_ h1_) hb)
                 have z_HO118 := fun (h0_ : b 10 = true) (h1_ : b 13 = false) => (show Kd.R Kd.bool 4 w11 w.heap.size (fun _ => True) v117 y116 from Kd.R_below (Q_HO118 h0_ h1_) hb)
                 have z_HO124 := fun (h0_ : b 14 = true) (h1_ : b 17 = false) => (show Kd.R Kd.string 9 w11 w.heap.size (fun _ => True) v123 y122 from by first | exact (Kd.R_below (by (with_reducible repeat first | apply ra | apply rb | apply rc); exact (Q_HO124 h0_ h1_)) hb) | exact Kd.R_mono (Kd.R_below (by (with_reducible repeat first | apply ra | apply rb | apply rc); exact (Q_HO124 h0_ h1_)) hb) (fun _ h_ => by first | trivial | exact h_ | exact h_.1))
                 have z_HO130 := fun (h0_ : b 18 = true) (h1_ : b 21 = false) => (show Kd.R (Kd.int .i64) 3 w11 w.heap.size (fun _ => True) v129 y128 from Kd.R_below (Q_HO130 h0_ h1_) hb)
                 have z_HO136 := fun (h0_ : b 22 = true) (h1_ : b 25 = false) => (show Kd.R (Kd.int .i64) 3 w11 w.heap.size (fun _ => True) v135 y134 from Kd.R_below (Q_HO136 h0_ h1_) hb)
                 have z_DJ_v105_v111 := fun (g0_ : b 6 = true) (g1_ : b 5 = false) (g2_ : b 9 = false) => dj_new (Kd.R_base ho12) (Q_HO112 g0_ g2_)
                 have z_DJ_v105_v117 := fun (g0_ : b 10 = true) (g1_ : b 5 = false) (g2_ : b 13 = false) => dj_new (Kd.R_base ho12) (Q_HO118 g0_ g2_)
                 clear BK102
                 clear BK103
                 clear HB
                 have HO106 := n0_
                 have BK102 := n1_
                 have BK103 := n2_
                 have HB := n3_
                 clear n0_ n1_ n2_ n3_
                 clear hb ho12
                 refine hK.out _ _ ⟨v105, v108, v111, v114, v117, v120, v123, v126, v129, v132, v135, v138, m32_, (by rw [ha.out]; exact putSel_upk 1 hb_ rfl rfl rfl), (by (with_reducible repeat first | apply ba | apply bb | apply bc); exact BK102.out), fun _ => (by (with_reducible repeat first | apply ba | apply bb | apply bc); exact BK103.out), (by repeat (first | (with_reducible first | exact HB.out | apply below_alloc | apply pw_below_drewN | apply below_drew1 | refine below_set ?_ GE102.out | refine below_set ?_ GE103.out) | exact HB.out)), fun _ _ => (by exact HO106.out), fun h0_ => absurd ((hoff 5 (by kernel_rfl)).symm.trans h0_) (by decide), z_HO112, fun h0_ => absurd ((hoff 9 (by kernel_rfl)).symm.trans h0_) (by decide), z_HO118, fun h0_ => absurd ((hoff 13 (by kernel_rfl)).symm.trans h0_) (by decide), z_HO124, fun h0_ => absurd ((hoff 17 (by kernel_rfl)).symm.trans h0_) (by decide), z_HO130, fun h0_ => absurd ((hoff 21 (by kernel_rfl)).symm.trans h0_) (by decide), z_HO136, fun h0_ => absurd ((hoff 25 (by kernel_rfl)).symm.trans h0_) (by decide), fun h0_ => absurd ((hoff 33 (by kernel_rfl)).symm.trans h0_) (by decide), fun _ h1_ h2_ h3_ => z_DJ_v105_v111 h1_ h2_ h3_, fun _ h1_ h2_ h3_ => z_DJ_v105_v117 h1_ h2_ h3_, fun h0_ _ _ => absurd ((hoff 5 (by kernel_rfl)).symm.trans h0_) (by decide), fun h0_ _ => absurd ((hoff 5 (by kernel_rfl)).symm.trans h0_) (by decide), fun h0_ _ _ => absurd ((hoff 5 (by kernel_rfl)).symm.trans h0_) (by decide), fun h0_ _ => absurd ((hoff 5 (by kernel_rfl)).symm.trans h0_) (by decide), Q_DJ_v111_v117, fun h0_ _ _ => absurd ((hoff 9 (by kernel_rfl)).symm.trans h0_) (by decide), fun h0_ _ => absurd ((hoff 9 (by kernel_rfl)).symm.trans h0_) (by decide), Q_DJ_v129_v135, fun h0_ _ _ => absurd ((hoff 21 (by kernel_rfl)).symm.trans h0_) (by decide), fun h0_ _ => absurd ((hoff 21 (by kernel_rfl)).symm.trans h0_) (by decide), fun h0_ => absurd ((hoff 32 (by kernel_rfl)).symm.trans h0_) (by decide)⟩
               refine steps_cons ?_ ?_
               · rintro b a w' ⟨v105, v108, v111, v114, v117, v120, v123, v126, v129, v132, v135, v138, m32_, ha, Q_BK102, Q_BK103, Q_HB, Q_HO106, Q_HO109, Q_HO112, Q_HO115, Q_HO118, Q_HO121, Q_HO124, Q_HO127, Q_HO130, Q_HO133, Q_HO136, Q_HO139, Q_BK103_e33, Q_DJ_v105_v111, Q_DJ_v105_v117, Q_DJ_v108_v111, Q_DJ_v108_v114, Q_DJ_v108_v117, Q_DJ_v108_v120, Q_DJ_v111_v117, Q_DJ_v114_v117, Q_DJ_v114_v120, Q_DJ_v129_v135, Q_DJ_v132_v135, Q_DJ_v132_v138, Q_X32_⟩ hb_ hon hoff
                 refine ⟨_, rfl, fun K hK => ?_⟩
                 have e6 : a.tmps[6]? = some (.pointer (some ⟨gb102, 1, none⟩)) := by rw [ha]; exact (putSel_off rfl).trans rfl
                 replace ha := Aside0.mk ha
                 have BK102 := Aside0.mk Q_BK102
                 have BK103 := Aside0.mk (Q_BK103 (hoff 33 (by kernel_rfl)))
                 have HB := Aside0.mk Q_HB
                 have hc0_ : w'.cell? ⟨gb102, 0, none⟩ = some (.int .i64 a0_0) := (blk_cell BK102.out 0).trans rfl
                 have hc1_ : w'.cell? ⟨gb102, 1, none⟩ = some (.slice A0_1 l0_1.length c0_1) := (blk_cell BK102.out 1).trans rfl
                 have hc2_ : w'.cell? ⟨gb102, 2, none⟩ = some (.slice A0_2 l0_2.length c0_2) := (blk_cell BK102.out 2).trans rfl
                 have hc3_ : w'.cell? ⟨gb102, 3, none⟩ = some (.slice A0_3 l0_3.length c0_3) := (blk_cell BK102.out 3).trans rfl
                 have hc4_ : w'.cell? ⟨gb102, 4, none⟩ = some (.slice A0_4 l0_4.length c0_4) := (blk_cell BK102.out 4).trans rfl
                 have hc5_ : w'.cell? ⟨gb102, 5, none⟩ = some (.slice A0_5 l0_5.length c0_5) := (blk_cell BK102.out 5).trans rfl
                 have hc6_ : w'.cell? ⟨gb102, 6, none⟩ = some (.slice A0_6 l0_6.length c0_6) := (blk_cell BK102.out 6).trans rfl
                 have hc7_ : w'.cell? ⟨gb102, 7, none⟩ = some (.int .i64 a0_7) := (blk_cell BK102.out 7).trans rfl
                 have hc8_ : w'.cell? ⟨gb102, 8, none⟩ = some (.int .i64 a0_8) := (blk_cell BK102.out 8).trans rfl
                 have hc9_ : w'.cell? ⟨gb102, 9, none⟩ = some (.int .i64 a0_9) := (blk_cell BK102.out 9).trans rfl
                 refine value_ (w1 := w') (v := .slice A0_1 l0_1.length c0_1) (by rfl) rfl ?_ ?_
                 · go_simp
                   (try simp only [i64_w])
                   try rfl
                 refine hK.out _ _ ⟨v105, v108, v111, v114, v117, v120, v123, v126, v129, v132, v135, v138, m32_, (by rw [ha.out]; exact putSel_upk 2 hb_ rfl rfl rfl), Q_BK102, Q_BK103, Q_HB, Q_HO106, fun h0_ => absurd ((hoff 5 (by kernel_rfl)).symm.trans h0_) (by decide), Q_HO112, fun h0_ => absurd ((hoff 9 (by kernel_rfl)).symm.trans h0_) (by decide), Q_HO118, fun h0_ => absurd ((hoff 13 (by kernel_rfl)).symm.trans h0_) (by decide), Q_HO124, fun h0_ => absurd ((hoff 17 (by kernel_rfl)).symm.trans h0_) (by decide), Q_HO130, fun h0_ => absurd ((hoff 21 (by kernel_rfl)).symm.trans h0_) (by decide), Q_HO136, fun h0_ => absurd ((hoff 25 (by kernel_rfl)).symm.trans h0_) (by decide), fun h0_ => absurd ((hoff 33 (by kernel_rfl)).symm.trans h0_) (by decide), Q_DJ_v105_v111, Q_DJ_v105_v117, fun h0_ _ _ => absurd ((hoff 5 (by kernel_rfl)).symm.trans h0_) (by decide), fun h0_ _ => absurd ((hoff 5 (by kernel_rfl)).symm.trans h0_) (by decide), fun h0_ _ _ => absurd ((hoff 5 (by kernel_rfl)).symm.trans h0_) (by decide), fun h0_ _ => absurd ((hoff 5 (by kernel_rfl)).symm.trans h0_) (by decide), Q_DJ_v111_v117, fun h0_ _ _ => absurd ((hoff 9 (by kernel_rfl)).symm.trans h0_) (by decide), fun h0_ _ => absurd ((hoff 9 (by kernel_rfl)).symm.trans h0_) (by decide), Q_DJ_v129_v135, fun h0_ _ _ => absurd ((hoff 21 (by kernel_rfl)).symm.trans h0_) (by decide), fun h0_ _ => absurd ((hoff 21 (by kernel_rfl)).symm.trans h0_) (by decide), fun h0_ => absurd ((hoff 32 (by kernel_rfl)).symm.trans h0_) (by decide)⟩
               refine steps_cons ?_ ?_
               · rintro b a w' ⟨v105, v108, v111, v114, v117, v120, v123, v126, v129, v132, v135, v138, m32_, ha, Q_BK102, Q_BK103, Q_HB, Q_HO106, Q_HO109, Q_HO112, Q_HO115, Q_HO118, Q_HO121, Q_HO124, Q_HO127, Q_HO130, Q_HO133, Q_HO136, Q_HO139, Q_BK103_e33, Q_DJ_v105_v111, Q_DJ_v105_v117, Q_DJ_v108_v111, Q_DJ_v108_v114, Q_DJ_v108_v117, Q_DJ_v108_v120, Q_DJ_v111_v117, Q_DJ_v114_v117, Q_DJ_v114_v120, Q_DJ_v129_v135, Q_DJ_v132_v135, Q_DJ_v132_v138, Q_X32_⟩ hb_ hon hoff
                 refine ⟨_, rfl, fun K hK => ?_⟩
                 have e5 : a.tmps[5]? = some (v105) := by rw [ha]; exact putSel_on (e := (2, 5, v105)) 1 rfl rfl (hon 2 (by kernel_rfl)) rfl
                 have e7 : a.tmps[7]? = some (.slice A0_1 l0_1.length c0_1) := by rw [ha]; exact putSel_on (e := (4, 7, .slice A0_1 l0_1.length c0_1)) 2 rfl rfl (hon 4 (by kernel_rfl)) rfl
                 replace ha := Aside0.mk ha
                 have BK102 := Aside0.mk Q_BK102
                 have BK103 := Aside0.mk (Q_BK103 (hoff 33 (by kernel_rfl)))
                 have HB := Aside0.mk Q_HB
                 have HO106 := Aside0.mk (Q_HO106 (hon 2 (by kernel_rfl)) hb_)
                 refine Kd.R_append_rows_step Kd.bool (w0 := w) w.heap.size (by rfl) (.tmp 5) (.tmp 7) 52 4 (.bool false) 1 rfl Try.underlying52 info4 rfl (by decide) (by omega) v105 y104 l0_1 _ _ _ (fun _ => True) (fun _ => False) (eval_of e5) (eval_of e7) ?aO_5 ?aR_5 (fun _ _ h => h) (fun _ h => h.elim) ?aF_5 ?aB_5 ?aS_5 ?aL_5 ?_
                 (case aR_5 => repeat (first | exact (Kd.C_below HR0_1.out HB.out) | (with_reducible refine Kd.C_alloc ?_ _) | (with_reducible refine Kd.C_drewN ?_ _) | (with_reducible refine Kd.C_drew ?_)))
                 (case aB_5 => exact (by repeat (first | (with_reducible first | exact HB.out | apply below_alloc | apply pw_below_drewN | apply below_drew1 | refine below_set ?_ GE102.out | refine below_set ?_ GE103.out) | exact HB.out)))
                 (case aF_5 => exact (fun _ _ => trivial))
                 (case aO_5 => exact (by (with_reducible repeat first | apply ra | apply rb | apply rc); exact HO106.out))
                 (case aS_5 => exact (below_size (by repeat (first | (with_reducible first | exact HB.out | apply below_alloc | apply pw_below_drewN | apply below_drew1 | refine below_set ?_ GE102.out | refine below_set ?_ GE103.out) | exact HB.out))))
                 (case aL_5 => have := LMc2.out; omega)
                 intro v108 w14 ho hb hg hat
                 rw [← Ny107.out] at ho
                 have n0_ := Aside0.mk (blk_grown (g := gb102) (o := .cells #[.int .i64 a0_0, .slice A0_1 l0_1.length c0_1, .slice A0_2 l0_2.length c0_2, .slice A0_3 l0_3.length c0_3, .slice A0_4 l0_4.length c0_4, .slice A0_5 l0_5.length c0_5, .slice A0_6 l0_6.length c0_6, .int .i64 a0_7, .int .i64 a0_8, .int .i64 a0_9] 54 (0, 0)) (by (with_reducible repeat first | apply ba | apply bb | apply bc); exact BK102.out) hg (Kd.R_ne HO106.out BK102.out (by decide)))
                 have n1_ := Aside0.mk (blk_grown (g := gb103) (o := .cells #[.int .i64 0, .slice none 0 0, .slice none 0 0, .slice none 0 0, .slice none 0 0, .slice none 0 0, .slice none 0 0, .int .i64 0, .int .i64 0, .int .i64 0] 54 (0, 0)) (by (with_reducible repeat first | apply ba | apply bb | apply bc); exact BK103.out) hg (Kd.R_ne HO106.out BK103.out (by decide)))
                 have n2_ := Aside0.mk (hb)
                 have n3_ := Aside0.mk (ho)
                 have z_HO112 := fun (h0_ : b 6 = true) (h1_ : b 9 = false) => (show Kd.R Kd.bool 4 w14 w.heap.size (fun _ => True) v111 y110 from Kd.R_mono (Kd.R_after (ok := fun _ => True) (Kd.R_reok rfl (Q_HO112 h0_ h1_) (fun k_ hk => ⟨trivial, fun e_ => (Q_DJ_v105_v111 (hon 2 (by kernel_rfl)) h0_ hb_ h1_) k_ e_ hk.symm⟩)) hg hat) (fun _ _ => trivial))
                 have z_HO118 := fun (h0_ : b 10 = true) (h1_ : b 13 = false) => (show Kd.R Kd.bool 4 w14 w.heap.size (fun _ => True) v117 y116 from Kd.R_mono (Kd.R_after (ok := fun _ => True) (Kd.R_reok rfl (Q_HO118 h0_ h1_) (fun k_ hk => ⟨trivial, fun e_ => (Q_DJ_v105_v117 (hon 2 (by kernel_rfl)) h0_ hb_ h1_) k_ e_ hk.symm⟩)) hg hat) (fun _ _ => trivial))
                 have z_HO124 := fun (h0_ : b 14 = true) (h1_ : b 17 = false) => (show Kd.R Kd.string 9 w14 w.heap.size (fun _ => True) v123 y122 from by first | exact (Kd.R_over' (by (with_reducible repeat first | apply ra | apply rb | apply rc); exact (Q_HO124 h0_ h1_)) (Kd.R_typed (by (with_reducible repeat first | apply ra | apply rb | apply rc); exact HO106.out)) (by decide) hg) | exact Kd.R_mono (Kd.R_over' (by (with_reducible repeat first | apply ra | apply rb | apply rc); exact (Q_HO124 h0_ h1_)) (Kd.R_typed (by (with_reducible repeat first | apply ra | apply rb | apply rc); exact HO106.out)) (by decide) hg) (fun _ h_ => by first | trivial | exact h_ | exact h_.1))
                 have z_HO130 := fun (h0_ : b 18 = true) (h1_ : b 21 = false) => (show Kd.R (Kd.int .i64) 3 w14 w.heap.size (fun _ => True) v129 y128 from by first | exact (Kd.R_over' (by (with_reducible repeat first | apply ra | apply rb | apply rc); exact (Q_HO130 h0_ h1_)) (Kd.R_typed (by (with_reducible repeat first | apply ra | apply rb | apply rc); exact HO106.out)) (by decide) hg) | exact Kd.R_mono (Kd.R_over' (by (with_reducible repeat first | apply ra | apply rb | apply rc); exact (Q_HO130 h0_ h1_)) (Kd.R_typed (by (with_reducible repeat first | apply ra | apply rb | apply rc); exact HO106.out)) (by decide) hg) (fun _ h_ => by first | trivial | exact h_ | exact h_.1))
                 have z_HO136 := fun (h0_ : b 22 = true) (h1_ : b 25 = false) => (show Kd.R (Kd.int .i64) 3 w14 w.heap.size (fun _ => True) v135 y134 from by first | exact (Kd.R_over' (by (with_reducible repeat first | apply ra | apply rb | apply rc); exact (Q_HO136 h0_ h1_)) (Kd.R_typed (by (with_reducible repeat first | apply ra | apply rb | apply rc); exact HO106.out)) (by decide) hg) | exact Kd.R_mono (Kd.R_over' (by (with_reducible repeat first | apply ra | apply rb | apply rc); exact (Q_HO136 h0_ h1_)) (Kd.R_typed (by (with_reducible repeat first | apply ra | apply rb | apply rc); exact HO106.out)) (by decide) hg) (fun _ h_ => by first | trivial | exact h_ | exact h_.1))
                 have z_DJ_v108_v111 := fun (g0_ : b 6 = true) (g1_ : b 9 = false) => dj_app hat (Q_DJ_v105_v111 (hon 2 (by kernel_rfl)) g0_ hb_ g1_) (Q_HO112 g0_ g1_)
                 have z_DJ_v108_v117 := fun (g0_ : b 10 = true) (g1_ : b 13 = false) => dj_app hat (Q_DJ_v105_v117 (hon 2 (by kernel_rfl)) g0_ hb_ g1_) (Q_HO118 g0_ g1_)
                 clear BK102
                 clear BK103
                 clear HB
                 clear HO106
                 have BK102 := n0_
                 have BK103 := n1_
                 have HB := n2_
                 have HO109 := n3_
                 clear n0_ n1_ n2_ n3_
                 clear ho hb hg hat
                 refine hK.out _ _ ⟨v105, v108, v111, v114, v117, v120, v123, v126, v129, v132, v135, v138, m32_, (by rw [ha.out]; exact putSel_upk 3 hb_ rfl rfl rfl), (by (with_reducible repeat first | apply ba | apply bb | apply bc); exact BK102.out), fun _ => (by (with_reducible repeat first | apply ba | apply bb | apply bc); exact BK103.out), (by repeat (first | (with_reducible first | exact HB.out | apply below_alloc | apply pw_below_drewN | apply below_drew1 | refine below_set ?_ GE102.out | refine below_set ?_ GE103.out) | exact HB.out)), fun _ h1_ => absurd ((up_self b 5).symm.trans h1_) (by decide), fun _ => (by exact HO109.out), z_HO112, fun h0_ => absurd ((hoff 9 (by kernel_rfl)).symm.trans h0_) (by decide), z_HO118, fun h0_ => absurd ((hoff 13 (by kernel_rfl)).symm.trans h0_) (by decide), z_HO124, fun h0_ => absurd ((hoff 17 (by kernel_rfl)).symm.trans h0_) (by decide), z_HO130, fun h0_ => absurd ((hoff 21 (by kernel_rfl)).symm.trans h0_) (by decide), z_HO136, fun h0_ => absurd ((hoff 25 (by kernel_rfl)).symm.trans h0_) (by decide), fun h0_ => absurd ((hoff 33 (by kernel_rfl)).symm.trans h0_) (by decide), fun _ _ h2_ _ => absurd ((up_self b 5).symm.trans h2_) (by decide), fun _ _ h2_ _ => absurd ((up_self b 5).symm.trans h2_) (by decide), fun _ h1_ h2_ => z_DJ_v108_v111 h1_ h2_, fun _ h1_ => absurd ((hoff 9 (by kernel_rfl)).symm.trans h1_) (by decide), fun _ h1_ h2_ => z_DJ_v108_v117 h1_ h2_, fun _ h1_ => absurd ((hoff 13 (by kernel_rfl)).symm.trans h1_) (by decide), Q_DJ_v111_v117, fun h0_ _ _ => absurd ((hoff 9 (by kernel_rfl)).symm.trans h0_) (by decide), fun h0_ _ => absurd ((hoff 9 (by kernel_rfl)).symm.trans h0_) (by decide), Q_DJ_v129_v135, fun h0_ _ _ => absurd ((hoff 21 (by kernel_rfl)).symm.trans h0_) (by decide), fun h0_ _ => absurd ((hoff 21 (by kernel_rfl)).symm.trans h0_) (by decide), fun h0_ => absurd ((hoff 32 (by kernel_rfl)).symm.trans h0_) (by decide)⟩
               refine steps_cons ?_ ?_
               · rintro b a w' ⟨v105, v108, v111, v114, v117, v120, v123, v126, v129, v132, v135, v138, m32_, ha, Q_BK102, Q_BK103, Q_HB, Q_HO106, Q_HO109, Q_HO112, Q_HO115, Q_HO118, Q_HO121, Q_HO124, Q_HO127, Q_HO130, Q_HO133, Q_HO136, Q_HO139, Q_BK103_e33, Q_DJ_v105_v111, Q_DJ_v105_v117, Q_DJ_v108_v111, Q_DJ_v108_v114, Q_DJ_v108_v117, Q_DJ_v108_v120, Q_DJ_v111_v117, Q_DJ_v114_v117, Q_DJ_v114_v120, Q_DJ_v129_v135, Q_DJ_v132_v135, Q_DJ_v132_v138, Q_X32_⟩ hb_ hon hoff
                 refine ⟨_, rfl, fun K hK => ?_⟩
                 replace ha := Aside0.mk ha
                 have BK102 := Aside0.mk Q_BK102
                 have BK103 := Aside0.mk (Q_BK103 (hoff 33 (by kernel_rfl)))
                 have HB := Aside0.mk Q_HB
                 refine Kd.R_lit_step Kd.bool _ 4 ?hg_6 (N := 9) ?hd_6 (xs := ([] : List Bool)) (inner := []) (ok := fun _ => True) (okp := fun _ => True) ?hr_6 ?hp_6 (fun _ hk => hk) trivial (Below.refl _ _) (Nat.le_refl _) (by simp) ?_; (case hd_6 => rfl); (case hg_6 => rfl); (case hr_6 => first | (go_simp; done) | (go_simp; rfl)); (case hp_6 => exact (Reps.none _ _))
                 intro v111 w11 ho12 hb hg_ hnew_
                 clear hg_ hnew_
                 (first | rw [← Ny110.out] at ho12 | (simp only [Int.reduceToNat] at ho12; rw [← Ny110.out] at ho12))
                 have n0_ := Aside0.mk (Kd.R_lower ho12 (below_size (by repeat (first | (with_reducible first | exact HB.out | apply below_alloc | apply pw_below_drewN | apply below_drew1 | refine below_set ?_ GE102.out | refine below_set ?_ GE103.out) | exact HB.out))))
                 have n1_ := Aside0.mk (blk_below (g := gb102) (o := .cells #[.int .i64 a0_0, .slice A0_1 l0_1.length c0_1, .slice A0_2 l0_2.length c0_2, .slice A0_3 l0_3.length c0_3, .slice A0_4 l0_4.length c0_4, .slice A0_5 l0_5.length c0_5, .slice A0_6 l0_6.length c0_6, .int .i64 a0_7, .int .i64 a0_8, .int .i64 a0_9] 54 (0, 0)) (by (with_reducible repeat first | apply ba | apply bb | apply bc); exact BK102.out) hb)
                 have n2_ := Aside0.mk (blk_below (g := gb103) (o := .cells #[.int .i64 0, .slice none 0 0, .slice none 0 0, .slice none 0 0, .slice none 0 0, .slice none 0 0, .slice none 0 0, .int .i64 0, .int .i64 0, .int .i64 0] 54 (0, 0)) (by (with_reducible repeat first | apply ba | apply bb | apply bc); exact BK103.out) hb)
                 have n3_ := Aside0.mk (below_step (by repeat (first | (with_reducible first | exact HB.out | apply below_alloc | apply pw_below_drewN | apply below_drew1 | refine below_set ?_ GE102.out | refine below_set ?_ GE103.out) | exact HB.out)) hb)
                 have z_HO106 := fun (h0_ : b 2 = true) (h1_ : b 5 = false) => (show Kd.R Kd.bool 4 w11 w.heap.size (fun _ => True) v105 y104 from Kd.R_below (Q_HO106 h0_ h1_) hb)
                 have z_HO109 := fun (h0_ : b 5 = true) => (show Kd.R Kd.bool 4 w11 w.heap.size (fun _ => True) v108 y107 from Kd.R_below (Q_HO109 h0_) hb)
                 have z_HO118 := fun (h0_ : b 10 = true) (h1_ : b 13 = false) => (show Kd.R Kd.bool 4 w11 w.heap.size (fun _ => True) v117 y116 from Kd.R_below (Q_HO118 h0_ h1_) hb)
                 have z_HO124 := fun (h0_ : b 14 = true) (h1_ : b 17 = false) => (show Kd.R Kd.string 9 w11 w.heap.size (fun _ => True) v123 y122 from by first | exact (Kd.R_below (by (with_reducible repeat first | apply ra | apply rb | apply rc); exact (Q_HO124 h0_ h1_)) hb) | exact Kd.R_mono (Kd.R_below (by (with_reducible repeat first | apply ra | apply rb | apply rc); exact (Q_HO124 h0_ h1_)) hb) (fun _ h_ => by first | trivial | exact h_ | exact h_.1))
                 have z_HO130 := fun (h0_ : b 18 = true) (h1_ : b 21 = false) => (show Kd.R (Kd.int .i64) 3 w11 w.heap.size (fun _ => True) v129 y128 from Kd.R_below (Q_HO130 h0_ h1_) hb)
                 have z_HO136 := fun (h0_ : b 22 = true) (h1_ : b 25 = false) => (show Kd.R (Kd.int .i64) 3 w11 w.heap.size (fun _ => True) v135 y134 from Kd.R_below (Q_HO136 h0_ h1_) hb)
                 have z_DJ_v105_v111 := fun (g0_ : b 2 = true) (g1_ : b 5 = false) (g2_ : b 9 = false) => dj_symm (dj_new (Kd.R_base ho12) (Q_HO106 g0_ g1_))
                 have z_DJ_v108_v111 := fun (g0_ : b 5 = true) (g1_ : b 9 = false) => dj_symm (dj_new (Kd.R_base ho12) (Q_HO109 g0_))
                 have z_DJ_v111_v117 := fun (g0_ : b 10 = true) (g1_ : b 9 = false) (g2_ : b 13 = false) => dj_new (Kd.R_base ho12) (Q_HO118 g0_ g2_)
                 clear BK102
                 clear BK103
                 clear HB
                 have HO112 := n0_
                 have BK102 := n1_
                 have BK103 := n2_
                 have HB := n3_
                 clear n0_ n1_ n2_ n3_
                 clear hb ho12
                 refine hK.out _ _ ⟨v105, v108, v111, v114, v117, v120, v123, v126, v129, v132, v135, v138, m32_, (by rw [ha.out]; exact putSel_upk 4 hb_ rfl rfl rfl), (by (with_reducible repeat first | apply ba | apply bb | apply bc); exact BK102.out), fun _ => (by (with_reducible repeat first | apply ba | apply bb | apply bc); exact BK103.out), (by repeat (first | (with_reducible first | exact HB.out | apply below_alloc | apply pw_below_drewN | apply below_drew1 | refine below_set ?_ GE102.out | refine below_set ?_ GE103.out) | exact HB.out)), z_HO106, z_HO109, fun _ _ => (by exact HO112.out), fun h0_ => absurd ((hoff 9 (by kernel_rfl)).symm.trans h0_) (by decide), z_HO118, fun h0_ => absurd ((hoff 13 (by kernel_rfl)).symm.trans h0_) (by decide), z_HO124, fun h0_ => absurd ((hoff 17 (by kernel_rfl)).symm.trans h0_) (by decide), z_HO130, fun h0_ => absurd ((hoff 21 (by kernel_rfl)).symm.trans h0_) (by decide), z_HO136, fun h0_ => absurd ((hoff 25 (by kernel_rfl)).symm.trans h0_) (by decide), fun h0_ => absurd ((hoff 33 (by kernel_rfl)).symm.trans h0_) (by decide), fun h0_ _ h2_ h3_ => z_DJ_v105_v111 h0_ h2_ h3_, Q_DJ_v105_v117, fun h0_ _ h2_ => z_DJ_v108_v111 h0_ h2_, fun _ h1_ => absurd ((hoff 9 (by kernel_rfl)).symm.trans h1_) (by decide), Q_DJ_v108_v117, fun _ h1_ => absurd ((hoff 13 (by kernel_rfl)).symm.trans h1_) (by decide), fun _ h1_ h2_ h3_ => z_DJ_v111_v117 h1_ h2_ h3_, fun h0_ _ _ => absurd ((hoff 9 (by kernel_rfl)).symm.trans h0_) (by decide), fun h0_ _ => absurd ((hoff 9 (by kernel_rfl)).symm.trans h0_) (by decide), Q_DJ_v129_v135, fun h0_ _ _ => absurd ((hoff 21 (by kernel_rfl)).symm.trans h0_) (by decide), fun h0_ _ => absurd ((hoff 21 (by kernel_rfl)).symm.trans h0_) (by decide), fun h0_ => absurd ((hoff 32 (by kernel_rfl)).symm.trans h0_) (by decide)⟩
               refine steps_cons ?_ ?_
               · rintro b a w' ⟨v105, v108, v111, v114, v117, v120, v123, v126, v129, v132, v135, v138, m32_, ha, Q_BK102, Q_BK103, Q_HB, Q_HO106, Q_HO109, Q_HO112, Q_HO115, Q_HO118, Q_HO121, Q_HO124, Q_HO127, Q_HO130, Q_HO133, Q_HO136, Q_HO139, Q_BK103_e33, Q_DJ_v105_v111, Q_DJ_v105_v117, Q_DJ_v108_v111, Q_DJ_v108_v114, Q_DJ_v108_v117, Q_DJ_v108_v120, Q_DJ_v111_v117, Q_DJ_v114_v117, Q_DJ_v114_v120, Q_DJ_v129_v135, Q_DJ_v132_v135, Q_DJ_v132_v138, Q_X32_⟩ hb_ hon hoff
                 refine ⟨_, rfl, fun K hK => ?_⟩
                 have e10 : a.tmps[10]? = some (.pointer (some ⟨gb102, 2, none⟩)) := by rw [ha]; exact (putSel_off rfl).trans rfl
                 replace ha := Aside0.mk ha
                 have BK102 := Aside0.mk Q_BK102
                 have BK103 := Aside0.mk (Q_BK103 (hoff 33 (by kernel_rfl)))
                 have HB := Aside0.mk Q_HB
                 have hc0_ : w'.cell? ⟨gb102, 0, none⟩ = some (.int .i64 a0_0) := (blk_cell BK102.out 0).trans rfl
                 have hc1_ : w'.cell? ⟨gb102, 1, none⟩ = some (.slice A0_1 l0_1.length c0_1) := (blk_cell BK102.out 1).trans rfl
                 have hc2_ : w'.cell? ⟨gb102, 2, none⟩ = some (.slice A0_2 l0_2.length c0_2) := (blk_cell BK102.out 2).trans rfl
                 have hc3_ : w'.cell? ⟨gb102, 3, none⟩ = some (.slice A0_3 l0_3.length c0_3) := (blk_cell BK102.out 3).trans rfl
                 have hc4_ : w'.cell? ⟨gb102, 4, none⟩ = some (.slice A0_4 l0_4.length c0_4) := (blk_cell BK102.out 4).trans rfl
                 have hc5_ : w'.cell? ⟨gb102, 5, none⟩ = some (.slice A0_5 l0_5.length c0_5) := (blk_cell BK102.out 5).trans rfl
                 have hc6_ : w'.cell? ⟨gb102, 6, none⟩ = some (.slice A0_6 l0_6.length c0_6) := (blk_cell BK102.out 6).trans rfl
                 have hc7_ : w'.cell? ⟨gb102, 7, none⟩ = some (.int .i64 a0_7) := (blk_cell BK102.out 7).trans rfl
                 have hc8_ : w'.cell? ⟨gb102, 8, none⟩ = some (.int .i64 a0_8) := (blk_cell BK102.out 8).trans rfl
                 have hc9_ : w'.cell? ⟨gb102, 9, none⟩ = some (.int .i64 a0_9) := (blk_cell BK102.out 9).trans rfl
                 refine value_ (w1 := w') (v := .slice A0_2 l0_2.length c0_2) (by rfl) rfl ?_ ?_
                 · go_simp
                   (try simp only [i64_w])
                   try rfl
                 refine hK.out _ _ ⟨v105, v108, v111, v114, v117, v120, v123, v126, v129, v132, v135, v138, m32_, (by rw [ha.out]; exact putSel_upk 5 hb_ rfl rfl rfl), Q_BK102, Q_BK103, Q_HB, Q_HO106, Q_HO109, Q_HO112, fun h0_ => absurd ((hoff 9 (by kernel_rfl)).symm.trans h0_) (by decide), Q_HO118, fun h0_ => absurd ((hoff 13 (by kernel_rfl)).symm.trans h0_) (by decide), Q_HO124, fun h0_ => absurd ((hoff 17 (by kernel_rfl)).symm.trans h0_) (by decide), Q_HO130, fun h0_ => absurd ((hoff 21 (by kernel_rfl)).symm.trans h0_) (by decide), Q_HO136, fun h0_ => absurd ((hoff 25 (by kernel_rfl)).symm.trans h0_) (by decide), fun h0_ => absurd ((hoff 33 (by kernel_rfl)).symm.trans h0_) (by decide), Q_DJ_v105_v111, Q_DJ_v105_v117, Q_DJ_v108_v111, fun _ h1_ => absurd ((hoff 9 (by kernel_rfl)).symm.trans h1_) (by decide), Q_DJ_v108_v117, fun _ h1_ => absurd ((hoff 13 (by kernel_rfl)).symm.trans h1_) (by decide), Q_DJ_v111_v117, fun h0_ _ _ => absurd ((hoff 9 (by kernel_rfl)).symm.trans h0_) (by decide), fun h0_ _ => absurd ((hoff 9 (by kernel_rfl)).symm.trans h0_) (by decide), Q_DJ_v129_v135, fun h0_ _ _ => absurd ((hoff 21 (by kernel_rfl)).symm.trans h0_) (by decide), fun h0_ _ => absurd ((hoff 21 (by kernel_rfl)).symm.trans h0_) (by decide), fun h0_ => absurd ((hoff 32 (by kernel_rfl)).symm.trans h0_) (by decide)⟩
               refine steps_cons ?_ ?_
               · rintro b a w' ⟨v105, v108, v111, v114, v117, v120, v123, v126, v129, v132, v135, v138, m32_, ha, Q_BK102, Q_BK103, Q_HB, Q_HO106, Q_HO109, Q_HO112, Q_HO115, Q_HO118, Q_HO121, Q_HO124, Q_HO127, Q_HO130, Q_HO133, Q_HO136, Q_HO139, Q_BK103_e33, Q_DJ_v105_v111, Q_DJ_v105_v117, Q_DJ_v108_v111, Q_DJ_v108_v114, Q_DJ_v108_v117, Q_DJ_v108_v120, Q_DJ_v111_v117, Q_DJ_v114_v117, Q_DJ_v114_v120, Q_DJ_v129_v135, Q_DJ_v132_v135, Q_DJ_v132_v138, Q_X32_⟩ hb_ hon hoff
                 refine ⟨_, rfl, fun K hK => ?_⟩
                 have e9 : a.tmps[9]? = some (v111) := by rw [ha]; exact putSel_on (e := (6, 9, v111)) 4 rfl rfl (hon 6 (by kernel_rfl)) rfl
                 have e11 : a.tmps[11]? = some (.slice A0_2 l0_2.length c0_2) := by rw [ha]; exact putSel_on (e := (8, 11, .slice A0_2 l0_2.length c0_2)) 5 rfl rfl (hon 8 (by kernel_rfl)) rfl
                 replace ha := Aside0.mk ha
                 have BK102 := Aside0.mk Q_BK102
                 have BK103 := Aside0.mk (Q_BK103 (hoff 33 (by kernel_rfl)))
                 have HB := Aside0.mk Q_HB
                 have HO109 := Aside0.mk (Q_HO109 (hon 5 (by kernel_rfl)))
                 have HO112 := Aside0.mk (Q_HO112 (hon 6 (by kernel_rfl)) hb_)
                 have DJ_v108_v111 := Aside0.mk (Q_DJ_v108_v111 (hon 5 (by kernel_rfl)) (hon 6 (by kernel_rfl)) hb_)
                 refine Kd.R_append_rows_step Kd.bool (w0 := w) w.heap.size (by rfl) (.tmp 9) (.tmp 11) 52 4 (.bool false) 1 rfl Try.underlying52 info4 rfl (by decide) (by omega) v111 y110 l0_2 _ _ _ (fun _ => True) (fun _ => False) (eval_of e9) (eval_of e11) ?aO_9 ?aR_9 (fun _ _ h => h) (fun _ h => h.elim) ?aF_9 ?aB_9 ?aS_9 ?aL_9 ?_
                 (case aR_9 => repeat (first | exact (Kd.C_below HR0_2.out HB.out) | (with_reducible refine Kd.C_alloc ?_ _) | (with_reducible refine Kd.C_drewN ?_ _) | (with_reducible refine Kd.C_drew ?_)))
                 (case aB_9 => exact (by repeat (first | (with_reducible first | exact HB.out | apply below_alloc | apply pw_below_drewN | apply below_drew1 | refine below_set ?_ GE102.out | refine below_set ?_ GE103.out) | exact HB.out)))
                 (case aF_9 => exact (fun _ _ => trivial))
                 (case aO_9 => exact (by (with_reducible repeat first | apply ra | apply rb | apply rc); exact HO112.out))
                 (case aS_9 => exact (below_size (by repeat (first | (with_reducible first | exact HB.out | apply below_alloc | apply pw_below_drewN | apply below_drew1 | refine below_set ?_ GE102.out | refine below_set ?_ GE103.out) | exact HB.out))))
                 (case aL_9 => have := LMc3.out; omega)
                 intro v114 w17 ho hb hg hat
                 rw [← Ny113.out] at ho
                 have n0_ := Aside0.mk (blk_grown (g := gb102) (o := .cells #[.int .i64 a0_0, .slice A0_1 l0_1.length c0_1, .slice A0_2 l0_2.length c0_2, .slice A0_3 l0_3.length c0_3, .slice A0_4 l0_4.length c0_4, .slice A0_5 l0_5.length c0_5, .slice A0_6 l0_6.length c0_6, .int .i64 a0_7, .int .i64 a0_8, .int .i64 a0_9] 54 (0, 0)) (by (with_reducible repeat first | apply ba | apply bb | apply bc); exact BK102.out) hg (Kd.R_ne HO112.out BK102.out (by decide)))
                 have n1_ := Aside0.mk (blk_grown (g := gb103) (o := .cells #[.int .i64 0, .slice none 0 0, .slice none 0 0, .slice none 0 0, .slice none 0 0, .slice none 0 0, .slice none 0 0, .int .i64 0, .int .i64 0, .int .i64 0] 54 (0, 0)) (by (with_reducible repeat first | apply ba | apply bb | apply bc); exact BK103.out) hg (Kd.R_ne HO112.out BK103.out (by decide)))
                 have n2_ := Aside0.mk (Kd.R_mono (Kd.R_after (ok := fun _ => True) (Kd.R_reok rfl HO109.out (fun k_ hk => ⟨trivial, fun e_ => (Q_DJ_v108_v111 (hon 5 (by kernel_rfl)) (hon 6 (by kernel_rfl)) hb_) k_ hk.symm e_⟩)) hg hat) (fun _ _ => trivial))
                 have n3_ := Aside0.mk (hb)
                 have n4_ := Aside0.mk (ho)
                 have z_HO118 := fun (h0_ : b 10 = true) (h1_ : b 13 = false) => (show Kd.R Kd.bool 4 w17 w.heap.size (fun _ => True) v117 y116 from Kd.R_mono (Kd.R_after (ok := fun _ => True) (Kd.R_reok rfl (Q_HO118 h0_ h1_) (fun k_ hk => ⟨trivial, fun e_ => (Q_DJ_v111_v117 (hon 6 (by kernel_rfl)) h0_ hb_ h1_) k_ e_ hk.symm⟩)) hg hat) (fun _ _ => trivial))
                 have z_HO124 := fun (h0_ : b 14 = true) (h1_ : b 17 = false) => (show Kd.R Kd.string 9 w17 w.heap.size (fun _ => True) v123 y122 from by first | exact (Kd.R_over' (by (with_reducible repeat first | apply ra | apply rb | apply rc); exact (Q_HO124 h0_ h1_)) (Kd.R_typed (by (with_reducible repeat first | apply ra | apply rb | apply rc); exact HO112.out)) (by decide) hg) | exact Kd.R_mono (Kd.R_over' (by (with_reducible repeat first | apply ra | apply rb | apply rc); exact (Q_HO124 h0_ h1_)) (Kd.R_typed (by (with_reducible repeat first | apply ra | apply rb | apply rc); exact HO112.out)) (by decide) hg) (fun _ h_ => by first | trivial | exact h_ | exact h_.1))
                 have z_HO130 := fun (h0_ : b 18 = true) (h1_ : b 21 = false) => (show Kd.R (Kd.int .i64) 3 w17 w.heap.size (fun _ => True) v129 y128 from by first | exact (Kd.R_over' (by (with_reducible repeat first | apply ra | apply rb | apply rc); exact (Q_HO130 h0_ h1_)) (Kd.R_typed (by (with_reducible repeat first | apply ra | apply rb | apply rc); exact HO112.out)) (by decide) hg) | exact Kd.R_mono (Kd.R_over' (by (with_reducible repeat first | apply ra | apply rb | apply rc); exact (Q_HO130 h0_ h1_)) (Kd.R_typed (by (with_reducible repeat first | apply ra | apply rb | apply rc); exact HO112.out)) (by decide) hg) (fun _ h_ => by first | trivial | exact h_ | exact h_.1))
                 have z_HO136 := fun (h0_ : b 22 = true) (h1_ : b 25 = false) => (show Kd.R (Kd.int .i64) 3 w17 w.heap.size (fun _ => True) v135 y134 from by first | exact (Kd.R_over' (by (with_reducible repeat first | apply ra | apply rb | apply rc); exact (Q_HO136 h0_ h1_)) (Kd.R_typed (by (with_reducible repeat first | apply ra | apply rb | apply rc); exact HO112.out)) (by decide) hg) | exact Kd.R_mono (Kd.R_over' (by (with_reducible repeat first | apply ra | apply rb | apply rc); exact (Q_HO136 h0_ h1_)) (Kd.R_typed (by (with_reducible repeat first | apply ra | apply rb | apply rc); exact HO112.out)) (by decide) hg) (fun _ h_ => by first | trivial | exact h_ | exact h_.1))
                 have z_DJ_v108_v114 := fun (g0_ : b 5 = true) => dj_symm (dj_app hat (dj_symm (Q_DJ_v108_v111 g0_ (hon 6 (by kernel_rfl)) hb_)) (Q_HO109 g0_))
                 have z_DJ_v114_v117 := fun (g0_ : b 10 = true) (g1_ : b 13 = false) => dj_app hat (Q_DJ_v111_v117 (hon 6 (by kernel_rfl)) g0_ hb_ g1_) (Q_HO118 g0_ g1_)
                 clear BK102
                 clear BK103
                 clear HO109
                 clear HB
                 clear HO112
                 have BK102 := n0_
                 have BK103 := n1_
                 have HO109 := n2_
                 have HB := n3_
                 have HO115 := n4_
                 clear n0_ n1_ n2_ n3_ n4_
                 clear ho hb hg hat
                 refine hK.out _ _ ⟨v105, v108, v111, v114, v117, v120, v123, v126, v129, v132, v135, v138, m32_, (by rw [ha.out]; exact putSel_upk 6 hb_ rfl rfl rfl), (by (with_reducible repeat first | apply ba | apply bb | apply bc); exact BK102.out), fun _ => (by (with_reducible repeat first | apply ba | apply bb | apply bc); exact BK103.out), (by repeat (first | (with_reducible first | exact HB.out | apply below_alloc | apply pw_below_drewN | apply below_drew1 | refine below_set ?_ GE102.out | refine below_set ?_ GE103.out) | exact HB.out)), fun _ h1_ => absurd ((hon 5 (by kernel_rfl)).symm.trans h1_) (by decide), fun _ => (by exact HO109.out), fun _ h1_ => absurd ((up_self b 9).symm.trans h1_) (by decide), fun _ => (by exact HO115.out), z_HO118, fun h0_ => absurd ((hoff 13 (by kernel_rfl)).symm.trans h0_) (by decide), z_HO124, fun h0_ => absurd ((hoff 17 (by kernel_rfl)).symm.trans h0_) (by decide), z_HO130, fun h0_ => absurd ((hoff 21 (by kernel_rfl)).symm.trans h0_) (by decide), z_HO136, fun h0_ => absurd ((hoff 25 (by kernel_rfl)).symm.trans h0_) (by decide), fun h0_ => absurd ((hoff 33 (by kernel_rfl)).symm.trans h0_) (by decide), fun _ _ _ h3_ => absurd ((up_self b 9).symm.trans h3_) (by decide), fun _ _ h2_ _ => absurd ((hon 5 (by kernel_rfl)).symm.trans h2_) (by decide), fun _ _ h2_ => absurd ((up_self b 9).symm.trans h2_) (by decide), fun h0_ _ => z_DJ_v108_v114 h0_, Q_DJ_v108_v117, fun _ h1_ => absurd ((hoff 13 (by kernel_rfl)).symm.trans h1_) (by decide), fun _ _ h2_ _ => absurd ((up_self b 9).symm.trans h2_) (by decide), fun _ h1_ h2_ => z_DJ_v114_v117 h1_ h2_, fun _ h1_ => absurd ((hoff 13 (by kernel_rfl)).symm.trans h1_) (by decide), Q_DJ_v129_v135, fun h0_ _ _ => absurd ((hoff 21 (by kernel_rfl)).symm.trans h0_) (by decide), fun h0_ _ => absurd ((hoff 21 (by kernel_rfl)).symm.trans h0_) (by decide), fun h0_ => absurd ((hoff 32 (by kernel_rfl)).symm.trans h0_) (by decide)⟩
               refine steps_cons ?_ ?_
               · rintro b a w' ⟨v105, v108, v111, v114, v117, v120, v123, v126, v129, v132, v135, v138, m32_, ha, Q_BK102, Q_BK103, Q_HB, Q_HO106, Q_HO109, Q_HO112, Q_HO115, Q_HO118, Q_HO121, Q_HO124, Q_HO127, Q_HO130, Q_HO133, Q_HO136, Q_HO139, Q_BK103_e33, Q_DJ_v105_v111, Q_DJ_v105_v117, Q_DJ_v108_v111, Q_DJ_v108_v114, Q_DJ_v108_v117, Q_DJ_v108_v120, Q_DJ_v111_v117, Q_DJ_v114_v117, Q_DJ_v114_v120, Q_DJ_v129_v135, Q_DJ_v132_v135, Q_DJ_v132_v138, Q_X32_⟩ hb_ hon hoff
                 refine ⟨_, rfl, fun K hK => ?_⟩
                 replace ha := Aside0.mk ha
                 have BK102 := Aside0.mk Q_BK102
                 have BK103 := Aside0.mk (Q_BK103 (hoff 33 (by kernel_rfl)))
                 have HB := Aside0.mk Q_HB
                 refine Kd.R_lit_step Kd.bool _ 4 ?hg_10 (N := 13) ?hd_10 (xs := ([] : List Bool)) (inner := []) (ok := fun _ => True) (okp := fun _ => True) ?hr_10 ?hp_10 (fun _ hk => hk) trivial (Below.refl _ _) (Nat.le_refl _) (by simp) ?_; (case hd_10 => rfl); (case hg_10 => rfl); (case hr_10 => first | (go_simp; done) | (go_simp; rfl)); (case hp_10 => exact (Reps.none _ _))
                 intro v117 w11 ho12 hb hg_ hnew_
                 clear hg_ hnew_
                 (first | rw [← Ny116.out] at ho12 | (simp only [Int.reduceToNat] at ho12; rw [← Ny116.out] at ho12))
                 have n0_ := Aside0.mk (Kd.R_lower ho12 (below_size (by repeat (first | (with_reducible first | exact HB.out | apply below_alloc | apply pw_below_drewN | apply below_drew1 | refine below_set ?_ GE102.out | refine below_set ?_ GE103.out) | exact HB.out))))
                 have n1_ := Aside0.mk (blk_below (g := gb102) (o := .cells #[.int .i64 a0_0, .slice A0_1 l0_1.length c0_1, .slice A0_2 l0_2.length c0_2, .slice A0_3 l0_3.length c0_3, .slice A0_4 l0_4.length c0_4, .slice A0_5 l0_5.length c0_5, .slice A0_6 l0_6.length c0_6, .int .i64 a0_7, .int .i64 a0_8, .int .i64 a0_9] 54 (0, 0)) (by (with_reducible repeat first | apply ba | apply bb | apply bc); exact BK102.out) hb)
                 have n2_ := Aside0.mk (blk_below (g := gb103) (o := .cells #[.int .i64 0, .slice none 0 0, .slice none 0 0, .slice none 0 0, .slice none 0 0, .slice none 0 0, .slice none 0 0, .int .i64 0, .int .i64 0, .int .i64 0] 54 (0, 0)) (by (with_reducible repeat first | apply ba | apply bb | apply bc); exact BK103.out) hb)
                 have n3_ := Aside0.mk (below_step (by repeat (first | (with_reducible first | exact HB.out | apply below_alloc | apply pw_below_drewN | apply below_drew1 | refine below_set ?_ GE102.out | refine below_set ?_ GE103.out) | exact HB.out)) hb)
                 have z_HO106 := fun (h0_ : b 2 = true) (h1_ : b 5 = false) => (show Kd.R Kd.bool 4 w11 w.heap.size (fun _ => True) v105 y104 from Kd.R_below (Q_HO106 h0_ h1_) hb)
                 have z_HO109 := fun (h0_ : b 5 = true) => (show Kd.R Kd.bool 4 w11 w.heap.size (fun _ => True) v108 y107 from Kd.R_below (Q_HO109 h0_) hb)
                 have z_HO112 := fun (h0_ : b 6 = true) (h1_ : b 9 = false) => (show Kd.R Kd.bool 4 w11 w.heap.size (fun _ => True) v111 y110 from Kd.R_below (Q_HO112 h0_ h1_) hb)
                 have z_HO115 := fun (h0_ : b 9 = true) => (show Kd.R Kd.bool 4 w11 w.heap.size (fun _ => True) v114 y113 from Kd.R_below (Q_HO115 h0_) hb)
                 have z_HO124 := fun (h0_ : b 14 = true) (h1_ : b 17 = false) => (show Kd.R Kd.string 9 w11 w.heap.size (fun _ => True) v123 y122 from by first | exact (Kd.R_below (by (with_reducible repeat first | apply ra | apply rb | apply rc); exact (Q_HO124 h0_ h1_)) hb) | exact Kd.R_mono (Kd.R_below (by (with_reducible repeat first | apply ra | apply rb | apply rc); exact (Q_HO124 h0_ h1_)) hb) (fun _ h_ => by first | trivial | exact h_ | exact h_.1))
                 have z_HO130 := fun (h0_ : b 18 = true) (h1_ : b 21 = false) => (show Kd.R (Kd.int .i64) 3 w11 w.heap.size (fun _ => True) v129 y128 from Kd.R_below (Q_HO130 h0_ h1_) hb)
                 have z_HO136 := fun (h0_ : b 22 = true) (h1_ : b 25 = false) => (show Kd.R (Kd.int .i64) 3 w11 w.heap.size (fun _ => True) v135 y134 from Kd.R_below (Q_HO136 h0_ h1_) hb)
                 have z_DJ_v105_v117 := fun (g0_ : b 2 = true) (g1_ : b 5 = false) (g2_ : b 13 = false) => dj_symm (dj_new (Kd.R_base ho12) (Q_HO106 g0_ g1_))
                 have z_DJ_v108_v117 := fun (g0_ : b 5 = true) (g1_ : b 13 = false) => dj_symm (dj_new (Kd.R_base ho12) (Q_HO109 g0_))
                 have z_DJ_v111_v117 := fun (g0_ : b 6 = true) (g1_ : b 9 = false) (g2_ : b 13 = false) => dj_symm (dj_new (Kd.R_base ho12) (Q_HO112 g0_ g1_))
                 have z_DJ_v114_v117 := fun (g0_ : b 9 = true) (g1_ : b 13 = false) => dj_symm (dj_new (Kd.R_base ho12) (Q_HO115 g0_))
                 clear BK102
                 clear BK103
                 clear HB
                 have HO118 := n0_
                 have BK102 := n1_
                 have BK103 := n2_
                 have HB := n3_
                 clear n0_ n1_ n2_ n3_
                 clear hb ho12
                 refine hK.out _ _ ⟨v105, v108, v111, v114, v117, v120, v123, v126, v129, v132, v135, v138, m32_, (by rw [ha.out]; exact putSel_upk 7 hb_ rfl rfl rfl), (by (with_reducible repeat first | apply ba | apply bb | apply bc); exact BK102.out), fun _ => (by (with_reducible repeat first | apply ba | apply bb | apply bc); exact BK103.out), (by repeat (first | (with_reducible first | exact HB.out | apply below_alloc | apply pw_below_drewN | apply below_drew1 | refine below_set ?_ GE102.out | refine below_set ?_ GE103.out) | exact HB.out)), z_HO106, z_HO109, z_HO112, z_HO115, fun _ _ => (by exact HO118.out), fun h0_ => absurd ((hoff 13 (by kernel_rfl)).symm.trans h0_) (by decide), z_HO124, fun h0_ => absurd ((hoff 17 (by kernel_rfl)).symm.trans h0_) (by decide), z_HO130, fun h0_ => absurd ((hoff 21 (by kernel_rfl)).symm.trans h0_) (by decide), z_HO136, fun h0_ => absurd ((hoff 25 (by kernel_rfl)).symm.trans h0_) (by decide), fun h0_ => absurd ((hoff 33 (by kernel_rfl)).symm.trans h0_) (by decide), Q_DJ_v105_v111, fun h0_ _ h2_ h3_ => z_DJ_v105_v117 h0_ h2_ h3_, Q_DJ_v108_v111, Q_DJ_v108_v114, fun h0_ _ h2_ => z_DJ_v108_v117 h0_ h2_, fun _ h1_ => absurd ((hoff 13 (by kernel_rfl)).symm.trans h1_) (by decide), fun h0_ _ h2_ h3_ => z_DJ_v111_v117 h0_ h2_ h3_, fun h0_ _ h2_ => z_DJ_v114_v117 h0_ h2_, fun _ h1_ => absurd ((hoff 13 (by kernel_rfl)).symm.trans h1_) (by decide), Q_DJ_v129_v135, fun h0_ _ _ => absurd ((hoff 21 (by kernel_rfl)).symm.trans h0_) (by decide), fun h0_ _ => absurd ((hoff 21 (by kernel_rfl)).symm.trans h0_) (by decide), fun h0_ => absurd ((hoff 32 (by kernel_rfl)).symm.trans h0_) (by decide)⟩
               refine steps_cons ?_ ?_
               · rintro b a w' ⟨v105, v108, v111, v114, v117, v120, v123, v126, v129, v132, v135, v138, m32_, ha, Q_BK102, Q_BK103, Q_HB, Q_HO106, Q_HO109, Q_HO112, Q_HO115, Q_HO118, Q_HO121, Q_HO124, Q_HO127, Q_HO130, Q_HO133, Q_HO136, Q_HO139, Q_BK103_e33, Q_DJ_v105_v111, Q_DJ_v105_v117, Q_DJ_v108_v111, Q_DJ_v108_v114, Q_DJ_v108_v117, Q_DJ_v108_v120, Q_DJ_v111_v117, Q_DJ_v114_v117, Q_DJ_v114_v120, Q_DJ_v129_v135, Q_DJ_v132_v135, Q_DJ_v132_v138, Q_X32_⟩ hb_ hon hoff
                 refine ⟨_, rfl, fun K hK => ?_⟩
                 have e14 : a.tmps[14]? = some (.pointer (some ⟨gb102, 3, none⟩)) := by rw [ha]; exact (putSel_off rfl).trans rfl
                 replace ha := Aside0.mk ha
                 have BK102 := Aside0.mk Q_BK102
                 have BK103 := Aside0.mk (Q_BK103 (hoff 33 (by kernel_rfl)))
                 have HB := Aside0.mk Q_HB
                 have hc0_ : w'.cell? ⟨gb102, 0, none⟩ = some (.int .i64 a0_0) := (blk_cell BK102.out 0).trans rfl
                 have hc1_ : w'.cell? ⟨gb102, 1, none⟩ = some (.slice A0_1 l0_1.length c0_1) := (blk_cell BK102.out 1).trans rfl
                 have hc2_ : w'.cell? ⟨gb102, 2, none⟩ = some (.slice A0_2 l0_2.length c0_2) := (blk_cell BK102.out 2).trans rfl
                 have hc3_ : w'.cell? ⟨gb102, 3, none⟩ = some (.slice A0_3 l0_3.length c0_3) := (blk_cell BK102.out 3).trans rfl
                 have hc4_ : w'.cell? ⟨gb102, 4, none⟩ = some (.slice A0_4 l0_4.length c0_4) := (blk_cell BK102.out 4).trans rfl
                 have hc5_ : w'.cell? ⟨gb102, 5, none⟩ = some (.slice A0_5 l0_5.length c0_5) := (blk_cell BK102.out 5).trans rfl
                 have hc6_ : w'.cell? ⟨gb102, 6, none⟩ = some (.slice A0_6 l0_6.length c0_6) := (blk_cell BK102.out 6).trans rfl
                 have hc7_ : w'.cell? ⟨gb102, 7, none⟩ = some (.int .i64 a0_7) := (blk_cell BK102.out 7).trans rfl
                 have hc8_ : w'.cell? ⟨gb102, 8, none⟩ = some (.int .i64 a0_8) := (blk_cell BK102.out 8).trans rfl
                 have hc9_ : w'.cell? ⟨gb102, 9, none⟩ = some (.int .i64 a0_9) := (blk_cell BK102.out 9).trans rfl
                 refine value_ (w1 := w') (v := .slice A0_3 l0_3.length c0_3) (by rfl) rfl ?_ ?_
                 · go_simp
                   (try simp only [i64_w])
                   try rfl
                 refine hK.out _ _ ⟨v105, v108, v111, v114, v117, v120, v123, v126, v129, v132, v135, v138, m32_, (by rw [ha.out]; exact putSel_upk 8 hb_ rfl rfl rfl), Q_BK102, Q_BK103, Q_HB, Q_HO106, Q_HO109, Q_HO112, Q_HO115, Q_HO118, fun h0_ => absurd ((hoff 13 (by kernel_rfl)).symm.trans h0_) (by decide), Q_HO124, fun h0_ => absurd ((hoff 17 (by kernel_rfl)).symm.trans h0_) (by decide), Q_HO130, fun h0_ => absurd ((hoff 21 (by kernel_rfl)).symm.trans h0_) (by decide), Q_HO136, fun h0_ => absurd ((hoff 25 (by kernel_rfl)).symm.trans h0_) (by decide), fun h0_ => absurd ((hoff 33 (by kernel_rfl)).symm.trans h0_) (by decide), Q_DJ_v105_v111, Q_DJ_v105_v117, Q_DJ_v108_v111, Q_DJ_v108_v114, Q_DJ_v108_v117, fun _ h1_ => absurd ((hoff 13 (by kernel_rfl)).symm.trans h1_) (by decide), Q_DJ_v111_v117, Q_DJ_v114_v117, fun _ h1_ => absurd ((hoff 13 (by kernel_rfl)).symm.trans h1_) (by decide), Q_DJ_v129_v135, fun h0_ _ _ => absurd ((hoff 21 (by kernel_rfl)).symm.trans h0_) (by decide), fun h0_ _ => absurd ((hoff 21 (by kernel_rfl)).symm.trans h0_) (by decide), fun h0_ => absurd ((hoff 32 (by kernel_rfl)).symm.trans h0_) (by decide)⟩
               refine steps_cons ?_ ?_
               · rintro b a w' ⟨v105, v108, v111, v114, v117, v120, v123, v126, v129, v132, v135, v138, m32_, ha, Q_BK102, Q_BK103, Q_HB, Q_HO106, Q_HO109, Q_HO112, Q_HO115, Q_HO118, Q_HO121, Q_HO124, Q_HO127, Q_HO130, Q_HO133, Q_HO136, Q_HO139, Q_BK103_e33, Q_DJ_v105_v111, Q_DJ_v105_v117, Q_DJ_v108_v111, Q_DJ_v108_v114, Q_DJ_v108_v117, Q_DJ_v108_v120, Q_DJ_v111_v117, Q_DJ_v114_v117, Q_DJ_v114_v120, Q_DJ_v129_v135, Q_DJ_v132_v135, Q_DJ_v132_v138, Q_X32_⟩ hb_ hon hoff
                 refine ⟨_, rfl, fun K hK => ?_⟩
                 have e13 : a.tmps[13]? = some (v117) := by rw [ha]; exact putSel_on (e := (10, 13, v117)) 7 rfl rfl (hon 10 (by kernel_rfl)) rfl
                 have e15 : a.tmps[15]? = some (.slice A0_3 l0_3.length c0_3) := by rw [ha]; exact putSel_on (e := (12, 15, .slice A0_3 l0_3.length c0_3)) 8 rfl rfl (hon 12 (by kernel_rfl)) rfl
                 replace ha := Aside0.mk ha
                 have BK102 := Aside0.mk Q_BK102
                 have BK103 := Aside0.mk (Q_BK103 (hoff 33 (by kernel_rfl)))
                 have HB := Aside0.mk Q_HB
                 have HO109 := Aside0.mk (Q_HO109 (hon 5 (by kernel_rfl)))
                 have HO115 := Aside0.mk (Q_HO115 (hon 9 (by kernel_rfl)))
                 have HO118 := Aside0.mk (Q_HO118 (hon 10 (by kernel_rfl)) hb_)
                 have DJ_v108_v114 := Aside0.mk (Q_DJ_v108_v114 (hon 5 (by kernel_rfl)) (hon 9 (by kernel_rfl)))
                 have DJ_v108_v117 := Aside0.mk (Q_DJ_v108_v117 (hon 5 (by kernel_rfl)) (hon 10 (by kernel_rfl)) hb_)
                 have DJ_v114_v117 := Aside0.mk (Q_DJ_v114_v117 (hon 9 (by kernel_rfl)) (hon 10 (by kernel_rfl)) hb_)
                 refine Kd.R_append_rows_step Kd.bool (w0 := w) w.heap.size (by rfl) (.tmp 13) (.tmp 15) 52 4 (.bool false) 1 rfl Try.underlying52 info4 rfl (by decide) (by omega) v117 y116 l0_3 _ _ _ (fun _ => True) (fun _ => False) (eval_of e13) (eval_of e15) ?aO_13 ?aR_13 (fun _ _ h => h) (fun _ h => h.elim) ?aF_13 ?aB_13 ?aS_13 ?aL_13 ?_
                 (case aR_13 => repeat (first | exact (Kd.C_below HR0_3.out HB.out) | (with_reducible refine Kd.C_alloc ?_ _) | (with_reducible refine Kd.C_drewN ?_ _) | (with_reducible refine Kd.C_drew ?_)))
                 (case aB_13 => exact (by repeat (first | (with_reducible first | exact HB.out | apply below_alloc | apply pw_below_drewN | apply below_drew1 | refine below_set ?_ GE102.out | refine below_set ?_ GE103.out) | exact HB.out)))
                 (case aF_13 => exact (fun _ _ => trivial))
                 (case aO_13 => exact (by (with_reducible repeat first | apply ra | apply rb | apply rc); exact HO118.out))
                 (case aS_13 => exact (below_size (by repeat (first | (with_reducible first | exact HB.out | apply below_alloc | apply pw_below_drewN | apply below_drew1 | refine below_set ?_ GE102.out | refine below_set ?_ GE103.out) | exact HB.out))))
                 (case aL_13 => have := LMc4.out; omega)
                 intro v120 w20 ho hb hg hat
                 rw [← Ny119.out] at ho
                 have n0_ := Aside0.mk (blk_grown (g := gb102) (o := .cells #[.int .i64 a0_0, .slice A0_1 l0_1.length c0_1, .slice A0_2 l0_2.length c0_2, .slice A0_3 l0_3.length c0_3, .slice A0_4 l0_4.length c0_4, .slice A0_5 l0_5.length c0_5, .slice A0_6 l0_6.length c0_6, .int .i64 a0_7, .int .i64 a0_8, .int .i64 a0_9] 54 (0, 0)) (by (with_reducible repeat first | apply ba | apply bb | apply bc); exact BK102.out) hg (Kd.R_ne HO118.out BK102.out (by decide)))
                 have n1_ := Aside0.mk (blk_grown (g := gb103) (o := .cells #[.int .i64 0, .slice none 0 0, .slice none 0 0, .slice none 0 0, .slice none 0 0, .slice none 0 0, .slice none 0 0, .int .i64 0, .int .i64 0, .int .i64 0] 54 (0, 0)) (by (with_reducible repeat first | apply ba | apply bb | apply bc); exact BK103.out) hg (Kd.R_ne HO118.out BK103.out (by decide)))
                 have n2_ := Aside0.mk (Kd.R_mono (Kd.R_after (ok := fun _ => True) (Kd.R_reok rfl HO109.out (fun k_ hk => ⟨trivial, fun e_ => (Q_DJ_v108_v117 (hon 5 (by kernel_rfl)) (hon 10 (by kernel_rfl)) hb_) k_ hk.symm e_⟩)) hg hat) (fun _ _ => trivial))
                 have n3_ := Aside0.mk (Kd.R_mono (Kd.R_after (ok := fun _ => True) (Kd.R_reok rfl HO115.out (fun k_ hk => ⟨trivial, fun e_ => (Q_DJ_v114_v117 (hon 9 (by kernel_rfl)) (hon 10 (by kernel_rfl)) hb_) k_ hk.symm e_⟩)) hg hat) (fun _ _ => trivial))
                 have n4_ := Aside0.mk (hb)
                 have n5_ := Aside0.mk (ho)
                 have z_HO124 := fun (h0_ : b 14 = true) (h1_ : b 17 = false) => (show Kd.R Kd.string 9 w20 w.heap.size (fun _ => True) v123 y122 from by first | exact (Kd.R_over' (by (with_reducible repeat first | apply ra | apply rb | apply rc); exact (Q_HO124 h0_ h1_)) (Kd.R_typed (by (with_reducible repeat first | apply ra | apply rb | apply rc); exact HO118.out)) (by decide) hg) | exact Kd.R_mono (Kd.R_over' (by (with_reducible repeat first | apply ra | apply rb | apply rc); exact (Q_HO124 h0_ h1_)) (Kd.R_typed (by (with_reducible repeat first | apply ra | apply rb | apply rc); exact HO118.out)) (by decide) hg) (fun _ h_ => by first | trivial | exact h_ | exact h_.1))
                 have z_HO130 := fun (h0_ : b 18 = true) (h1_ : b 21 = false) => (show Kd.R (Kd.int .i64) 3 w20 w.heap.size (fun _ => True) v129 y128 from by first | exact (Kd.R_over' (by (with_reducible repeat first | apply ra | apply rb | apply rc); exact (Q_HO130 h0_ h1_)) (Kd.R_typed (by (with_reducible repeat first | apply ra | apply rb | apply rc); exact HO118.out)) (by decide) hg) | exact Kd.R_mono (Kd.R_over' (by (with_reducible repeat first | apply ra | apply rb | apply rc); exact (Q_HO130 h0_ h1_)) (Kd.R_typed (by (with_reducible repeat first | apply ra | apply rb | apply rc); exact HO118.out)) (by decide) hg) (fun _ h_ => by first | trivial | exact h_ | exact h_.1))
                 have z_HO136 := fun (h0_ : b 22 = true) (h1_ : b 25 = false) => (show Kd.R (Kd.int .i64) 3 w20 w.heap.size (fun _ => True) v135 y134 from by first | exact (Kd.R_over' (by (with_reducible repeat first | apply ra | apply rb | apply rc); exact (Q_HO136 h0_ h1_)) (Kd.R_typed (by (with_reducible repeat first | apply ra | apply rb | apply rc); exact HO118.out)) (by decide) hg) | exact Kd.R_mono (Kd.R_over' (by (with_reducible repeat first | apply ra | apply rb | apply rc); exact (Q_HO136 h0_ h1_)) (Kd.R_typed (by (with_reducible repeat first | apply ra | apply rb | apply rc); exact HO118.out)) (by decide) hg) (fun _ h_ => by first | trivial | exact h_ | exact h_.1))
                 have z_DJ_v108_v120 := fun (g0_ : b 5 = true) => dj_symm (dj_app hat (dj_symm (Q_DJ_v108_v117 g0_ (hon 10 (by kernel_rfl)) hb_)) (Q_HO109 g0_))
                 have z_DJ_v114_v120 := fun (g0_ : b 9 = true) => dj_symm (dj_app hat (dj_symm (Q_DJ_v114_v117 g0_ (hon 10 (by kernel_rfl)) hb_)) (Q_HO115 g0_))
                 clear BK102
                 clear BK103
                 clear HO109
                 clear HO115
                 clear HB
                 clear HO118
                 have BK102 := n0_
                 have BK103 := n1_
                 have HO109 := n2_
                 have HO115 := n3_
                 have HB := n4_
                 have HO121 := n5_
                 clear n0_ n1_ n2_ n3_ n4_ n5_
                 clear ho hb hg hat
                 refine hK.out _ _ ⟨v105, v108, v111, v114, v117, v120, v123, v126, v129, v132, v135, v138, m32_, (by rw [ha.out]; exact putSel_upk 9 hb_ rfl rfl rfl), (by (with_reducible repeat first | apply ba | apply bb | apply bc); exact BK102.out), fun _ => (by (with_reducible repeat first | apply ba | apply bb | apply bc); exact BK103.out), (by repeat (first | (with_reducible first | exact HB.out | apply below_alloc | apply pw_below_drewN | apply below_drew1 | refine below_set ?_ GE102.out | refine below_set ?_ GE103.out) | exact HB.out)), fun _ h1_ => absurd ((hon 5 (by kernel_rfl)).symm.trans h1_) (by decide), fun _ => (by exact HO109.out), fun _ h1_ => absurd ((hon 9 (by kernel_rfl)).symm.trans h1_) (by decide), fun _ => (by exact HO115.out), fun _ h1_ => absurd ((up_self b 13).symm.trans h1_) (by decide), fun _ => (by exact HO121.out), z_HO124, fun h0_ => absurd ((hoff 17 (by kernel_rfl)).symm.trans h0_) (by decide), z_HO130, fun h0_ => absurd ((hoff 21 (by kernel_rfl)).symm.trans h0_) (by decide), z_HO136, fun h0_ => absurd ((hoff 25 (by kernel_rfl)).symm.trans h0_) (by decide), fun h0_ => absurd ((hoff 33 (by kernel_rfl)).symm.trans h0_) (by decide), fun _ _ h2_ _ => absurd ((hon 5 (by kernel_rfl)).symm.trans h2_) (by decide), fun _ _ _ h3_ => absurd ((up_self b 13).symm.trans h3_) (by decide), fun _ _ h2_ => absurd ((hon 9 (by kernel_rfl)).symm.trans h2_) (by decide), Q_DJ_v108_v114, fun _ _ h2_ => absurd ((up_self b 13).symm.trans h2_) (by decide), fun h0_ _ => z_DJ_v108_v120 h0_, fun _ _ _ h3_ => absurd ((up_self b 13).symm.trans h3_) (by decide), fun _ _ h2_ => absurd ((up_self b 13).symm.trans h2_) (by decide), fun h0_ _ => z_DJ_v114_v120 h0_, Q_DJ_v129_v135, fun h0_ _ _ => absurd ((hoff 21 (by kernel_rfl)).symm.trans h0_) (by decide), fun h0_ _ => absurd ((hoff 21 (by kernel_rfl)).symm.trans h0_) (by decide), fun h0_ => absurd ((hoff 32 (by kernel_rfl)).symm.trans h0_) (by decide)⟩
               refine steps_cons ?_ ?_
               · rintro b a w' ⟨v105, v108, v111, v114, v117, v120, v123, v126, v129, v132, v135, v138, m32_, ha, Q_BK102, Q_BK103, Q_HB, Q_HO106, Q_HO109, Q_HO112, Q_HO115, Q_HO118, Q_HO121, Q_HO124, Q_HO127, Q_HO130, Q_HO133, Q_HO136, Q_HO139, Q_BK103_e33, Q_DJ_v105_v111, Q_DJ_v105_v117, Q_DJ_v108_v111, Q_DJ_v108_v114, Q_DJ_v108_v117, Q_DJ_v108_v120, Q_DJ_v111_v117, Q_DJ_v114_v117, Q_DJ_v114_v120, Q_DJ_v129_v135, Q_DJ_v132_v135, Q_DJ_v132_v138, Q_X32_⟩ hb_ hon hoff
                 refine ⟨_, rfl, fun K hK => ?_⟩
                 replace ha := Aside0.mk ha
                 have BK102 := Aside0.mk Q_BK102
                 have BK103 := Aside0.mk (Q_BK103 (hoff 33 (by kernel_rfl)))
                 have HB := Aside0.mk Q_HB
                 refine Kd.R_lit_step Kd.string _ 9 ?hg_14 (N := 17) ?hd_14 (xs := ([] : List ByteArray)) (inner := []) (ok := fun _ => True) (okp := fun _ => True) ?hr_14 ?hp_14 (fun _ hk => hk) trivial (Below.refl _ _) (Nat.le_refl _) (by simp) ?_; (case hd_14 => rfl); (case hg_14 => rfl); (case hr_14 => first | (go_simp; done) | (go_simp; rfl)); (case hp_14 => exact (Reps.none _ _))
                 intro v123 w11 ho12 hb hg_ hnew_
                 clear hg_ hnew_
                 (first | rw [← Ny122.out] at ho12 | (simp only [Int.reduceToNat] at ho12; rw [← Ny122.out] at ho12))
                 have n0_ := Aside0.mk (Kd.R_lower ho12 (below_size (by repeat (first | (with_reducible first | exact HB.out | apply below_alloc | apply pw_below_drewN | apply below_drew1 | refine below_set ?_ GE102.out | refine below_set ?_ GE103.out) | exact HB.out))))
                 have n1_ := Aside0.mk (blk_below (g := gb102) (o := .cells #[.int .i64 a0_0, .slice A0_1 l0_1.length c0_1, .slice A0_2 l0_2.length c0_2, .slice A0_3 l0_3.length c0_3, .slice A0_4 l0_4.length c0_4, .slice A0_5 l0_5.length c0_5, .slice A0_6 l0_6.length c0_6, .int .i64 a0_7, .int .i64 a0_8, .int .i64 a0_9] 54 (0, 0)) (by (with_reducible repeat first | apply ba | apply bb | apply bc); exact BK102.out) hb)
                 have n2_ := Aside0.mk (blk_below (g := gb103) (o := .cells #[.int .i64 0, .slice none 0 0, .slice none 0 0, .slice none 0 0, .slice none 0 0, .slice none 0 0, .slice none 0 0, .int .i64 0, .int .i64 0, .int .i64 0] 54 (0, 0)) (by (with_reducible repeat first | apply ba | apply bb | apply bc); exact BK103.out) hb)
                 have n3_ := Aside0.mk (below_step (by repeat (first | (with_reducible first | exact HB.out | apply below_alloc | apply pw_below_drewN | apply below_drew1 | refine below_set ?_ GE102.out | refine below_set ?_ GE103.out) | exact HB.out)) hb)
                 have z_HO106 := fun (h0_ : b 2 = true) (h1_ : b 5 = false) => (show Kd.R Kd.bool 4 w11 w.heap.size (fun _ => True) v105 y104 from Kd.R_below (Q_HO106 h0_ h1_) hb)
                 have z_HO109 := fun (h0_ : b 5 = true) => (show Kd.R Kd.bool 4 w11 w.heap.size (fun _ => True) v108 y107 from Kd.R_below (Q_HO109 h0_) hb)
                 have z_HO112 := fun (h0_ : b 6 = true) (h1_ : b 9 = false) => (show Kd.R Kd.bool 4 w11 w.heap.size (fun _ => True) v111 y110 from Kd.R_below (Q_HO112 h0_ h1_) hb)
                 have z_HO115 := fun (h0_ : b 9 = true) => (show Kd.R Kd.bool 4 w11 w.heap.size (fun _ => True) v114 y113 from Kd.R_below (Q_HO115 h0_) hb)
                 have z_HO118 := fun (h0_ : b 10 = true) (h1_ : b 13 = false) => (show Kd.R Kd.bool 4 w11 w.heap.size (fun _ => True) v117 y116 from Kd.R_below (Q_HO118 h0_ h1_) hb)
                 have z_HO121 := fun (h0_ : b 13 = true) => (show Kd.R Kd.bool 4 w11 w.heap.size (fun _ => True) v120 y119 from Kd.R_below (Q_HO121 h0_) hb)
                 have z_HO130 := fun (h0_ : b 18 = true) (h1_ : b 21 = false) => (show Kd.R (Kd.int .i64) 3 w11 w.heap.size (fun _ => True) v129 y128 from Kd.R_below (Q_HO130 h0_ h1_) hb)
                 have z_HO136 := fun (h0_ : b 22 = true) (h1_ : b 25 = false) => (show Kd.R (Kd.int .i64) 3 w11 w.heap.size (fun _ => True) v135 y134 from Kd.R_below (Q_HO136 h0_ h1_) hb)
                 clear BK102
                 clear BK103
                 clear HB
                 have HO124 := n0_
                 have BK102 := n1_
                 have BK103 := n2_
                 have HB := n3_
                 clear n0_ n1_ n2_ n3_
                 clear hb ho12
                 refine hK.out _ _ ⟨v105, v108, v111, v114, v117, v120, v123, v126, v129, v132, v135, v138, m32_, (by rw [ha.out]; exact putSel_upk 10 hb_ rfl rfl rfl), (by (with_reducible repeat first | apply ba | apply bb | apply bc); exact BK102.out), fun _ => (by (with_reducible repeat first | apply ba | apply bb | apply bc); exact BK103.out), (by repeat (first | (with_reducible first | exact HB.out | apply below_alloc | apply pw_below_drewN | apply below_drew1 | refine below_set ?_ GE102.out | refine below_set ?_ GE103.out) | exact HB.out)), z_HO106, z_HO109, z_HO112, z_HO115, z_HO118, z_HO121, fun _ _ => (by (with_reducible repeat first | apply ra | apply rb | apply rc); exact HO124.out), fun h0_ => absurd ((hoff 17 (by kernel_rfl)).symm.trans h0_) (by decide), z_HO130, fun h0_ => absurd ((hoff 21 (by kernel_rfl)).symm.trans h0_) (by decide), z_HO136, fun h0_ => absurd ((hoff 25 (by kernel_rfl)).symm.trans h0_) (by decide), fun h0_ => absurd ((hoff 33 (by kernel_rfl)).symm.trans h0_) (by decide), Q_DJ_v105_v111, Q_DJ_v105_v117, Q_DJ_v108_v111, Q_DJ_v108_v114, Q_DJ_v108_v117, Q_DJ_v108_v120, Q_DJ_v111_v117, Q_DJ_v114_v117, Q_DJ_v114_v120, Q_DJ_v129_v135, fun h0_ _ _ => absurd ((hoff 21 (by kernel_rfl)).symm.trans h0_) (by decide), fun h0_ _ => absurd ((hoff 21 (by kernel_rfl)).symm.trans h0_) (by decide), fun h0_ => absurd ((hoff 32 (by kernel_rfl)).symm.trans h0_) (by decide)⟩
               refine steps_cons ?_ ?_
               · rintro b a w' ⟨v105, v108, v111, v114, v117, v120, v123, v126, v129, v132, v135, v138, m32_, ha, Q_BK102, Q_BK103, Q_HB, Q_HO106, Q_HO109, Q_HO112, Q_HO115, Q_HO118, Q_HO121, Q_HO124, Q_HO127, Q_HO130, Q_HO133, Q_HO136, Q_HO139, Q_BK103_e33, Q_DJ_v105_v111, Q_DJ_v105_v117, Q_DJ_v108_v111, Q_DJ_v108_v114, Q_DJ_v108_v117, Q_DJ_v108_v120, Q_DJ_v111_v117, Q_DJ_v114_v117, Q_DJ_v114_v120, Q_DJ_v129_v135, Q_DJ_v132_v135, Q_DJ_v132_v138, Q_X32_⟩ hb_ hon hoff
                 refine ⟨_, rfl, fun K hK => ?_⟩
                 have e18 : a.tmps[18]? = some (.pointer (some ⟨gb102, 4, none⟩)) := by rw [ha]; exact (putSel_off rfl).trans rfl
                 replace ha := Aside0.mk ha
                 have BK102 := Aside0.mk Q_BK102
                 have BK103 := Aside0.mk (Q_BK103 (hoff 33 (by kernel_rfl)))
                 have HB := Aside0.mk Q_HB
                 have hc0_ : w'.cell? ⟨gb102, 0, none⟩ = some (.int .i64 a0_0) := (blk_cell BK102.out 0).trans rfl
                 have hc1_ : w'.cell? ⟨gb102, 1, none⟩ = some (.slice A0_1 l0_1.length c0_1) := (blk_cell BK102.out 1).trans rfl
                 have hc2_ : w'.cell? ⟨gb102, 2, none⟩ = some (.slice A0_2 l0_2.length c0_2) := (blk_cell BK102.out 2).trans rfl
                 have hc3_ : w'.cell? ⟨gb102, 3, none⟩ = some (.slice A0_3 l0_3.length c0_3) := (blk_cell BK102.out 3).trans rfl
                 have hc4_ : w'.cell? ⟨gb102, 4, none⟩ = some (.slice A0_4 l0_4.length c0_4) := (blk_cell BK102.out 4).trans rfl
                 have hc5_ : w'.cell? ⟨gb102, 5, none⟩ = some (.slice A0_5 l0_5.length c0_5) := (blk_cell BK102.out 5).trans rfl
                 have hc6_ : w'.cell? ⟨gb102, 6, none⟩ = some (.slice A0_6 l0_6.length c0_6) := (blk_cell BK102.out 6).trans rfl
                 have hc7_ : w'.cell? ⟨gb102, 7, none⟩ = some (.int .i64 a0_7) := (blk_cell BK102.out 7).trans rfl
                 have hc8_ : w'.cell? ⟨gb102, 8, none⟩ = some (.int .i64 a0_8) := (blk_cell BK102.out 8).trans rfl
                 have hc9_ : w'.cell? ⟨gb102, 9, none⟩ = some (.int .i64 a0_9) := (blk_cell BK102.out 9).trans rfl
                 refine value_ (w1 := w') (v := .slice A0_4 l0_4.length c0_4) (by rfl) rfl ?_ ?_
                 · go_simp
                   (try simp only [i64_w])
                   try rfl
                 refine hK.out _ _ ⟨v105, v108, v111, v114, v117, v120, v123, v126, v129, v132, v135, v138, m32_, (by rw [ha.out]; exact putSel_upk 11 hb_ rfl rfl rfl), Q_BK102, Q_BK103, Q_HB, Q_HO106, Q_HO109, Q_HO112, Q_HO115, Q_HO118, Q_HO121, Q_HO124, fun h0_ => absurd ((hoff 17 (by kernel_rfl)).symm.trans h0_) (by decide), Q_HO130, fun h0_ => absurd ((hoff 21 (by kernel_rfl)).symm.trans h0_) (by decide), Q_HO136, fun h0_ => absurd ((hoff 25 (by kernel_rfl)).symm.trans h0_) (by decide), fun h0_ => absurd ((hoff 33 (by kernel_rfl)).symm.trans h0_) (by decide), Q_DJ_v105_v111, Q_DJ_v105_v117, Q_DJ_v108_v111, Q_DJ_v108_v114, Q_DJ_v108_v117, Q_DJ_v108_v120, Q_DJ_v111_v117, Q_DJ_v114_v117, Q_DJ_v114_v120, Q_DJ_v129_v135, fun h0_ _ _ => absurd ((hoff 21 (by kernel_rfl)).symm.trans h0_) (by decide), fun h0_ _ => absurd ((hoff 21 (by kernel_rfl)).symm.trans h0_) (by decide), fun h0_ => absurd ((hoff 32 (by kernel_rfl)).symm.trans h0_) (by decide)⟩
               refine steps_cons ?_ ?_
               · rintro b a w' ⟨v105, v108, v111, v114, v117, v120, v123, v126, v129, v132, v135, v138, m32_, ha, Q_BK102, Q_BK103, Q_HB, Q_HO106, Q_HO109, Q_HO112, Q_HO115, Q_HO118, Q_HO121, Q_HO124, Q_HO127, Q_HO130, Q_HO133, Q_HO136, Q_HO139, Q_BK103_e33, Q_DJ_v105_v111, Q_DJ_v105_v117, Q_DJ_v108_v111, Q_DJ_v108_v114, Q_DJ_v108_v117, Q_DJ_v108_v120, Q_DJ_v111_v117, Q_DJ_v114_v117, Q_DJ_v114_v120, Q_DJ_v129_v135, Q_DJ_v132_v135, Q_DJ_v132_v138, Q_X32_⟩ hb_ hon hoff
                 refine ⟨_, rfl, fun K hK => ?_⟩
                 have e17 : a.tmps[17]? = some (v123) := by rw [ha]; exact putSel_on (e := (14, 17, v123)) 10 rfl rfl (hon 14 (by kernel_rfl)) rfl
                 have e19 : a.tmps[19]? = some (.slice A0_4 l0_4.length c0_4) := by rw [ha]; exact putSel_on (e := (16, 19, .slice A0_4 l0_4.length c0_4)) 11 rfl rfl (hon 16 (by kernel_rfl)) rfl
                 replace ha := Aside0.mk ha
                 have BK102 := Aside0.mk Q_BK102
                 have BK103 := Aside0.mk (Q_BK103 (hoff 33 (by kernel_rfl)))
                 have HB := Aside0.mk Q_HB
                 have HO109 := Aside0.mk (Q_HO109 (hon 5 (by kernel_rfl)))
                 have HO115 := Aside0.mk (Q_HO115 (hon 9 (by kernel_rfl)))
                 have HO121 := Aside0.mk (Q_HO121 (hon 13 (by kernel_rfl)))
                 have HO124 := Aside0.mk (Q_HO124 (hon 14 (by kernel_rfl)) hb_)
                 have DJ_v108_v114 := Aside0.mk (Q_DJ_v108_v114 (hon 5 (by kernel_rfl)) (hon 9 (by kernel_rfl)))
                 have DJ_v108_v120 := Aside0.mk (Q_DJ_v108_v120 (hon 5 (by kernel_rfl)) (hon 13 (by kernel_rfl)))
                 have DJ_v114_v120 := Aside0.mk (Q_DJ_v114_v120 (hon 9 (by kernel_rfl)) (hon 13 (by kernel_rfl)))
                 refine Kd.R_append_rows_step Kd.string (w0 := w) w.heap.size (by rfl) (.tmp 17) (.tmp 19) 24 9 (.string ⟨#[]⟩) 16 rfl Try.underlying24 info9 rfl (by decide) (by omega) v123 y122 l0_4 _ _ _ (fun _ => True) (fun _ => False) (eval_of e17) (eval_of e19) ?aO_17 ?aR_17 (fun _ _ h => h) (fun _ h => h.elim) ?aF_17 ?aB_17 ?aS_17 ?aL_17 ?_
                 (case aR_17 => repeat (first | exact (Kd.C_below HR0_4.out HB.out) | (with_reducible refine Kd.C_alloc ?_ _) | (with_reducible refine Kd.C_drewN ?_ _) | (with_reducible refine Kd.C_drew ?_)))
                 (case aB_17 => exact (by repeat (first | (with_reducible first | exact HB.out | apply below_alloc | apply pw_below_drewN | apply below_drew1 | refine below_set ?_ GE102.out | refine below_set ?_ GE103.out) | exact HB.out)))
                 (case aF_17 => exact (fun _ _ => trivial))
                 (case aO_17 => exact (by (with_reducible repeat first | apply ra | apply rb | apply rc); exact HO124.out))
                 (case aS_17 => exact (below_size (by repeat (first | (with_reducible first | exact HB.out | apply below_alloc | apply pw_below_drewN | apply below_drew1 | refine below_set ?_ GE102.out | refine below_set ?_ GE103.out) | exact HB.out))))
                 (case aL_17 => have := LMc5.out; omega)
                 intro v126 w23 ho hb hg hat
                 rw [← Ny125.out] at ho
                 have n0_ := Aside0.mk (blk_grown (g := gb102) (o := .cells #[.int .i64 a0_0, .slice A0_1 l0_1.length c0_1, .slice A0_2 l0_2.length c0_2, .slice A0_3 l0_3.length c0_3, .slice A0_4 l0_4.length c0_4, .slice A0_5 l0_5.length c0_5, .slice A0_6 l0_6.length c0_6, .int .i64 a0_7, .int .i64 a0_8, .int .i64 a0_9] 54 (0, 0)) (by (with_reducible repeat first | apply ba | apply bb | apply bc); exact BK102.out) hg (Kd.R_ne HO124.out BK102.out (by decide)))
                 have n1_ := Aside0.mk (blk_grown (g := gb103) (o := .cells #[.int .i64 0, .slice none 0 0, .slice none 0 0, .slice none 0 0, .slice none 0 0, .slice none 0 0, .slice none 0 0, .int .i64 0, .int .i64 0, .int .i64 0] 54 (0, 0)) (by (with_reducible repeat first | apply ba | apply bb | apply bc); exact BK103.out) hg (Kd.R_ne HO124.out BK103.out (by decide)))
                 have n2_ := Aside0.mk (Kd.R_over' (by (with_reducible repeat first | apply ra | apply rb | apply rc); exact HO109.out) (Kd.R_typed (by (with_reducible repeat first | apply ra | apply rb | apply rc); exact HO124.out)) (by decide) hg)
                 have n3_ := Aside0.mk (Kd.R_over' (by (with_reducible repeat first | apply ra | apply rb | apply rc); exact HO115.out) (Kd.R_typed (by (with_reducible repeat first | apply ra | apply rb | apply rc); exact HO124.out)) (by decide) hg)
                 have n4_ := Aside0.mk (Kd.R_over' (by (with_reducible repeat first | apply ra | apply rb | apply rc); exact HO121.out) (Kd.R_typed (by (with_reducible repeat first | apply ra | apply rb | apply rc); exact HO124.out)) (by decide) hg)
                 have n5_ := Aside0.mk (hb)
                 have n6_ := Aside0.mk (ho)
                 have z_HO130 := fun (h0_ : b 18 = true) (h1_ : b 21 = false) => (show Kd.R (Kd.int .i64) 3 w23 w.heap.size (fun _ => True) v129 y128 from by first | exact (Kd.R_over' (by (with_reducible repeat first | apply ra | apply rb | apply rc); exact (Q_HO130 h0_ h1_)) (Kd.R_typed (by (with_reducible repeat first | apply ra | apply rb | apply rc); exact HO124.out)) (by decide) hg) | exact Kd.R_mono (Kd.R_over' (by (with_reducible repeat first | apply ra | apply rb | apply rc); exact (Q_HO130 h0_ h1_)) (Kd.R_typed (by (with_reducible repeat first | apply ra | apply rb | apply rc); exact HO124.out)) (by decide) hg) (fun _ h_ => by first | trivial | exact h_ | exact h_.1))
                 have z_HO136 := fun (h0_ : b 22 = true) (h1_ : b 25 = false) => (show Kd.R (Kd.int .i64) 3 w23 w.heap.size (fun _ => True) v135 y134 from by first | exact (Kd.R_over' (by (with_reducible repeat first | apply ra | apply rb | apply rc); exact (Q_HO136 h0_ h1_)) (Kd.R_typed (by (with_reducible repeat first | apply ra | apply rb | apply rc); exact HO124.out)) (by decide) hg) | exact Kd.R_mono (Kd.R_over' (by (with_reducible repeat first | apply ra | apply rb | apply rc); exact (Q_HO136 h0_ h1_)) (Kd.R_typed (by (with_reducible repeat first | apply ra | apply rb | apply rc); exact HO124.out)) (by decide) hg) (fun _ h_ => by first | trivial | exact h_ | exact h_.1))
                 clear BK102
                 clear BK103
                 clear HO109
                 clear HO115
                 clear HO121
                 clear HB
                 clear HO124
                 have BK102 := n0_
                 have BK103 := n1_
                 have HO109 := n2_
                 have HO115 := n3_
                 have HO121 := n4_
                 have HB := n5_
                 have HO127 := n6_
                 clear n0_ n1_ n2_ n3_ n4_ n5_ n6_
                 clear ho hb hg hat
                 refine hK.out _ _ ⟨v105, v108, v111, v114, v117, v120, v123, v126, v129, v132, v135, v138, m32_, (by rw [ha.out]; exact putSel_upk 12 hb_ rfl rfl rfl), (by (with_reducible repeat first | apply ba | apply bb | apply bc); exact BK102.out), fun _ => (by (with_reducible repeat first | apply ba | apply bb | apply bc); exact BK103.out), (by repeat (first | (with_reducible first | exact HB.out | apply below_alloc | apply pw_below_drewN | apply below_drew1 | refine below_set ?_ GE102.out | refine below_set ?_ GE103.out) | exact HB.out)), fun _ h1_ => absurd ((hon 5 (by kernel_rfl)).symm.trans h1_) (by decide), fun _ => (by exact HO109.out), fun _ h1_ => absurd ((hon 9 (by kernel_rfl)).symm.trans h1_) (by decide), fun _ => (by exact HO115.out), fun _ h1_ => absurd ((hon 13 (by kernel_rfl)).symm.trans h1_) (by decide), fun _ => (by exact HO121.out), fun _ h1_ => absurd ((up_self b 17).symm.trans h1_) (by decide), fun _ => (by (with_reducible repeat first | apply ra | apply rb | apply rc); exact HO127.out), z_HO130, fun h0_ => absurd ((hoff 21 (by kernel_rfl)).symm.trans h0_) (by decide), z_HO136, fun h0_ => absurd ((hoff 25 (by kernel_rfl)).symm.trans h0_) (by decide), fun h0_ => absurd ((hoff 33 (by kernel_rfl)).symm.trans h0_) (by decide), fun _ _ h2_ _ => absurd ((hon 5 (by kernel_rfl)).symm.trans h2_) (by decide), fun _ _ h2_ _ => absurd ((hon 5 (by kernel_rfl)).symm.trans h2_) (by decide), fun _ _ h2_ => absurd ((hon 9 (by kernel_rfl)).symm.trans h2_) (by decide), Q_DJ_v108_v114, fun _ _ h2_ => absurd ((hon 13 (by kernel_rfl)).symm.trans h2_) (by decide), Q_DJ_v108_v120, fun _ _ h2_ _ => absurd ((hon 9 (by kernel_rfl)).symm.trans h2_) (by decide), fun _ _ h2_ => absurd ((hon 13 (by kernel_rfl)).symm.trans h2_) (by decide), Q_DJ_v114_v120, Q_DJ_v129_v135, fun h0_ _ _ => absurd ((hoff 21 (by kernel_rfl)).symm.trans h0_) (by decide), fun h0_ _ => absurd ((hoff 21 (by kernel_rfl)).symm.trans h0_) (by decide), fun h0_ => absurd ((hoff 32 (by kernel_rfl)).symm.trans h0_) (by decide)⟩
               refine steps_cons ?_ ?_
               · rintro b a w' ⟨v105, v108, v111, v114, v117, v120, v123, v126, v129, v132, v135, v138, m32_, ha, Q_BK102, Q_BK103, Q_HB, Q_HO106, Q_HO109, Q_HO112, Q_HO115, Q_HO118, Q_HO121, Q_HO124, Q_HO127, Q_HO130, Q_HO133, Q_HO136, Q_HO139, Q_BK103_e33, Q_DJ_v105_v111, Q_DJ_v105_v117, Q_DJ_v108_v111, Q_DJ_v108_v114, Q_DJ_v108_v117, Q_DJ_v108_v120, Q_DJ_v111_v117, Q_DJ_v114_v117, Q_DJ_v114_v120, Q_DJ_v129_v135, Q_DJ_v132_v135, Q_DJ_v132_v138, Q_X32_⟩ hb_ hon hoff
                 refine ⟨_, rfl, fun K hK => ?_⟩
                 replace ha := Aside0.mk ha
                 have BK102 := Aside0.mk Q_BK102
                 have BK103 := Aside0.mk (Q_BK103 (hoff 33 (by kernel_rfl)))
                 have HB := Aside0.mk Q_HB
                 refine Kd.R_lit_step (Kd.int .i64) _ 3 ?hg_18 (N := 21) ?hd_18 (xs := ([] : List Int)) (inner := []) (ok := fun _ => True) (okp := fun _ => True) ?hr_18 ?hp_18 (fun _ hk => hk) trivial (Below.refl _ _) (Nat.le_refl _) (by simp) ?_; (case hd_18 => rfl); (case hg_18 => rfl); (case hr_18 => first | (go_simp; done) | (go_simp; rfl)); (case hp_18 => exact (Reps.none _ _))
                 intro v129 w11 ho12 hb hg_ hnew_
                 clear hg_ hnew_
                 (first | rw [← Ny128.out] at ho12 | (simp only [Int.reduceToNat] at ho12; rw [← Ny128.out] at ho12))
                 have n0_ := Aside0.mk (Kd.R_lower ho12 (below_size (by repeat (first | (with_reducible first | exact HB.out | apply below_alloc | apply pw_below_drewN | apply below_drew1 | refine below_set ?_ GE102.out | refine below_set ?_ GE103.out) | exact HB.out))))
                 have n1_ := Aside0.mk (blk_below (g := gb102) (o := .cells #[.int .i64 a0_0, .slice A0_1 l0_1.length c0_1, .slice A0_2 l0_2.length c0_2, .slice A0_3 l0_3.length c0_3, .slice A0_4 l0_4.length c0_4, .slice A0_5 l0_5.length c0_5, .slice A0_6 l0_6.length c0_6, .int .i64 a0_7, .int .i64 a0_8, .int .i64 a0_9] 54 (0, 0)) (by (with_reducible repeat first | apply ba | apply bb | apply bc); exact BK102.out) hb)
                 have n2_ := Aside0.mk (blk_below (g := gb103) (o := .cells #[.int .i64 0, .slice none 0 0, .slice none 0 0, .slice none 0 0, .slice none 0 0, .slice none 0 0, .slice none 0 0, .int .i64 0, .int .i64 0, .int .i64 0] 54 (0, 0)) (by (with_reducible repeat first | apply ba | apply bb | apply bc); exact BK103.out) hb)
                 have n3_ := Aside0.mk (below_step (by repeat (first | (with_reducible first | exact HB.out | apply below_alloc | apply pw_below_drewN | apply below_drew1 | refine below_set ?_ GE102.out | refine below_set ?_ GE103.out) | exact HB.out)) hb)
                 have z_HO106 := fun (h0_ : b 2 = true) (h1_ : b 5 = false) => (show Kd.R Kd.bool 4 w11 w.heap.size (fun _ => True) v105 y104 from Kd.R_below (Q_HO106 h0_ h1_) hb)
                 have z_HO109 := fun (h0_ : b 5 = true) => (show Kd.R Kd.bool 4 w11 w.heap.size (fun _ => True) v108 y107 from Kd.R_below (Q_HO109 h0_) hb)
                 have z_HO112 := fun (h0_ : b 6 = true) (h1_ : b 9 = false) => (show Kd.R Kd.bool 4 w11 w.heap.size (fun _ => True) v111 y110 from Kd.R_below (Q_HO112 h0_ h1_) hb)
                 have z_HO115 := fun (h0_ : b 9 = true) => (show Kd.R Kd.bool 4 w11 w.heap.size (fun _ => True) v114 y113 from Kd.R_below (Q_HO115 h0_) hb)
                 have z_HO118 := fun (h0_ : b 10 = true) (h1_ : b 13 = false) => (show Kd.R Kd.bool 4 w11 w.heap.size (fun _ => True) v117 y116 from Kd.R_below (Q_HO118 h0_ h1_) hb)
                 have z_HO121 := fun (h0_ : b 13 = true) => (show Kd.R Kd.bool 4 w11 w.heap.size (fun _ => True) v120 y119 from Kd.R_below (Q_HO121 h0_) hb)
                 have z_HO124 := fun (h0_ : b 14 = true) (h1_ : b 17 = false) => (show Kd.R Kd.string 9 w11 w.heap.size (fun _ => True) v123 y122 from by first | exact (Kd.R_below (by (with_reducible repeat first | apply ra | apply rb | apply rc); exact (Q_HO124 h0_ h1_)) hb) | exact Kd.R_mono (Kd.R_below (by (with_reducible repeat first | apply ra | apply rb | apply rc); exact (Q_HO124 h0_ h1_)) hb) (fun _ h_ => by first | trivial | exact h_ | exact h_.1))
                 have z_HO127 := fun (h0_ : b 17 = true) => (show Kd.R Kd.string 9 w11 w.heap.size (fun _ => True) v126 y125 from by first | exact (Kd.R_below (by (with_reducible repeat first | apply ra | apply rb | apply rc); exact (Q_HO127 h0_)) hb) | exact Kd.R_mono (Kd.R_below (by (with_reducible repeat first | apply ra | apply rb | apply rc); exact (Q_HO127 h0_)) hb) (fun _ h_ => by first | trivial | exact h_ | exact h_.1))
                 have z_HO136 := fun (h0_ : b 22 = true) (h1_ : b 25 = false) => (show Kd.R (Kd.int .i64) 3 w11 w.heap.size (fun _ => True) v135 y134 from Kd.R_below (Q_HO136 h0_ h1_) hb)
                 have z_DJ_v129_v135 := fun (g0_ : b 22 = true) (g1_ : b 21 = false) (g2_ : b 25 = false) => dj_new (Kd.R_base ho12) (Q_HO136 g0_ g2_)
                 clear BK102
                 clear BK103
                 clear HB
                 have HO130 := n0_
                 have BK102 := n1_
                 have BK103 := n2_
                 have HB := n3_
                 clear n0_ n1_ n2_ n3_
                 clear hb ho12
                 refine hK.out _ _ ⟨v105, v108, v111, v114, v117, v120, v123, v126, v129, v132, v135, v138, m32_, (by rw [ha.out]; exact putSel_upk 13 hb_ rfl rfl rfl), (by (with_reducible repeat first | apply ba | apply bb | apply bc); exact BK102.out), fun _ => (by (with_reducible repeat first | apply ba | apply bb | apply bc); exact BK103.out), (by repeat (first | (with_reducible first | exact HB.out | apply below_alloc | apply pw_below_drewN | apply below_drew1 | refine below_set ?_ GE102.out | refine below_set ?_ GE103.out) | exact HB.out)), z_HO106, z_HO109, z_HO112, z_HO115, z_HO118, z_HO121, z_HO124, z_HO127, fun _ _ => (by exact HO130.out), fun h0_ => absurd ((hoff 21 (by kernel_rfl)).symm.trans h0_) (by decide), z_HO136, fun h0_ => absurd ((hoff 25 (by kernel_rfl)).symm.trans h0_) (by decide), fun h0_ => absurd ((hoff 33 (by kernel_rfl)).symm.trans h0_) (by decide), Q_DJ_v105_v111, Q_DJ_v105_v117, Q_DJ_v108_v111, Q_DJ_v108_v114, Q_DJ_v108_v117, Q_DJ_v108_v120, Q_DJ_v111_v117, Q_DJ_v114_v117, Q_DJ_v114_v120, fun _ h1_ h2_ h3_ => z_DJ_v129_v135 h1_ h2_ h3_, fun h0_ _ _ => absurd ((hoff 21 (by kernel_rfl)).symm.trans h0_) (by decide), fun h0_ _ => absurd ((hoff 21 (by kernel_rfl)).symm.trans h0_) (by decide), fun h0_ => absurd ((hoff 32 (by kernel_rfl)).symm.trans h0_) (by decide)⟩
               refine steps_cons ?_ ?_
               · rintro b a w' ⟨v105, v108, v111, v114, v117, v120, v123, v126, v129, v132, v135, v138, m32_, ha, Q_BK102, Q_BK103, Q_HB, Q_HO106, Q_HO109, Q_HO112, Q_HO115, Q_HO118, Q_HO121, Q_HO124, Q_HO127, Q_HO130, Q_HO133, Q_HO136, Q_HO139, Q_BK103_e33, Q_DJ_v105_v111, Q_DJ_v105_v117, Q_DJ_v108_v111, Q_DJ_v108_v114, Q_DJ_v108_v117, Q_DJ_v108_v120, Q_DJ_v111_v117, Q_DJ_v114_v117, Q_DJ_v114_v120, Q_DJ_v129_v135, Q_DJ_v132_v135, Q_DJ_v132_v138, Q_X32_⟩ hb_ hon hoff
                 refine ⟨_, rfl, fun K hK => ?_⟩
                 have e22 : a.tmps[22]? = some (.pointer (some ⟨gb102, 5, none⟩)) := by rw [ha]; exact (putSel_off rfl).trans rfl
                 replace ha := Aside0.mk ha
                 have BK102 := Aside0.mk Q_BK102
                 have BK103 := Aside0.mk (Q_BK103 (hoff 33 (by kernel_rfl)))
                 have HB := Aside0.mk Q_HB
                 have hc0_ : w'.cell? ⟨gb102, 0, none⟩ = some (.int .i64 a0_0) := (blk_cell BK102.out 0).trans rfl
                 have hc1_ : w'.cell? ⟨gb102, 1, none⟩ = some (.slice A0_1 l0_1.length c0_1) := (blk_cell BK102.out 1).trans rfl
                 have hc2_ : w'.cell? ⟨gb102, 2, none⟩ = some (.slice A0_2 l0_2.length c0_2) := (blk_cell BK102.out 2).trans rfl
                 have hc3_ : w'.cell? ⟨gb102, 3, none⟩ = some (.slice A0_3 l0_3.length c0_3) := (blk_cell BK102.out 3).trans rfl
                 have hc4_ : w'.cell? ⟨gb102, 4, none⟩ = some (.slice A0_4 l0_4.length c0_4) := (blk_cell BK102.out 4).trans rfl
                 have hc5_ : w'.cell? ⟨gb102, 5, none⟩ = some (.slice A0_5 l0_5.length c0_5) := (blk_cell BK102.out 5).trans rfl
                 have hc6_ : w'.cell? ⟨gb102, 6, none⟩ = some (.slice A0_6 l0_6.length c0_6) := (blk_cell BK102.out 6).trans rfl
                 have hc7_ : w'.cell? ⟨gb102, 7, none⟩ = some (.int .i64 a0_7) := (blk_cell BK102.out 7).trans rfl
                 have hc8_ : w'.cell? ⟨gb102, 8, none⟩ = some (.int .i64 a0_8) := (blk_cell BK102.out 8).trans rfl
                 have hc9_ : w'.cell? ⟨gb102, 9, none⟩ = some (.int .i64 a0_9) := (blk_cell BK102.out 9).trans rfl
                 refine value_ (w1 := w') (v := .slice A0_5 l0_5.length c0_5) (by rfl) rfl ?_ ?_
                 · go_simp
                   (try simp only [i64_w])
                   try rfl
                 refine hK.out _ _ ⟨v105, v108, v111, v114, v117, v120, v123, v126, v129, v132, v135, v138, m32_, (by rw [ha.out]; exact putSel_upk 14 hb_ rfl rfl rfl), Q_BK102, Q_BK103, Q_HB, Q_HO106, Q_HO109, Q_HO112, Q_HO115, Q_HO118, Q_HO121, Q_HO124, Q_HO127, Q_HO130, fun h0_ => absurd ((hoff 21 (by kernel_rfl)).symm.trans h0_) (by decide), Q_HO136, fun h0_ => absurd ((hoff 25 (by kernel_rfl)).symm.trans h0_) (by decide), fun h0_ => absurd ((hoff 33 (by kernel_rfl)).symm.trans h0_) (by decide), Q_DJ_v105_v111, Q_DJ_v105_v117, Q_DJ_v108_v111, Q_DJ_v108_v114, Q_DJ_v108_v117, Q_DJ_v108_v120, Q_DJ_v111_v117, Q_DJ_v114_v117, Q_DJ_v114_v120, Q_DJ_v129_v135, fun h0_ _ _ => absurd ((hoff 21 (by kernel_rfl)).symm.trans h0_) (by decide), fun h0_ _ => absurd ((hoff 21 (by kernel_rfl)).symm.trans h0_) (by decide), fun h0_ => absurd ((hoff 32 (by kernel_rfl)).symm.trans h0_) (by decide)⟩
               refine steps_cons ?_ ?_
               · rintro b a w' ⟨v105, v108, v111, v114, v117, v120, v123, v126, v129, v132, v135, v138, m32_, ha, Q_BK102, Q_BK103, Q_HB, Q_HO106, Q_HO109, Q_HO112, Q_HO115, Q_HO118, Q_HO121, Q_HO124, Q_HO127, Q_HO130, Q_HO133, Q_HO136, Q_HO139, Q_BK103_e33, Q_DJ_v105_v111, Q_DJ_v105_v117, Q_DJ_v108_v111, Q_DJ_v108_v114, Q_DJ_v108_v117, Q_DJ_v108_v120, Q_DJ_v111_v117, Q_DJ_v114_v117, Q_DJ_v114_v120, Q_DJ_v129_v135, Q_DJ_v132_v135, Q_DJ_v132_v138, Q_X32_⟩ hb_ hon hoff
                 refine ⟨_, rfl, fun K hK => ?_⟩
                 have e21 : a.tmps[21]? = some (v129) := by rw [ha]; exact putSel_on (e := (18, 21, v129)) 13 rfl rfl (hon 18 (by kernel_rfl)) rfl
                 have e23 : a.tmps[23]? = some (.slice A0_5 l0_5.length c0_5) := by rw [ha]; exact putSel_on (e := (20, 23, .slice A0_5 l0_5.length c0_5)) 14 rfl rfl (hon 20 (by kernel_rfl)) rfl
                 replace ha := Aside0.mk ha
                 have BK102 := Aside0.mk Q_BK102
                 have BK103 := Aside0.mk (Q_BK103 (hoff 33 (by kernel_rfl)))
                 have HB := Aside0.mk Q_HB
                 have HO109 := Aside0.mk (Q_HO109 (hon 5 (by kernel_rfl)))
                 have HO115 := Aside0.mk (Q_HO115 (hon 9 (by kernel_rfl)))
                 have HO121 := Aside0.mk (Q_HO121 (hon 13 (by kernel_rfl)))
                 have HO127 := Aside0.mk (Q_HO127 (hon 17 (by kernel_rfl)))
                 have HO130 := Aside0.mk (Q_HO130 (hon 18 (by kernel_rfl)) hb_)
                 have DJ_v108_v114 := Aside0.mk (Q_DJ_v108_v114 (hon 5 (by kernel_rfl)) (hon 9 (by kernel_rfl)))
                 have DJ_v108_v120 := Aside0.mk (Q_DJ_v108_v120 (hon 5 (by kernel_rfl)) (hon 13 (by kernel_rfl)))
                 have DJ_v114_v120 := Aside0.mk (Q_DJ_v114_v120 (hon 9 (by kernel_rfl)) (hon 13 (by kernel_rfl)))
                 refine Kd.R_append_rows_step (Kd.int .i64) (w0 := w) w.heap.size (by rfl) (.tmp 21) (.tmp 23) 23 3 (.int .i64 0) 8 rfl Try.underlying23 info3 rfl (by decide) (by omega) v129 y128 l0_5 _ _ _ (fun _ => True) (fun _ => False) (eval_of e21) (eval_of e23) ?aO_21 ?aR_21 (fun _ _ h => h) (fun _ h => h.elim) ?aF_21 ?aB_21 ?aS_21 ?aL_21 ?_
                 (case aR_21 => repeat (first | exact (Kd.C_below HR0_5.out HB.out) | (with_reducible refine Kd.C_alloc ?_ _) | (with_reducible refine Kd.C_drewN ?_ _) | (with_reducible refine Kd.C_drew ?_)))
                 (case aB_21 => exact (by repeat (first | (with_reducible first | exact HB.out | apply below_alloc | apply pw_below_drewN | apply below_drew1 | refine below_set ?_ GE102.out | refine below_set ?_ GE103.out) | exact HB.out)))
                 (case aF_21 => exact (fun _ _ => trivial))
                 (case aO_21 => exact (by (with_reducible repeat first | apply ra | apply rb | apply rc); exact HO130.out))
                 (case aS_21 => exact (below_size (by repeat (first | (with_reducible first | exact HB.out | apply below_alloc | apply pw_below_drewN | apply below_drew1 | refine below_set ?_ GE102.out | refine below_set ?_ GE103.out) | exact HB.out))))
                 (case aL_21 => have := LMc6.out; omega)
                 intro v132 w26 ho hb hg hat
                 rw [← Ny131.out] at ho
                 have n0_ := Aside0.mk (blk_grown (g := gb102) (o := .cells #[.int .i64 a0_0, .slice A0_1 l0_1.length c0_1, .slice A0_2 l0_2.length c0_2, .slice A0_3 l0_3.length c0_3, .slice A0_4 l0_4.length c0_4, .slice A0_5 l0_5.length c0_5, .slice A0_6 l0_6.length c0_6, .int .i64 a0_7, .int .i64 a0_8, .int .i64 a0_9] 54 (0, 0)) (by (with_reducible repeat first | apply ba | apply bb | apply bc); exact BK102.out) hg (Kd.R_ne HO130.out BK102.out (by decide)))
                 have n1_ := Aside0.mk (blk_grown (g := gb103) (o := .cells #[.int .i64 0, .slice none 0 0, .slice none 0 0, .slice none 0 0, .slice none 0 0, .slice none 0 0, .slice none 0 0, .int .i64 0, .int .i64 0, .int .i64 0] 54 (0, 0)) (by (with_reducible repeat first | apply ba | apply bb | apply bc); exact BK103.out) hg (Kd.R_ne HO130.out BK103.out (by decide)))
                 have n2_ := Aside0.mk (Kd.R_over' (by (with_reducible repeat first | apply ra | apply rb | apply rc); exact HO109.out) (Kd.R_typed (by (with_reducible repeat first | apply ra | apply rb | apply rc); exact HO130.out)) (by decide) hg)
                 have n3_ := Aside0.mk (Kd.R_over' (by (with_reducible repeat first | apply ra | apply rb | apply rc); exact HO115.out) (Kd.R_typed (by (with_reducible repeat first | apply ra | apply rb | apply rc); exact HO130.out)) (by decide) hg)
                 have n4_ := Aside0.mk (Kd.R_over' (by (with_reducible repeat first | apply ra | apply rb | apply rc); exact HO121.out) (Kd.R_typed (by (with_reducible repeat first | apply ra | apply rb | apply rc); exact HO130.out)) (by decide) hg)
                 have n5_ := Aside0.mk (Kd.R_over' (by (with_reducible repeat first | apply ra | apply rb | apply rc); exact HO127.out) (Kd.R_typed (by (with_reducible repeat first | apply ra | apply rb | apply rc); exact HO130.out)) (by decide) hg)
                 have n6_ := Aside0.mk (hb)
                 have n7_ := Aside0.mk (ho)
                 have z_HO136 := fun (h0_ : b 22 = true) (h1_ : b 25 = false) => (show Kd.R (Kd.int .i64) 3 w26 w.heap.size (fun _ => True) v135 y134 from Kd.R_mono (Kd.R_after (ok := fun _ => True) (Kd.R_reok rfl (Q_HO136 h0_ h1_) (fun k_ hk => ⟨trivial, fun e_ => (Q_DJ_v129_v135 (hon 18 (by kernel_rfl)) h0_ hb_ h1_) k_ e_ hk.symm⟩)) hg hat) (fun _ _ => trivial))
                 have z_DJ_v132_v135 := fun (g0_ : b 22 = true) (g1_ : b 25 = false) => dj_app hat (Q_DJ_v129_v135 (hon 18 (by kernel_rfl)) g0_ hb_ g1_) (Q_HO136 g0_ g1_)
                 clear BK102
                 clear BK103
                 clear HO109
                 clear HO115
                 clear HO121
                 clear HO127
                 clear HB
                 clear HO130
                 have BK102 := n0_
                 have BK103 := n1_
                 have HO109 := n2_
                 have HO115 := n3_
                 have HO121 := n4_
                 have HO127 := n5_
                 have HB := n6_
                 have HO133 := n7_
                 clear n0_ n1_ n2_ n3_ n4_ n5_ n6_ n7_
                 clear ho hb hg hat
                 refine hK.out _ _ ⟨v105, v108, v111, v114, v117, v120, v123, v126, v129, v132, v135, v138, m32_, (by rw [ha.out]; exact putSel_upk 15 hb_ rfl rfl rfl), (by (with_reducible repeat first | apply ba | apply bb | apply bc); exact BK102.out), fun _ => (by (with_reducible repeat first | apply ba | apply bb | apply bc); exact BK103.out), (by repeat (first | (with_reducible first | exact HB.out | apply below_alloc | apply pw_below_drewN | apply below_drew1 | refine below_set ?_ GE102.out | refine below_set ?_ GE103.out) | exact HB.out)), fun _ h1_ => absurd ((hon 5 (by kernel_rfl)).symm.trans h1_) (by decide), fun _ => (by exact HO109.out), fun _ h1_ => absurd ((hon 9 (by kernel_rfl)).symm.trans h1_) (by decide), fun _ => (by exact HO115.out), fun _ h1_ => absurd ((hon 13 (by kernel_rfl)).symm.trans h1_) (by decide), fun _ => (by exact HO121.out), fun _ h1_ => absurd ((hon 17 (by kernel_rfl)).symm.trans h1_) (by decide), fun _ => (by (with_reducible repeat first | apply ra | apply rb | apply rc); exact HO127.out), fun _ h1_ => absurd ((up_self b 21).symm.trans h1_) (by decide), fun _ => (by exact HO133.out), z_HO136, fun h0_ => absurd ((hoff 25 (by kernel_rfl)).symm.trans h0_) (by decide), fun h0_ => absurd ((hoff 33 (by kernel_rfl)).symm.trans h0_) (by decide), fun _ _ h2_ _ => absurd ((hon 5 (by kernel_rfl)).symm.trans h2_) (by decide), fun _ _ h2_ _ => absurd ((hon 5 (by kernel_rfl)).symm.trans h2_) (by decide), fun _ _ h2_ => absurd ((hon 9 (by kernel_rfl)).symm.trans h2_) (by decide), Q_DJ_v108_v114, fun _ _ h2_ => absurd ((hon 13 (by kernel_rfl)).symm.trans h2_) (by decide), Q_DJ_v108_v120, fun _ _ h2_ _ => absurd ((hon 9 (by kernel_rfl)).symm.trans h2_) (by decide), fun _ _ h2_ => absurd ((hon 13 (by kernel_rfl)).symm.trans h2_) (by decide), Q_DJ_v114_v120, fun _ _ h2_ _ => absurd ((up_self b 21).symm.trans h2_) (by decide), fun _ h1_ h2_ => z_DJ_v132_v135 h1_ h2_, fun _ h1_ => absurd ((hoff 25 (by kernel_rfl)).symm.trans h1_) (by decide), fun h0_ => absurd ((hoff 32 (by kernel_rfl)).symm.trans h0_) (by decide)⟩
               refine steps_cons ?_ ?_
               · rintro b a w' ⟨v105, v108, v111, v114, v117, v120, v123, v126, v129, v132, v135, v138, m32_, ha, Q_BK102, Q_BK103, Q_HB, Q_HO106, Q_HO109, Q_HO112, Q_HO115, Q_HO118, Q_HO121, Q_HO124, Q_HO127, Q_HO130, Q_HO133, Q_HO136, Q_HO139, Q_BK103_e33, Q_DJ_v105_v111, Q_DJ_v105_v117, Q_DJ_v108_v111, Q_DJ_v108_v114, Q_DJ_v108_v117, Q_DJ_v108_v120, Q_DJ_v111_v117, Q_DJ_v114_v117, Q_DJ_v114_v120, Q_DJ_v129_v135, Q_DJ_v132_v135, Q_DJ_v132_v138, Q_X32_⟩ hb_ hon hoff
                 refine ⟨_, rfl, fun K hK => ?_⟩
                 replace ha := Aside0.mk ha
                 have BK102 := Aside0.mk Q_BK102
                 have BK103 := Aside0.mk (Q_BK103 (hoff 33 (by kernel_rfl)))
                 have HB := Aside0.mk Q_HB
                 refine Kd.R_lit_step (Kd.int .i64) _ 3 ?hg_22 (N := 25) ?hd_22 (xs := ([] : List Int)) (inner := []) (ok := fun _ => True) (okp := fun _ => True) ?hr_22 ?hp_22 (fun _ hk => hk) trivial (Below.refl _ _) (Nat.le_refl _) (by simp) ?_; (case hd_22 => rfl); (case hg_22 => rfl); (case hr_22 => first | (go_simp; done) | (go_simp; rfl)); (case hp_22 => exact (Reps.none _ _))
                 intro v135 w11 ho12 hb hg_ hnew_
                 clear hg_ hnew_
                 (first | rw [← Ny134.out] at ho12 | (simp only [Int.reduceToNat] at ho12; rw [← Ny134.out] at ho12))
                 have n0_ := Aside0.mk (Kd.R_lower ho12 (below_size (by repeat (first | (with_reducible first | exact HB.out | apply below_alloc | apply pw_below_drewN | apply below_drew1 | refine below_set ?_ GE102.out | refine below_set ?_ GE103.out) | exact HB.out))))
                 have n1_ := Aside0.mk (blk_below (g := gb102) (o := .cells #[.int .i64 a0_0, .slice A0_1 l0_1.length c0_1, .slice A0_2 l0_2.length c0_2, .slice A0_3 l0_3.length c0_3, .slice A0_4 l0_4.length c0_4, .slice A0_5 l0_5.length c0_5, .slice A0_6 l0_6.length c0_6, .int .i64 a0_7, .int .i64 a0_8, .int .i64 a0_9] 54 (0, 0)) (by (with_reducible repeat first | apply ba | apply bb | apply bc); exact BK102.out) hb)
                 have n2_ := Aside0.mk (blk_below (g := gb103) (o := .cells #[.int .i64 0, .slice none 0 0, .slice none 0 0, .slice none 0 0, .slice none 0 0, .slice none 0 0, .slice none 0 0, .int .i64 0, .int .i64 0, .int .i64 0] 54 (0, 0)) (by (with_reducible repeat first | apply ba | apply bb | apply bc); exact BK103.out) hb)
                 have n3_ := Aside0.mk (below_step (by repeat (first | (with_reducible first | exact HB.out | apply below_alloc | apply pw_below_drewN | apply below_drew1 | refine below_set ?_ GE102.out | refine below_set ?_ GE103.out) | exact HB.out)) hb)
                 have z_HO106 := fun (h0_ : b 2 = true) (h1_ : b 5 = false) => (show Kd.R Kd.bool 4 w11 w.heap.size (fun _ => True) v105 y104 from Kd.R_below (Q_HO106 h0_ h1_) hb)
                 have z_HO109 := fun (h0_ : b 5 = true) => (show Kd.R Kd.bool 4 w11 w.heap.size (fun _ => True) v108 y107 from Kd.R_below (Q_HO109 h0_) hb)
                 have z_HO112 := fun (h0_ : b 6 = true) (h1_ : b 9 = false) => (show Kd.R Kd.bool 4 w11 w.heap.size (fun _ => True) v111 y110 from Kd.R_below (Q_HO112 h0_ h1_) hb)
                 have z_HO115 := fun (h0_ : b 9 = true) => (show Kd.R Kd.bool 4 w11 w.heap.size (fun _ => True) v114 y113 from Kd.R_below (Q_HO115 h0_) hb)
                 have z_HO118 := fun (h0_ : b 10 = true) (h1_ : b 13 = false) => (show Kd.R Kd.bool 4 w11 w.heap.size (fun _ => True) v117 y116 from Kd.R_below (Q_HO118 h0_ h1_) hb)
                 have z_HO121 := fun (h0_ : b 13 = true) => (show Kd.R Kd.bool 4 w11 w.heap.size (fun _ => True) v120 y119 from Kd.R_below (Q_HO121 h0_) hb)
                 have z_HO124 := fun (h0_ : b 14 = true) (h1_ : b 17 = false) => (show Kd.R Kd.string 9 w11 w.heap.size (fun _ => True) v123 y122 from by first | exact (Kd.R_below (by (with_reducible repeat first | apply ra | apply rb | apply rc); exact (Q_HO124 h0_ h1_)) hb) | exact Kd.R_mono (Kd.R_below (by (with_reducible repeat first | apply ra | apply rb | apply rc); exact (Q_HO124 h0_ h1_)) hb) (fun _ h_ => by first | trivial | exact h_ | exact h_.1))
                 have z_HO127 := fun (h0_ : b 17 = true) => (show Kd.R Kd.string 9 w11 w.heap.size (fun _ => True) v126 y125 from by first | exact (Kd.R_below (by (with_reducible repeat first | apply ra | apply rb | apply rc); exact (Q_HO127 h0_)) hb) | exact Kd.R_mono (Kd.R_below (by (with_reducible repeat first | apply ra | apply rb | apply rc); exact (Q_HO127 h0_)) hb) (fun _ h_ => by first | trivial | exact h_ | exact h_.1))
                 have z_HO130 := fun (h0_ : b 18 = true) (h1_ : b 21 = false) => (show Kd.R (Kd.int .i64) 3 w11 w.heap.size (fun _ => True) v129 y128 from Kd.R_below (Q_HO130 h0_ h1_) hb)
                 have z_HO133 := fun (h0_ : b 21 = true) => (show Kd.R (Kd.int .i64) 3 w11 w.heap.size (fun _ => True) v132 y131 from Kd.R_below (Q_HO133 h0_) hb)
                 have z_DJ_v129_v135 := fun (g0_ : b 18 = true) (g1_ : b 21 = false) (g2_ : b 25 = false) => dj_symm (dj_new (Kd.R_base ho12) (Q_HO130 g0_ g1_))
                 have z_DJ_v132_v135 := fun (g0_ : b 21 = true) (g1_ : b 25 = false) => dj_symm (dj_new (Kd.R_base ho12) (Q_HO133 g0_))
                 clear BK102
                 clear BK103
                 clear HB
                 have HO136 := n0_
                 have BK102 := n1_
                 have BK103 := n2_
                 have HB := n3_
                 clear n0_ n1_ n2_ n3_
                 clear hb ho12
                 refine hK.out _ _ ⟨v105, v108, v111, v114, v117, v120, v123, v126, v129, v132, v135, v138, m32_, (by rw [ha.out]; exact putSel_upk 16 hb_ rfl rfl rfl), (by (with_reducible repeat first | apply ba | apply bb | apply bc); exact BK102.out), fun _ => (by (with_reducible repeat first | apply ba | apply bb | apply bc); exact BK103.out), (by repeat (first | (with_reducible first | exact HB.out | apply below_alloc | apply pw_below_drewN | apply below_drew1 | refine below_set ?_ GE102.out | refine below_set ?_ GE103.out) | exact HB.out)), z_HO106, z_HO109, z_HO112, z_HO115, z_HO118, z_HO121, z_HO124, z_HO127, z_HO130, z_HO133, fun _ _ => (by exact HO136.out), fun h0_ => absurd ((hoff 25 (by kernel_rfl)).symm.trans h0_) (by decide), fun h0_ => absurd ((hoff 33 (by kernel_rfl)).symm.trans h0_) (by decide), Q_DJ_v105_v111, Q_DJ_v105_v117, Q_DJ_v108_v111, Q_DJ_v108_v114, Q_DJ_v108_v117, Q_DJ_v108_v120, Q_DJ_v111_v117, Q_DJ_v114_v117, Q_DJ_v114_v120, fun h0_ _ h2_ h3_ => z_DJ_v129_v135 h0_ h2_ h3_, fun h0_ _ h2_ => z_DJ_v132_v135 h0_ h2_, fun _ h1_ => absurd ((hoff 25 (by kernel_rfl)).symm.trans h1_) (by decide), fun h0_ => absurd ((hoff 32 (by kernel_rfl)).symm.trans h0_) (by decide)⟩
               refine steps_cons ?_ ?_
               · rintro b a w' ⟨v105, v108, v111, v114, v117, v120, v123, v126, v129, v132, v135, v138, m32_, ha, Q_BK102, Q_BK103, Q_HB, Q_HO106, Q_HO109, Q_HO112, Q_HO115, Q_HO118, Q_HO121, Q_HO124, Q_HO127, Q_HO130, Q_HO133, Q_HO136, Q_HO139, Q_BK103_e33, Q_DJ_v105_v111, Q_DJ_v105_v117, Q_DJ_v108_v111, Q_DJ_v108_v114, Q_DJ_v108_v117, Q_DJ_v108_v120, Q_DJ_v111_v117, Q_DJ_v114_v117, Q_DJ_v114_v120, Q_DJ_v129_v135, Q_DJ_v132_v135, Q_DJ_v132_v138, Q_X32_⟩ hb_ hon hoff
                 refine ⟨_, rfl, fun K hK => ?_⟩
                 have e26 : a.tmps[26]? = some (.pointer (some ⟨gb102, 6, none⟩)) := by rw [ha]; exact (putSel_off rfl).trans rfl
                 replace ha := Aside0.mk ha
                 have BK102 := Aside0.mk Q_BK102
                 have BK103 := Aside0.mk (Q_BK103 (hoff 33 (by kernel_rfl)))
                 have HB := Aside0.mk Q_HB
                 have hc0_ : w'.cell? ⟨gb102, 0, none⟩ = some (.int .i64 a0_0) := (blk_cell BK102.out 0).trans rfl
                 have hc1_ : w'.cell? ⟨gb102, 1, none⟩ = some (.slice A0_1 l0_1.length c0_1) := (blk_cell BK102.out 1).trans rfl
                 have hc2_ : w'.cell? ⟨gb102, 2, none⟩ = some (.slice A0_2 l0_2.length c0_2) := (blk_cell BK102.out 2).trans rfl
                 have hc3_ : w'.cell? ⟨gb102, 3, none⟩ = some (.slice A0_3 l0_3.length c0_3) := (blk_cell BK102.out 3).trans rfl
                 have hc4_ : w'.cell? ⟨gb102, 4, none⟩ = some (.slice A0_4 l0_4.length c0_4) := (blk_cell BK102.out 4).trans rfl
                 have hc5_ : w'.cell? ⟨gb102, 5, none⟩ = some (.slice A0_5 l0_5.length c0_5) := (blk_cell BK102.out 5).trans rfl
                 have hc6_ : w'.cell? ⟨gb102, 6, none⟩ = some (.slice A0_6 l0_6.length c0_6) := (blk_cell BK102.out 6).trans rfl
                 have hc7_ : w'.cell? ⟨gb102, 7, none⟩ = some (.int .i64 a0_7) := (blk_cell BK102.out 7).trans rfl
                 have hc8_ : w'.cell? ⟨gb102, 8, none⟩ = some (.int .i64 a0_8) := (blk_cell BK102.out 8).trans rfl
                 have hc9_ : w'.cell? ⟨gb102, 9, none⟩ = some (.int .i64 a0_9) := (blk_cell BK102.out 9).trans rfl
                 refine value_ (w1 := w') (v := .slice A0_6 l0_6.length c0_6) (by rfl) rfl ?_ ?_
                 · go_simp
                   (try simp only [i64_w])
                   try rfl
                 refine hK.out _ _ ⟨v105, v108, v111, v114, v117, v120, v123, v126, v129, v132, v135, v138, m32_, (by rw [ha.out]; exact putSel_upk 17 hb_ rfl rfl rfl), Q_BK102, Q_BK103, Q_HB, Q_HO106, Q_HO109, Q_HO112, Q_HO115, Q_HO118, Q_HO121, Q_HO124, Q_HO127, Q_HO130, Q_HO133, Q_HO136, fun h0_ => absurd ((hoff 25 (by kernel_rfl)).symm.trans h0_) (by decide), fun h0_ => absurd ((hoff 33 (by kernel_rfl)).symm.trans h0_) (by decide), Q_DJ_v105_v111, Q_DJ_v105_v117, Q_DJ_v108_v111, Q_DJ_v108_v114, Q_DJ_v108_v117, Q_DJ_v108_v120, Q_DJ_v111_v117, Q_DJ_v114_v117, Q_DJ_v114_v120, Q_DJ_v129_v135, Q_DJ_v132_v135, fun _ h1_ => absurd ((hoff 25 (by kernel_rfl)).symm.trans h1_) (by decide), fun h0_ => absurd ((hoff 32 (by kernel_rfl)).symm.trans h0_) (by decide)⟩
               refine steps_cons ?_ ?_
               · rintro b a w' ⟨v105, v108, v111, v114, v117, v120, v123, v126, v129, v132, v135, v138, m32_, ha, Q_BK102, Q_BK103, Q_HB, Q_HO106, Q_HO109, Q_HO112, Q_HO115, Q_HO118, Q_HO121, Q_HO124, Q_HO127, Q_HO130, Q_HO133, Q_HO136, Q_HO139, Q_BK103_e33, Q_DJ_v105_v111, Q_DJ_v105_v117, Q_DJ_v108_v111, Q_DJ_v108_v114, Q_DJ_v108_v117, Q_DJ_v108_v120, Q_DJ_v111_v117, Q_DJ_v114_v117, Q_DJ_v114_v120, Q_DJ_v129_v135, Q_DJ_v132_v135, Q_DJ_v132_v138, Q_X32_⟩ hb_ hon hoff
                 refine ⟨_, rfl, fun K hK => ?_⟩
                 have e25 : a.tmps[25]? = some (v135) := by rw [ha]; exact putSel_on (e := (22, 25, v135)) 16 rfl rfl (hon 22 (by kernel_rfl)) rfl
                 have e27 : a.tmps[27]? = some (.slice A0_6 l0_6.length c0_6) := by rw [ha]; exact putSel_on (e := (24, 27, .slice A0_6 l0_6.length c0_6)) 17 rfl rfl (hon 24 (by kernel_rfl)) rfl
                 replace ha := Aside0.mk ha
                 have BK102 := Aside0.mk Q_BK102
                 have BK103 := Aside0.mk (Q_BK103 (hoff 33 (by kernel_rfl)))
                 have HB := Aside0.mk Q_HB
                 have HO109 := Aside0.mk (Q_HO109 (hon 5 (by kernel_rfl)))
                 have HO115 := Aside0.mk (Q_HO115 (hon 9 (by kernel_rfl)))
                 have HO121 := Aside0.mk (Q_HO121 (hon 13 (by kernel_rfl)))
                 have HO127 := Aside0.mk (Q_HO127 (hon 17 (by kernel_rfl)))
                 have HO133 := Aside0.mk (Q_HO133 (hon 21 (by kernel_rfl)))
                 have HO136 := Aside0.mk (Q_HO136 (hon 22 (by kernel_rfl)) hb_)
                 have DJ_v108_v114 := Aside0.mk (Q_DJ_v108_v114 (hon 5 (by kernel_rfl)) (hon 9 (by kernel_rfl)))
                 have DJ_v108_v120 := Aside0.mk (Q_DJ_v108_v120 (hon 5 (by kernel_rfl)) (hon 13 (by kernel_rfl)))
                 have DJ_v114_v120 := Aside0.mk (Q_DJ_v114_v120 (hon 9 (by kernel_rfl)) (hon 13 (by kernel_rfl)))
                 have DJ_v132_v135 := Aside0.mk (Q_DJ_v132_v135 (hon 21 (by kernel_rfl)) (hon 22 (by kernel_rfl)) hb_)
                 refine Kd.R_append_rows_step (Kd.int .i64) (w0 := w) w.heap.size (by rfl) (.tmp 25) (.tmp 27) 23 3 (.int .i64 0) 8 rfl Try.underlying23 info3 rfl (by decide) (by omega) v135 y134 l0_6 _ _ _ (fun _ => True) (fun _ => False) (eval_of e25) (eval_of e27) ?aO_25 ?aR_25 (fun _ _ h => h) (fun _ h => h.elim) ?aF_25 ?aB_25 ?aS_25 ?aL_25 ?_
                 (case aR_25 => repeat (first | exact (Kd.C_below HR0_6.out HB.out) | (with_reducible refine Kd.C_alloc ?_ _) | (with_reducible refine Kd.C_drewN ?_ _) | (with_reducible refine Kd.C_drew ?_)))
                 (case aB_25 => exact (by repeat (first | (with_reducible first | exact HB.out | apply below_alloc | apply pw_below_drewN | apply below_drew1 | refine below_set ?_ GE102.out | refine below_set ?_ GE103.out) | exact HB.out)))
                 (case aF_25 => exact (fun _ _ => trivial))
                 (case aO_25 => exact (by (with_reducible repeat first | apply ra | apply rb | apply rc); exact HO136.out))
                 (case aS_25 => exact (below_size (by repeat (first | (with_reducible first | exact HB.out | apply below_alloc | apply pw_below_drewN | apply below_drew1 | refine below_set ?_ GE102.out | refine below_set ?_ GE103.out) | exact HB.out))))
                 (case aL_25 => have := LMc7.out; omega)
                 intro v138 w29 ho hb hg hat
                 rw [← Ny137.out] at ho
                 have n0_ := Aside0.mk (blk_grown (g := gb102) (o := .cells #[.int .i64 a0_0, .slice A0_1 l0_1.length c0_1, .slice A0_2 l0_2.length c0_2, .slice A0_3 l0_3.length c0_3, .slice A0_4 l0_4.length c0_4, .slice A0_5 l0_5.length c0_5, .slice A0_6 l0_6.length c0_6, .int .i64 a0_7, .int .i64 a0_8, .int .i64 a0_9] 54 (0, 0)) (by (with_reducible repeat first | apply ba | apply bb | apply bc); exact BK102.out) hg (Kd.R_ne HO136.out BK102.out (by decide)))
                 have n1_ := Aside0.mk (blk_grown (g := gb103) (o := .cells #[.int .i64 0, .slice none 0 0, .slice none 0 0, .slice none 0 0, .slice none 0 0, .slice none 0 0, .slice none 0 0, .int .i64 0, .int .i64 0, .int .i64 0] 54 (0, 0)) (by (with_reducible repeat first | apply ba | apply bb | apply bc); exact BK103.out) hg (Kd.R_ne HO136.out BK103.out (by decide)))
                 have n2_ := Aside0.mk (Kd.R_over' (by (with_reducible repeat first | apply ra | apply rb | apply rc); exact HO109.out) (Kd.R_typed (by (with_reducible repeat first | apply ra | apply rb | apply rc); exact HO136.out)) (by decide) hg)
                 have n3_ := Aside0.mk (Kd.R_over' (by (with_reducible repeat first | apply ra | apply rb | apply rc); exact HO115.out) (Kd.R_typed (by (with_reducible repeat first | apply ra | apply rb | apply rc); exact HO136.out)) (by decide) hg)
                 have n4_ := Aside0.mk (Kd.R_over' (by (with_reducible repeat first | apply ra | apply rb | apply rc); exact HO121.out) (Kd.R_typed (by (with_reducible repeat first | apply ra | apply rb | apply rc); exact HO136.out)) (by decide) hg)
                 have n5_ := Aside0.mk (Kd.R_over' (by (with_reducible repeat first | apply ra | apply rb | apply rc); exact HO127.out) (Kd.R_typed (by (with_reducible repeat first | apply ra | apply rb | apply rc); exact HO136.out)) (by decide) hg)
                 have n6_ := Aside0.mk (Kd.R_mono (Kd.R_after (ok := fun _ => True) (Kd.R_reok rfl HO133.out (fun k_ hk => ⟨trivial, fun e_ => (Q_DJ_v132_v135 (hon 21 (by kernel_rfl)) (hon 22 (by kernel_rfl)) hb_) k_ hk.symm e_⟩)) hg hat) (fun _ _ => trivial))
                 have n7_ := Aside0.mk (hb)
                 have n8_ := Aside0.mk (ho)
                 have z_DJ_v132_v138 := fun (g0_ : b 21 = true) => dj_symm (dj_app hat (dj_symm (Q_DJ_v132_v135 g0_ (hon 22 (by kernel_rfl)) hb_)) (Q_HO133 g0_))
                 clear BK102
                 clear BK103
                 clear HO109
                 clear HO115
                 clear HO121
                 clear HO127
                 clear HO133
                 clear HB
                 clear HO136
                 have BK102 := n0_
                 have BK103 := n1_
                 have HO109 := n2_
                 have HO115 := n3_
                 have HO121 := n4_
                 have HO127 := n5_
                 have HO133 := n6_
                 have HB := n7_
                 have HO139 := n8_
                 clear n0_ n1_ n2_ n3_ n4_ n5_ n6_ n7_ n8_
                 clear ho hb hg hat
                 obtain ⟨Ao30, co30, eo30⟩ := Kd.R_slice HO139.out
                 (first | subst eo30 | (injection eo30 with f1_ f2_ f3_; have f4_ := f1_.symm; have f5_ := f3_.symm; clear f1_ f2_ f3_; subst f4_; subst f5_))
                 obtain ⟨Ao31, co31, eo31⟩ := Kd.R_slice HO133.out
                 (first | subst eo31 | (injection eo31 with f1_ f2_ f3_; have f4_ := f1_.symm; have f5_ := f3_.symm; clear f1_ f2_ f3_; subst f4_; subst f5_))
                 obtain ⟨Ao32, co32, eo32⟩ := Kd.R_slice HO127.out
                 (first | subst eo32 | (injection eo32 with f1_ f2_ f3_; have f4_ := f1_.symm; have f5_ := f3_.symm; clear f1_ f2_ f3_; subst f4_; subst f5_))
                 obtain ⟨Ao33, co33, eo33⟩ := Kd.R_slice HO121.out
                 (first | subst eo33 | (injection eo33 with f1_ f2_ f3_; have f4_ := f1_.symm; have f5_ := f3_.symm; clear f1_ f2_ f3_; subst f4_; subst f5_))
                 obtain ⟨Ao34, co34, eo34⟩ := Kd.R_slice HO115.out
                 (first | subst eo34 | (injection eo34 with f1_ f2_ f3_; have f4_ := f1_.symm; have f5_ := f3_.symm; clear f1_ f2_ f3_; subst f4_; subst f5_))
                 obtain ⟨Ao35, co35, eo35⟩ := Kd.R_slice HO109.out
                 (first | subst eo35 | (injection eo35 with f1_ f2_ f3_; have f4_ := f1_.symm; have f5_ := f3_.symm; clear f1_ f2_ f3_; subst f4_; subst f5_))
                 refine hK.out _ _ ⟨v105, .slice Ao35 y107.length co35, v111, .slice Ao34 y113.length co34, v117, .slice Ao33 y119.length co33, v123, .slice Ao32 y125.length co32, v129, .slice Ao31 y131.length co31, v135, .slice Ao30 y137.length co30, m32_, (by rw [ha.out]; exact putSel_upk 18 hb_ rfl rfl rfl), (by (with_reducible repeat first | apply ba | apply bb | apply bc); exact BK102.out), fun _ => (by (with_reducible repeat first | apply ba | apply bb | apply bc); exact BK103.out), (by repeat (first | (with_reducible first | exact HB.out | apply below_alloc | apply pw_below_drewN | apply below_drew1 | refine below_set ?_ GE102.out | refine below_set ?_ GE103.out) | exact HB.out)), fun _ h1_ => absurd ((hon 5 (by kernel_rfl)).symm.trans h1_) (by decide), fun _ => (by exact HO109.out), fun _ h1_ => absurd ((hon 9 (by kernel_rfl)).symm.trans h1_) (by decide), fun _ => (by exact HO115.out), fun _ h1_ => absurd ((hon 13 (by kernel_rfl)).symm.trans h1_) (by decide), fun _ => (by exact HO121.out), fun _ h1_ => absurd ((hon 17 (by kernel_rfl)).symm.trans h1_) (by decide), fun _ => (by (with_reducible repeat first | apply ra | apply rb | apply rc); exact HO127.out), fun _ h1_ => absurd ((hon 21 (by kernel_rfl)).symm.trans h1_) (by decide), fun _ => (by exact HO133.out), fun _ h1_ => absurd ((up_self b 25).symm.trans h1_) (by decide), fun _ => (by exact HO139.out), fun h0_ => absurd ((hoff 33 (by kernel_rfl)).symm.trans h0_) (by decide), fun _ _ h2_ _ => absurd ((hon 5 (by kernel_rfl)).symm.trans h2_) (by decide), fun _ _ h2_ _ => absurd ((hon 5 (by kernel_rfl)).symm.trans h2_) (by decide), fun _ _ h2_ => absurd ((hon 9 (by kernel_rfl)).symm.trans h2_) (by decide), Q_DJ_v108_v114, fun _ _ h2_ => absurd ((hon 13 (by kernel_rfl)).symm.trans h2_) (by decide), Q_DJ_v108_v120, fun _ _ h2_ _ => absurd ((hon 9 (by kernel_rfl)).symm.trans h2_) (by decide), fun _ _ h2_ => absurd ((hon 13 (by kernel_rfl)).symm.trans h2_) (by decide), Q_DJ_v114_v120, fun _ _ _ h3_ => absurd ((up_self b 25).symm.trans h3_) (by decide), fun _ _ h2_ => absurd ((up_self b 25).symm.trans h2_) (by decide), fun h0_ _ => z_DJ_v132_v138 h0_, fun h0_ => absurd ((hoff 32 (by kernel_rfl)).symm.trans h0_) (by decide)⟩
               refine steps_cons ?_ ?_
               · rintro b a w' ⟨v105, v108, v111, v114, v117, v120, v123, v126, v129, v132, v135, v138, m32_, ha, Q_BK102, Q_BK103, Q_HB, Q_HO106, Q_HO109, Q_HO112, Q_HO115, Q_HO118, Q_HO121, Q_HO124, Q_HO127, Q_HO130, Q_HO133, Q_HO136, Q_HO139, Q_BK103_e33, Q_DJ_v105_v111, Q_DJ_v105_v117, Q_DJ_v108_v111, Q_DJ_v108_v114, Q_DJ_v108_v117, Q_DJ_v108_v120, Q_DJ_v111_v117, Q_DJ_v114_v117, Q_DJ_v114_v120, Q_DJ_v129_v135, Q_DJ_v132_v135, Q_DJ_v132_v138, Q_X32_⟩ hb_ hon hoff
                 refine ⟨_, rfl, fun K hK => ?_⟩
                 have e29 : a.tmps[29]? = some (.pointer (some ⟨gb102, 7, none⟩)) := by rw [ha]; exact (putSel_off rfl).trans rfl
                 replace ha := Aside0.mk ha
                 have BK102 := Aside0.mk Q_BK102
                 have BK103 := Aside0.mk (Q_BK103 (hoff 33 (by kernel_rfl)))
                 have HB := Aside0.mk Q_HB
                 have hc0_ : w'.cell? ⟨gb102, 0, none⟩ = some (.int .i64 a0_0) := (blk_cell BK102.out 0).trans rfl
                 have hc1_ : w'.cell? ⟨gb102, 1, none⟩ = some (.slice A0_1 l0_1.length c0_1) := (blk_cell BK102.out 1).trans rfl
                 have hc2_ : w'.cell? ⟨gb102, 2, none⟩ = some (.slice A0_2 l0_2.length c0_2) := (blk_cell BK102.out 2).trans rfl
                 have hc3_ : w'.cell? ⟨gb102, 3, none⟩ = some (.slice A0_3 l0_3.length c0_3) := (blk_cell BK102.out 3).trans rfl
                 have hc4_ : w'.cell? ⟨gb102, 4, none⟩ = some (.slice A0_4 l0_4.length c0_4) := (blk_cell BK102.out 4).trans rfl
                 have hc5_ : w'.cell? ⟨gb102, 5, none⟩ = some (.slice A0_5 l0_5.length c0_5) := (blk_cell BK102.out 5).trans rfl
                 have hc6_ : w'.cell? ⟨gb102, 6, none⟩ = some (.slice A0_6 l0_6.length c0_6) := (blk_cell BK102.out 6).trans rfl
                 have hc7_ : w'.cell? ⟨gb102, 7, none⟩ = some (.int .i64 a0_7) := (blk_cell BK102.out 7).trans rfl
                 have hc8_ : w'.cell? ⟨gb102, 8, none⟩ = some (.int .i64 a0_8) := (blk_cell BK102.out 8).trans rfl
                 have hc9_ : w'.cell? ⟨gb102, 9, none⟩ = some (.int .i64 a0_9) := (blk_cell BK102.out 9).trans rfl
                 refine value_ (w1 := w') (v := .int .i64 a0_7) (by rfl) rfl ?_ ?_
                 · go_simp
                   (try simp only [i64_w])
                   try rfl
                 refine hK.out _ _ ⟨v105, v108, v111, v114, v117, v120, v123, v126, v129, v132, v135, v138, m32_, (by rw [ha.out]; exact putSel_upk 19 hb_ rfl rfl rfl), Q_BK102, Q_BK103, Q_HB, Q_HO106, Q_HO109, Q_HO112, Q_HO115, Q_HO118, Q_HO121, Q_HO124, Q_HO127, Q_HO130, Q_HO133, Q_HO136, Q_HO139, fun h0_ => absurd ((hoff 33 (by kernel_rfl)).symm.trans h0_) (by decide), Q_DJ_v105_v111, Q_DJ_v105_v117, Q_DJ_v108_v111, Q_DJ_v108_v114, Q_DJ_v108_v117, Q_DJ_v108_v120, Q_DJ_v111_v117, Q_DJ_v114_v117, Q_DJ_v114_v120, Q_DJ_v129_v135, Q_DJ_v132_v135, Q_DJ_v132_v138, fun h0_ => absurd ((hoff 32 (by kernel_rfl)).symm.trans h0_) (by decide)⟩
               refine steps_cons ?_ ?_
               · rintro b a w' ⟨v105, v108, v111, v114, v117, v120, v123, v126, v129, v132, v135, v138, m32_, ha, Q_BK102, Q_BK103, Q_HB, Q_HO106, Q_HO109, Q_HO112, Q_HO115, Q_HO118, Q_HO121, Q_HO124, Q_HO127, Q_HO130, Q_HO133, Q_HO136, Q_HO139, Q_BK103_e33, Q_DJ_v105_v111, Q_DJ_v105_v117, Q_DJ_v108_v111, Q_DJ_v108_v114, Q_DJ_v108_v117, Q_DJ_v108_v120, Q_DJ_v111_v117, Q_DJ_v114_v117, Q_DJ_v114_v120, Q_DJ_v129_v135, Q_DJ_v132_v135, Q_DJ_v132_v138, Q_X32_⟩ hb_ hon hoff
                 refine ⟨_, rfl, fun K hK => ?_⟩
                 have e31 : a.tmps[31]? = some (.pointer (some ⟨gb102, 8, none⟩)) := by rw [ha]; exact (putSel_off rfl).trans rfl
                 replace ha := Aside0.mk ha
                 have BK102 := Aside0.mk Q_BK102
                 have BK103 := Aside0.mk (Q_BK103 (hoff 33 (by kernel_rfl)))
                 have HB := Aside0.mk Q_HB
                 have hc0_ : w'.cell? ⟨gb102, 0, none⟩ = some (.int .i64 a0_0) := (blk_cell BK102.out 0).trans rfl
                 have hc1_ : w'.cell? ⟨gb102, 1, none⟩ = some (.slice A0_1 l0_1.length c0_1) := (blk_cell BK102.out 1).trans rfl
                 have hc2_ : w'.cell? ⟨gb102, 2, none⟩ = some (.slice A0_2 l0_2.length c0_2) := (blk_cell BK102.out 2).trans rfl
                 have hc3_ : w'.cell? ⟨gb102, 3, none⟩ = some (.slice A0_3 l0_3.length c0_3) := (blk_cell BK102.out 3).trans rfl
                 have hc4_ : w'.cell? ⟨gb102, 4, none⟩ = some (.slice A0_4 l0_4.length c0_4) := (blk_cell BK102.out 4).trans rfl
                 have hc5_ : w'.cell? ⟨gb102, 5, none⟩ = some (.slice A0_5 l0_5.length c0_5) := (blk_cell BK102.out 5).trans rfl
                 have hc6_ : w'.cell? ⟨gb102, 6, none⟩ = some (.slice A0_6 l0_6.length c0_6) := (blk_cell BK102.out 6).trans rfl
                 have hc7_ : w'.cell? ⟨gb102, 7, none⟩ = some (.int .i64 a0_7) := (blk_cell BK102.out 7).trans rfl
                 have hc8_ : w'.cell? ⟨gb102, 8, none⟩ = some (.int .i64 a0_8) := (blk_cell BK102.out 8).trans rfl
                 have hc9_ : w'.cell? ⟨gb102, 9, none⟩ = some (.int .i64 a0_9) := (blk_cell BK102.out 9).trans rfl
                 refine value_ (w1 := w') (v := .int .i64 a0_8) (by rfl) rfl ?_ ?_
                 · go_simp
                   (try simp only [i64_w])
                   try rfl
                 refine hK.out _ _ ⟨v105, v108, v111, v114, v117, v120, v123, v126, v129, v132, v135, v138, m32_, (by rw [ha.out]; exact putSel_upk 20 hb_ rfl rfl rfl), Q_BK102, Q_BK103, Q_HB, Q_HO106, Q_HO109, Q_HO112, Q_HO115, Q_HO118, Q_HO121, Q_HO124, Q_HO127, Q_HO130, Q_HO133, Q_HO136, Q_HO139, fun h0_ => absurd ((hoff 33 (by kernel_rfl)).symm.trans h0_) (by decide), Q_DJ_v105_v111, Q_DJ_v105_v117, Q_DJ_v108_v111, Q_DJ_v108_v114, Q_DJ_v108_v117, Q_DJ_v108_v120, Q_DJ_v111_v117, Q_DJ_v114_v117, Q_DJ_v114_v120, Q_DJ_v129_v135, Q_DJ_v132_v135, Q_DJ_v132_v138, fun h0_ => absurd ((hoff 32 (by kernel_rfl)).symm.trans h0_) (by decide)⟩
               refine steps_cons ?_ ?_
               · rintro b a w' ⟨v105, v108, v111, v114, v117, v120, v123, v126, v129, v132, v135, v138, m32_, ha, Q_BK102, Q_BK103, Q_HB, Q_HO106, Q_HO109, Q_HO112, Q_HO115, Q_HO118, Q_HO121, Q_HO124, Q_HO127, Q_HO130, Q_HO133, Q_HO136, Q_HO139, Q_BK103_e33, Q_DJ_v105_v111, Q_DJ_v105_v117, Q_DJ_v108_v111, Q_DJ_v108_v114, Q_DJ_v108_v117, Q_DJ_v108_v120, Q_DJ_v111_v117, Q_DJ_v114_v117, Q_DJ_v114_v120, Q_DJ_v129_v135, Q_DJ_v132_v135, Q_DJ_v132_v138, Q_X32_⟩ hb_ hon hoff
                 refine ⟨_, rfl, fun K hK => ?_⟩
                 have e33 : a.tmps[33]? = some (.pointer (some ⟨gb102, 9, none⟩)) := by rw [ha]; exact (putSel_off rfl).trans rfl
                 replace ha := Aside0.mk ha
                 have BK102 := Aside0.mk Q_BK102
                 have BK103 := Aside0.mk (Q_BK103 (hoff 33 (by kernel_rfl)))
                 have HB := Aside0.mk Q_HB
                 have hc0_ : w'.cell? ⟨gb102, 0, none⟩ = some (.int .i64 a0_0) := (blk_cell BK102.out 0).trans rfl
                 have hc1_ : w'.cell? ⟨gb102, 1, none⟩ = some (.slice A0_1 l0_1.length c0_1) := (blk_cell BK102.out 1).trans rfl
                 have hc2_ : w'.cell? ⟨gb102, 2, none⟩ = some (.slice A0_2 l0_2.length c0_2) := (blk_cell BK102.out 2).trans rfl
                 have hc3_ : w'.cell? ⟨gb102, 3, none⟩ = some (.slice A0_3 l0_3.length c0_3) := (blk_cell BK102.out 3).trans rfl
                 have hc4_ : w'.cell? ⟨gb102, 4, none⟩ = some (.slice A0_4 l0_4.length c0_4) := (blk_cell BK102.out 4).trans rfl
                 have hc5_ : w'.cell? ⟨gb102, 5, none⟩ = some (.slice A0_5 l0_5.length c0_5) := (blk_cell BK102.out 5).trans rfl
                 have hc6_ : w'.cell? ⟨gb102, 6, none⟩ = some (.slice A0_6 l0_6.length c0_6) := (blk_cell BK102.out 6).trans rfl
                 have hc7_ : w'.cell? ⟨gb102, 7, none⟩ = some (.int .i64 a0_7) := (blk_cell BK102.out 7).trans rfl
                 have hc8_ : w'.cell? ⟨gb102, 8, none⟩ = some (.int .i64 a0_8) := (blk_cell BK102.out 8).trans rfl
                 have hc9_ : w'.cell? ⟨gb102, 9, none⟩ = some (.int .i64 a0_9) := (blk_cell BK102.out 9).trans rfl
                 refine value_ (w1 := w') (v := .int .i64 a0_9) (by rfl) rfl ?_ ?_
                 · go_simp
                   (try simp only [i64_w])
                   try rfl
                 refine hK.out _ _ ⟨v105, v108, v111, v114, v117, v120, v123, v126, v129, v132, v135, v138, m32_, (by rw [ha.out]; exact putSel_upk 21 hb_ rfl rfl rfl), Q_BK102, Q_BK103, Q_HB, Q_HO106, Q_HO109, Q_HO112, Q_HO115, Q_HO118, Q_HO121, Q_HO124, Q_HO127, Q_HO130, Q_HO133, Q_HO136, Q_HO139, fun h0_ => absurd ((hoff 33 (by kernel_rfl)).symm.trans h0_) (by decide), Q_DJ_v105_v111, Q_DJ_v105_v117, Q_DJ_v108_v111, Q_DJ_v108_v114, Q_DJ_v108_v117, Q_DJ_v108_v120, Q_DJ_v111_v117, Q_DJ_v114_v117, Q_DJ_v114_v120, Q_DJ_v129_v135, Q_DJ_v132_v135, Q_DJ_v132_v138, fun h0_ => absurd ((hoff 32 (by kernel_rfl)).symm.trans h0_) (by decide)⟩
               refine steps_cons ?_ ?_
               · rintro b a w' ⟨v105, v108, v111, v114, v117, v120, v123, v126, v129, v132, v135, v138, m32_, ha, Q_BK102, Q_BK103, Q_HB, Q_HO106, Q_HO109, Q_HO112, Q_HO115, Q_HO118, Q_HO121, Q_HO124, Q_HO127, Q_HO130, Q_HO133, Q_HO136, Q_HO139, Q_BK103_e33, Q_DJ_v105_v111, Q_DJ_v105_v117, Q_DJ_v108_v111, Q_DJ_v108_v114, Q_DJ_v108_v117, Q_DJ_v108_v120, Q_DJ_v111_v117, Q_DJ_v114_v117, Q_DJ_v114_v120, Q_DJ_v129_v135, Q_DJ_v132_v135, Q_DJ_v132_v138, Q_X32_⟩ hb_ hon hoff
                 refine ⟨_, rfl, fun K hK => ?_⟩
                 have e4 : a.tmps[4]? = some (.int .i64 a0_0) := by rw [ha]; exact putSel_on (e := (1, 4, .int .i64 a0_0)) 0 rfl rfl (hon 1 (by kernel_rfl)) rfl
                 have e8 : a.tmps[8]? = some (v108) := by rw [ha]; exact putSel_on (e := (5, 8, v108)) 3 rfl rfl (hon 5 (by kernel_rfl)) rfl
                 have e12 : a.tmps[12]? = some (v114) := by rw [ha]; exact putSel_on (e := (9, 12, v114)) 6 rfl rfl (hon 9 (by kernel_rfl)) rfl
                 have e16 : a.tmps[16]? = some (v120) := by rw [ha]; exact putSel_on (e := (13, 16, v120)) 9 rfl rfl (hon 13 (by kernel_rfl)) rfl
                 have e20 : a.tmps[20]? = some (v126) := by rw [ha]; exact putSel_on (e := (17, 20, v126)) 12 rfl rfl (hon 17 (by kernel_rfl)) rfl
                 have e24 : a.tmps[24]? = some (v132) := by rw [ha]; exact putSel_on (e := (21, 24, v132)) 15 rfl rfl (hon 21 (by kernel_rfl)) rfl
                 have e28 : a.tmps[28]? = some (v138) := by rw [ha]; exact putSel_on (e := (25, 28, v138)) 18 rfl rfl (hon 25 (by kernel_rfl)) rfl
                 have e30 : a.tmps[30]? = some (.int .i64 a0_7) := by rw [ha]; exact putSel_on (e := (27, 30, .int .i64 a0_7)) 19 rfl rfl (hon 27 (by kernel_rfl)) rfl
                 have e32 : a.tmps[32]? = some (.int .i64 a0_8) := by rw [ha]; exact putSel_on (e := (29, 32, .int .i64 a0_8)) 20 rfl rfl (hon 29 (by kernel_rfl)) rfl
                 have e34 : a.tmps[34]? = some (.int .i64 a0_9) := by rw [ha]; exact putSel_on (e := (31, 34, .int .i64 a0_9)) 21 rfl rfl (hon 31 (by kernel_rfl)) rfl
                 replace ha := Aside0.mk ha
                 have BK102 := Aside0.mk Q_BK102
                 have BK103 := Aside0.mk (Q_BK103 (hoff 33 (by kernel_rfl)))
                 have HB := Aside0.mk Q_HB
                 have HO109 := Aside0.mk (Q_HO109 (hon 5 (by kernel_rfl)))
                 have HO115 := Aside0.mk (Q_HO115 (hon 9 (by kernel_rfl)))
                 have HO121 := Aside0.mk (Q_HO121 (hon 13 (by kernel_rfl)))
                 have HO127 := Aside0.mk (Q_HO127 (hon 17 (by kernel_rfl)))
                 have HO133 := Aside0.mk (Q_HO133 (hon 21 (by kernel_rfl)))
                 have HO139 := Aside0.mk (Q_HO139 (hon 25 (by kernel_rfl)))
                 have DJ_v108_v114 := Aside0.mk (Q_DJ_v108_v114 (hon 5 (by kernel_rfl)) (hon 9 (by kernel_rfl)))
                 have DJ_v108_v120 := Aside0.mk (Q_DJ_v108_v120 (hon 5 (by kernel_rfl)) (hon 13 (by kernel_rfl)))
                 have DJ_v114_v120 := Aside0.mk (Q_DJ_v114_v120 (hon 9 (by kernel_rfl)) (hon 13 (by kernel_rfl)))
                 have DJ_v132_v138 := Aside0.mk (Q_DJ_v132_v138 (hon 21 (by kernel_rfl)) (hon 25 (by kernel_rfl)))
                 obtain ⟨Ao32_0, co32_0, eo_⟩ := Kd.R_slice HO109.out
                 subst eo_
                 obtain ⟨Ao32_1, co32_1, eo_⟩ := Kd.R_slice HO115.out
                 subst eo_
                 obtain ⟨Ao32_2, co32_2, eo_⟩ := Kd.R_slice HO121.out
                 subst eo_
                 obtain ⟨Ao32_3, co32_3, eo_⟩ := Kd.R_slice HO127.out
                 subst eo_
                 obtain ⟨Ao32_4, co32_4, eo_⟩ := Kd.R_slice HO133.out
                 subst eo_
                 obtain ⟨Ao32_5, co32_5, eo_⟩ := Kd.R_slice HO139.out
                 subst eo_
                 refine value_ (w1 := w') (v := .agg #[.int .i64 a0_0, .slice Ao32_0 y107.length co32_0, .slice Ao32_1 y113.length co32_1, .slice Ao32_2 y119.length co32_2, .slice Ao32_3 y125.length co32_3, .slice Ao32_4 y131.length co32_4, .slice Ao32_5 y137.length co32_5, .int .i64 a0_7, .int .i64 a0_8, .int .i64 a0_9]) (by rfl) rfl ?_ ?_
                 · go_simp
                   (try simp only [i64_w])
                   try rfl
                 refine hK.out _ _ ⟨v105, .slice Ao32_0 y107.length co32_0, v111, .slice Ao32_1 y113.length co32_1, v117, .slice Ao32_2 y119.length co32_2, v123, .slice Ao32_3 y125.length co32_3, v129, .slice Ao32_4 y131.length co32_4, v135, .slice Ao32_5 y137.length co32_5, (.agg #[.int .i64 a0_0, .slice Ao32_0 y107.length co32_0, .slice Ao32_1 y113.length co32_1, .slice Ao32_2 y119.length co32_2, .slice Ao32_3 y125.length co32_3, .slice Ao32_4 y131.length co32_4, .slice Ao32_5 y137.length co32_5, .int .i64 a0_7, .int .i64 a0_8, .int .i64 a0_9]), (by rw [ha.out]; exact putSel_upk 22 hb_ rfl rfl rfl), Q_BK102, Q_BK103, Q_HB, fun _ h1_ => absurd ((hon 5 (by kernel_rfl)).symm.trans h1_) (by decide), Q_HO109, fun _ h1_ => absurd ((hon 9 (by kernel_rfl)).symm.trans h1_) (by decide), Q_HO115, fun _ h1_ => absurd ((hon 13 (by kernel_rfl)).symm.trans h1_) (by decide), Q_HO121, fun _ h1_ => absurd ((hon 17 (by kernel_rfl)).symm.trans h1_) (by decide), Q_HO127, fun _ h1_ => absurd ((hon 21 (by kernel_rfl)).symm.trans h1_) (by decide), Q_HO133, fun _ h1_ => absurd ((hon 25 (by kernel_rfl)).symm.trans h1_) (by decide), Q_HO139, fun h0_ => absurd ((hoff 33 (by kernel_rfl)).symm.trans h0_) (by decide), fun _ _ h2_ _ => absurd ((hon 5 (by kernel_rfl)).symm.trans h2_) (by decide), fun _ _ h2_ _ => absurd ((hon 5 (by kernel_rfl)).symm.trans h2_) (by decide), fun _ _ h2_ => absurd ((hon 9 (by kernel_rfl)).symm.trans h2_) (by decide), Q_DJ_v108_v114, fun _ _ h2_ => absurd ((hon 13 (by kernel_rfl)).symm.trans h2_) (by decide), Q_DJ_v108_v120, fun _ _ h2_ _ => absurd ((hon 9 (by kernel_rfl)).symm.trans h2_) (by decide), fun _ _ h2_ => absurd ((hon 13 (by kernel_rfl)).symm.trans h2_) (by decide), Q_DJ_v114_v120, fun _ _ h2_ _ => absurd ((hon 21 (by kernel_rfl)).symm.trans h2_) (by decide), fun _ _ h2_ => absurd ((hon 25 (by kernel_rfl)).symm.trans h2_) (by decide), Q_DJ_v132_v138, fun _ => rfl⟩
               refine steps_cons ?_ ?_
               · rintro b a w' ⟨v105, v108, v111, v114, v117, v120, v123, v126, v129, v132, v135, v138, m32_, ha, Q_BK102, Q_BK103, Q_HB, Q_HO106, Q_HO109, Q_HO112, Q_HO115, Q_HO118, Q_HO121, Q_HO124, Q_HO127, Q_HO130, Q_HO133, Q_HO136, Q_HO139, Q_BK103_e33, Q_DJ_v105_v111, Q_DJ_v105_v117, Q_DJ_v108_v111, Q_DJ_v108_v114, Q_DJ_v108_v117, Q_DJ_v108_v120, Q_DJ_v111_v117, Q_DJ_v114_v117, Q_DJ_v114_v120, Q_DJ_v129_v135, Q_DJ_v132_v135, Q_DJ_v132_v138, Q_X32_⟩ hb_ hon hoff
                 refine ⟨_, rfl, fun K hK => ?_⟩
                 have e2 : a.tmps[2]? = some (.pointer (some ⟨gb103, 0, none⟩)) := by rw [ha]; exact (putSel_off rfl).trans rfl
                 have e35 : a.tmps[35]? = some (m32_) := by rw [ha]; exact putSel_on (e := (32, 35, m32_)) 22 rfl rfl (hon 32 (by kernel_rfl)) rfl
                 rw [Q_X32_ (hon 32 (by kernel_rfl))] at e35
                 replace ha := Aside0.mk ha
                 have BK102 := Aside0.mk Q_BK102
                 have BK103 := Aside0.mk (Q_BK103 hb_)
                 have HB := Aside0.mk Q_HB
                 have HO109 := Aside0.mk (Q_HO109 (hon 5 (by kernel_rfl)))
                 have HO115 := Aside0.mk (Q_HO115 (hon 9 (by kernel_rfl)))
                 have HO121 := Aside0.mk (Q_HO121 (hon 13 (by kernel_rfl)))
                 have HO127 := Aside0.mk (Q_HO127 (hon 17 (by kernel_rfl)))
                 have HO133 := Aside0.mk (Q_HO133 (hon 21 (by kernel_rfl)))
                 have HO139 := Aside0.mk (Q_HO139 (hon 25 (by kernel_rfl)))
                 have DJ_v108_v114 := Aside0.mk (Q_DJ_v108_v114 (hon 5 (by kernel_rfl)) (hon 9 (by kernel_rfl)))
                 have DJ_v108_v120 := Aside0.mk (Q_DJ_v108_v120 (hon 5 (by kernel_rfl)) (hon 13 (by kernel_rfl)))
                 have DJ_v114_v120 := Aside0.mk (Q_DJ_v114_v120 (hon 9 (by kernel_rfl)) (hon 13 (by kernel_rfl)))
                 have DJ_v132_v138 := Aside0.mk (Q_DJ_v132_v138 (hon 21 (by kernel_rfl)) (hon 25 (by kernel_rfl)))
                 obtain ⟨Ao36, co36, eo36⟩ := Kd.R_slice HO139.out
                 (first | subst eo36 | (injection eo36 with f1_ f2_ f3_; have f4_ := f1_.symm; have f5_ := f3_.symm; clear f1_ f2_ f3_; subst f4_; subst f5_))
                 obtain ⟨Ao37, co37, eo37⟩ := Kd.R_slice HO133.out
                 (first | subst eo37 | (injection eo37 with f1_ f2_ f3_; have f4_ := f1_.symm; have f5_ := f3_.symm; clear f1_ f2_ f3_; subst f4_; subst f5_))
                 obtain ⟨Ao38, co38, eo38⟩ := Kd.R_slice HO127.out
                 (first | subst eo38 | (injection eo38 with f1_ f2_ f3_; have f4_ := f1_.symm; have f5_ := f3_.symm; clear f1_ f2_ f3_; subst f4_; subst f5_))
                 obtain ⟨Ao39, co39, eo39⟩ := Kd.R_slice HO121.out
                 (first | subst eo39 | (injection eo39 with f1_ f2_ f3_; have f4_ := f1_.symm; have f5_ := f3_.symm; clear f1_ f2_ f3_; subst f4_; subst f5_))
                 obtain ⟨Ao40, co40, eo40⟩ := Kd.R_slice HO115.out
                 (first | subst eo40 | (injection eo40 with f1_ f2_ f3_; have f4_ := f1_.symm; have f5_ := f3_.symm; clear f1_ f2_ f3_; subst f4_; subst f5_))
                 obtain ⟨Ao41, co41, eo41⟩ := Kd.R_slice HO109.out
                 (first | subst eo41 | (injection eo41 with f1_ f2_ f3_; have f4_ := f1_.symm; have f5_ := f3_.symm; clear f1_ f2_ f3_; subst f4_; subst f5_))
                 have hs42 : w'.cell? ⟨gb103, 0, none⟩ = some (.int .i64 0) := (blk_cell BK103.out 0).trans rfl
                 have hfs42 := blk_frozen BK103.out 0
                 have hns42_0 := NB102_103.out
                 have hms42_0 := NB103_102.out
                 have hs43 : w'.cell? ⟨gb103, 1, none⟩ = some (.slice none 0 0) := (blk_cell BK103.out 1).trans rfl
                 have hfs43 := blk_frozen BK103.out 1
                 have hns43_0 := NB102_103.out
                 have hms43_0 := NB103_102.out
                 have hs44 : w'.cell? ⟨gb103, 2, none⟩ = some (.slice none 0 0) := (blk_cell BK103.out 2).trans rfl
                 have hfs44 := blk_frozen BK103.out 2
                 have hns44_0 := NB102_103.out
                 have hms44_0 := NB103_102.out
                 have hs45 : w'.cell? ⟨gb103, 3, none⟩ = some (.slice none 0 0) := (blk_cell BK103.out 3).trans rfl
                 have hfs45 := blk_frozen BK103.out 3
                 have hns45_0 := NB102_103.out
                 have hms45_0 := NB103_102.out
                 have hs46 : w'.cell? ⟨gb103, 4, none⟩ = some (.slice none 0 0) := (blk_cell BK103.out 4).trans rfl
                 have hfs46 := blk_frozen BK103.out 4
                 have hns46_0 := NB102_103.out
                 have hms46_0 := NB103_102.out
                 have hs47 : w'.cell? ⟨gb103, 5, none⟩ = some (.slice none 0 0) := (blk_cell BK103.out 5).trans rfl
                 have hfs47 := blk_frozen BK103.out 5
                 have hns47_0 := NB102_103.out
                 have hms47_0 := NB103_102.out
                 have hs48 : w'.cell? ⟨gb103, 6, none⟩ = some (.slice none 0 0) := (blk_cell BK103.out 6).trans rfl
                 have hfs48 := blk_frozen BK103.out 6
                 have hns48_0 := NB102_103.out
                 have hms48_0 := NB103_102.out
                 have hs49 : w'.cell? ⟨gb103, 7, none⟩ = some (.int .i64 0) := (blk_cell BK103.out 7).trans rfl
                 have hfs49 := blk_frozen BK103.out 7
                 have hns49_0 := NB102_103.out
                 have hms49_0 := NB103_102.out
                 have hs50 : w'.cell? ⟨gb103, 8, none⟩ = some (.int .i64 0) := (blk_cell BK103.out 8).trans rfl
                 have hfs50 := blk_frozen BK103.out 8
                 have hns50_0 := NB102_103.out
                 have hms50_0 := NB103_102.out
                 have hs51 : w'.cell? ⟨gb103, 9, none⟩ = some (.int .i64 0) := (blk_cell BK103.out 9).trans rfl
                 have hfs51 := blk_frozen BK103.out 9
                 have hns51_0 := NB102_103.out
                 have hms51_0 := NB103_102.out
                 refine skip_ (w1 := ?_) (by rfl) rfl ?_ ?_
                 rotate_left
                 · go_simp
                   rfl
                 refine hK.out _ _ ⟨v105, .slice Ao41 y107.length co41, v111, .slice Ao40 y113.length co40, v117, .slice Ao39 y119.length co39, v123, .slice Ao38 y125.length co38, v129, .slice Ao37 y131.length co37, v135, .slice Ao36 y137.length co36, m32_, (by rw [ha.out]; exact putSel_none (v := undef) rfl), (by (with_reducible repeat first | apply ba | apply bb | apply bc); refine blk_far ?_ NB102_103.out _; (with_reducible repeat first | apply ba | apply bb | apply bc); refine blk_far ?_ NB102_103.out _; (with_reducible repeat first | apply ba | apply bb | apply bc); refine blk_far ?_ NB102_103.out _; (with_reducible repeat first | apply ba | apply bb | apply bc); refine blk_far ?_ NB102_103.out _; (with_reducible repeat first | apply ba | apply bb | apply bc); refine blk_far ?_ NB102_103.out _; (with_reducible repeat first | apply ba | apply bb | apply bc); refine blk_far ?_ NB102_103.out _; (with_reducible repeat first | apply ba | apply bb | apply bc); refine blk_far ?_ NB102_103.out _; (with_reducible repeat first | apply ba | apply bb | apply bc); refine blk_far ?_ NB102_103.out _; (with_reducible repeat first | apply ba | apply bb | apply bc); refine blk_far ?_ NB102_103.out _; (with_reducible repeat first | apply ba | apply bb | apply bc); refine blk_far ?_ NB102_103.out _; (with_reducible repeat first | apply ba | apply bb | apply bc); exact BK102.out), fun h0_ => absurd ((up_self b 33).symm.trans h0_) (by decide), (by repeat (first | (with_reducible first | exact HB.out | apply below_alloc | apply pw_below_drewN | apply below_drew1 | refine below_set ?_ GE102.out | refine below_set ?_ GE103.out) | exact HB.out)), fun _ h1_ => absurd ((hon 5 (by kernel_rfl)).symm.trans h1_) (by decide), fun _ => (by (with_reducible repeat first | apply ra | apply rb | apply rc); exact Kd.R_mono (far10 gb103 (Kd.R_types HO109.out BK103.out (by decide)) (fun _ hk => hk.2)) (fun _ _ => trivial)), fun _ h1_ => absurd ((hon 9 (by kernel_rfl)).symm.trans h1_) (by decide), fun _ => (by (with_reducible repeat first | apply ra | apply rb | apply rc); exact Kd.R_mono (far10 gb103 (Kd.R_types HO115.out BK103.out (by decide)) (fun _ hk => hk.2)) (fun _ _ => trivial)), fun _ h1_ => absurd ((hon 13 (by kernel_rfl)).symm.trans h1_) (by decide), fun _ => (by (with_reducible repeat first | apply ra | apply rb | apply rc); exact Kd.R_mono (far10 gb103 (Kd.R_types HO121.out BK103.out (by decide)) (fun _ hk => hk.2)) (fun _ _ => trivial)), fun _ h1_ => absurd ((hon 17 (by kernel_rfl)).symm.trans h1_) (by decide), fun _ => (by (with_reducible repeat first | apply ra | apply rb | apply rc); exact Kd.R_mono (far10 gb103 (Kd.R_types HO127.out BK103.out (by decide)) (fun _ hk => hk.2)) (fun _ hk => trivial)), fun _ h1_ => absurd ((hon 21 (by kernel_rfl)).symm.trans h1_) (by decide), fun _ => (by (with_reducible repeat first | apply ra | apply rb | apply rc); exact Kd.R_mono (far10 gb103 (Kd.R_types HO133.out BK103.out (by decide)) (fun _ hk => hk.2)) (fun _ _ => trivial)), fun _ h1_ => absurd ((hon 25 (by kernel_rfl)).symm.trans h1_) (by decide), fun _ => (by (with_reducible repeat first | apply ra | apply rb | apply rc); exact Kd.R_mono (far10 gb103 (Kd.R_types HO139.out BK103.out (by decide)) (fun _ hk => hk.2)) (fun _ _ => trivial)), fun _ => (by (with_reducible repeat first | apply ba | apply bb | apply bc); refine blk_put (cs := #[.int .i64 a0_0, .slice Ao41 y107.length co41, .slice Ao40 y113.length co40, .slice Ao39 y119.length co39, .slice Ao38 y125.length co38, .slice Ao37 y131.length co37, .slice Ao36 y137.length co36, .int .i64 a0_7, .int .i64 a0_8, .int .i64 0]) ?_ 9 _ rfl; (with_reducible repeat first | apply ba | apply bb | apply bc); refine blk_put (cs := #[.int .i64 a0_0, .slice Ao41 y107.length co41, .slice Ao40 y113.length co40, .slice Ao39 y119.length co39, .slice Ao38 y125.length co38, .slice Ao37 y131.length co37, .slice Ao36 y137.length co36, .int .i64 a0_7, .int .i64 0, .int .i64 0]) ?_ 8 _ rfl; (with_reducible repeat first | apply ba | apply bb | apply bc); refine blk_put (cs := #[.int .i64 a0_0, .slice Ao41 y107.length co41, .slice Ao40 y113.length co40, .slice Ao39 y119.length co39, .slice Ao38 y125.length co38, .slice Ao37 y131.length co37, .slice Ao36 y137.length co36, .int .i64 0, .int .i64 0, .int .i64 0]) ?_ 7 _ rfl; (with_reducible repeat first | apply ba | apply bb | apply bc); refine blk_put (cs := #[.int .i64 a0_0, .slice Ao41 y107.length co41, .slice Ao40 y113.length co40, .slice Ao39 y119.length co39, .slice Ao38 y125.length co38, .slice Ao37 y131.length co37, .slice none 0 0, .int .i64 0, .int .i64 0, .int .i64 0]) ?_ 6 _ rfl; (with_reducible repeat first | apply ba | apply bb | apply bc); refine blk_put (cs := #[.int .i64 a0_0, .slice Ao41 y107.length co41, .slice Ao40 y113.length co40, .slice Ao39 y119.length co39, .slice Ao38 y125.length co38, .slice none 0 0, .slice none 0 0, .int .i64 0, .int .i64 0, .int .i64 0]) ?_ 5 _ rfl; (with_reducible repeat first | apply ba | apply bb | apply bc); refine blk_put (cs := #[.int .i64 a0_0, .slice Ao41 y107.length co41, .slice Ao40 y113.length co40, .slice Ao39 y119.length co39, .slice none 0 0, .slice none 0 0, .slice none 0 0, .int .i64 0, .int .i64 0, .int .i64 0]) ?_ 4 _ rfl; (with_reducible repeat first | apply ba | apply bb | apply bc); refine blk_put (cs := #[.int .i64 a0_0, .slice Ao41 y107.length co41, .slice Ao40 y113.length co40, .slice none 0 0, .slice none 0 0, .slice none 0 0, .slice none 0 0, .int .i64 0, .int .i64 0, .int .i64 0]) ?_ 3 _ rfl; (with_reducible repeat first | apply ba | apply bb | apply bc); refine blk_put (cs := #[.int .i64 a0_0, .slice Ao41 y107.length co41, .slice none 0 0, .slice none 0 0, .slice none 0 0, .slice none 0 0, .slice none 0 0, .int .i64 0, .int .i64 0, .int .i64 0]) ?_ 2 _ rfl; (with_reducible repeat first | apply ba | apply bb | apply bc); refine blk_put (cs := #[.int .i64 a0_0, .slice none 0 0, .slice none 0 0, .slice none 0 0, .slice none 0 0, .slice none 0 0, .slice none 0 0, .int .i64 0, .int .i64 0, .int .i64 0]) ?_ 1 _ rfl; (with_reducible repeat first | apply ba | apply bb | apply bc); refine blk_put (cs := #[.int .i64 0, .slice none 0 0, .slice none 0 0, .slice none 0 0, .slice none 0 0, .slice none 0 0, .slice none 0 0, .int .i64 0, .int .i64 0, .int .i64 0]) ?_ 0 _ rfl; (with_reducible repeat first | apply ba | apply bb | apply bc); exact BK103.out), fun _ _ h2_ _ => absurd ((hon 5 (by kernel_rfl)).symm.trans h2_) (by decide), fun _ _ h2_ _ => absurd ((hon 5 (by kernel_rfl)).symm.trans h2_) (by decide), fun _ _ h2_ => absurd ((hon 9 (by kernel_rfl)).symm.trans h2_) (by decide), Q_DJ_v108_v114, fun _ _ h2_ => absurd ((hon 13 (by kernel_rfl)).symm.trans h2_) (by decide), Q_DJ_v108_v120, fun _ _ h2_ _ => absurd ((hon 9 (by kernel_rfl)).symm.trans h2_) (by decide), fun _ _ h2_ => absurd ((hon 13 (by kernel_rfl)).symm.trans h2_) (by decide), Q_DJ_v114_v120, fun _ _ h2_ _ => absurd ((hon 21 (by kernel_rfl)).symm.trans h2_) (by decide), fun _ _ h2_ => absurd ((hon 25 (by kernel_rfl)).symm.trans h2_) (by decide), Q_DJ_v132_v138, Q_X32_⟩
               exact steps_nil
             rintro b a w45 hall ⟨v105, v108, v111, v114, v117, v120, v123, v126, v129, v132, v135, v138, m32_, ha, Q_BK102, Q_BK103, Q_HB, Q_HO106, Q_HO109, Q_HO112, Q_HO115, Q_HO118, Q_HO121, Q_HO124, Q_HO127, Q_HO130, Q_HO133, Q_HO136, Q_HO139, Q_BK103_e33, Q_DJ_v105_v111, Q_DJ_v105_v117, Q_DJ_v108_v111, Q_DJ_v108_v114, Q_DJ_v108_v117, Q_DJ_v108_v120, Q_DJ_v111_v117, Q_DJ_v114_v117, Q_DJ_v114_v120, Q_DJ_v129_v135, Q_DJ_v132_v135, Q_DJ_v132_v138, Q_X32_⟩
             clear BK102 BK103 HB
             have hb1_ := hall 1 (by kernel_rfl)
             have hb2_ := hall 2 (by kernel_rfl)
             have hb4_ := hall 4 (by kernel_rfl)
             have hb5_ := hall 5 (by kernel_rfl)
             have hb6_ := hall 6 (by kernel_rfl)
             have hb8_ := hall 8 (by kernel_rfl)
             have hb9_ := hall 9 (by kernel_rfl)
             have hb10_ := hall 10 (by kernel_rfl)
             have hb12_ := hall 12 (by kernel_rfl)
             have hb13_ := hall 13 (by kernel_rfl)
             have hb14_ := hall 14 (by kernel_rfl)
             have hb16_ := hall 16 (by kernel_rfl)
             have hb17_ := hall 17 (by kernel_rfl)
             have hb18_ := hall 18 (by kernel_rfl)
             have hb20_ := hall 20 (by kernel_rfl)
             have hb21_ := hall 21 (by kernel_rfl)
             have hb22_ := hall 22 (by kernel_rfl)
             have hb24_ := hall 24 (by kernel_rfl)
             have hb25_ := hall 25 (by kernel_rfl)
             have hb27_ := hall 27 (by kernel_rfl)
             have hb29_ := hall 29 (by kernel_rfl)
             have hb31_ := hall 31 (by kernel_rfl)
             have hb32_ := hall 32 (by kernel_rfl)
             have hb33_ := hall 33 (by kernel_rfl)
             subst ha
             obtain rfl := Q_X32_ hb32_
             simp only [putSel, hb1_, hb2_, hb4_, hb5_, hb6_, hb8_, hb9_, hb10_, hb12_, hb13_, hb14_, hb16_, hb17_, hb18_, hb20_, hb21_, hb22_, hb24_, hb25_, hb27_, hb29_, hb31_, hb32_, hb33_, if_true, Act.put, List.setIfInBounds_toArray, List.set_cons_zero, List.set_cons_succ]
             have BK102 := Aside0.mk Q_BK102
             clear Q_BK102
             clear Q_BK103
             have HB := Aside0.mk Q_HB
             clear Q_HB
             clear Q_HO106
             have HO109 := Aside0.mk (Q_HO109 hb5_)
             clear Q_HO109
             clear Q_HO112
             have HO115 := Aside0.mk (Q_HO115 hb9_)
             clear Q_HO115
             clear Q_HO118
             have HO121 := Aside0.mk (Q_HO121 hb13_)
             clear Q_HO121
             clear Q_HO124
             have HO127 := Aside0.mk (Q_HO127 hb17_)
             clear Q_HO127
             clear Q_HO130
             have HO133 := Aside0.mk (Q_HO133 hb21_)
             clear Q_HO133
             clear Q_HO136
             have HO139 := Aside0.mk (Q_HO139 hb25_)
             clear Q_HO139
             have BK103 := Aside0.mk (Q_BK103_e33 hb33_)
             clear Q_BK103_e33
             clear Q_DJ_v105_v111
             clear Q_DJ_v105_v117
             clear Q_DJ_v108_v111
             have DJ_v108_v114 := Aside0.mk (Q_DJ_v108_v114 hb5_ hb9_)
             clear Q_DJ_v108_v114
             clear Q_DJ_v108_v117
             have DJ_v108_v120 := Aside0.mk (Q_DJ_v108_v120 hb5_ hb13_)
             clear Q_DJ_v108_v120
             clear Q_DJ_v111_v117
             clear Q_DJ_v114_v117
             have DJ_v114_v120 := Aside0.mk (Q_DJ_v114_v120 hb9_ hb13_)
             clear Q_DJ_v114_v120
             clear Q_DJ_v129_v135
             clear Q_DJ_v132_v135
             have DJ_v132_v138 := Aside0.mk (Q_DJ_v132_v138 hb21_ hb25_)
             clear Q_DJ_v132_v138
             clear hall hb1_ hb2_ hb4_ hb5_ hb6_ hb8_ hb9_ hb10_ hb12_ hb13_ hb14_ hb16_ hb17_ hb18_ hb20_ hb21_ hb22_ hb24_ hb25_ hb27_ hb29_ hb31_ hb32_ hb33_
             obtain ⟨Ao46, co46, eo46⟩ := Kd.R_slice HO139.out
             (first | subst eo46 | (injection eo46 with f1_ f2_ f3_; have f4_ := f1_.symm; have f5_ := f3_.symm; clear f1_ f2_ f3_; subst f4_; subst f5_))
             obtain ⟨Ao47, co47, eo47⟩ := Kd.R_slice HO133.out
             (first | subst eo47 | (injection eo47 with f1_ f2_ f3_; have f4_ := f1_.symm; have f5_ := f3_.symm; clear f1_ f2_ f3_; subst f4_; subst f5_))
             obtain ⟨Ao48, co48, eo48⟩ := Kd.R_slice HO127.out
             (first | subst eo48 | (injection eo48 with f1_ f2_ f3_; have f4_ := f1_.symm; have f5_ := f3_.symm; clear f1_ f2_ f3_; subst f4_; subst f5_))
             obtain ⟨Ao49, co49, eo49⟩ := Kd.R_slice HO121.out
             (first | subst eo49 | (injection eo49 with f1_ f2_ f3_; have f4_ := f1_.symm; have f5_ := f3_.symm; clear f1_ f2_ f3_; subst f4_; subst f5_))
             obtain ⟨Ao50, co50, eo50⟩ := Kd.R_slice HO115.out
             (first | subst eo50 | (injection eo50 with f1_ f2_ f3_; have f4_ := f1_.symm; have f5_ := f3_.symm; clear f1_ f2_ f3_; subst f4_; subst f5_))
             obtain ⟨Ao51, co51, eo51⟩ := Kd.R_slice HO109.out
             (first | subst eo51 | (injection eo51 with f1_ f2_ f3_; have f4_ := f1_.symm; have f5_ := f3_.symm; clear f1_ f2_ f3_; subst f4_; subst f5_))
             try go_wp2
             refine bodyPost_ret (results_cell_row rfl _ _ gb103 54 #[.int .i64 a0_0, .slice Ao51 y107.length co51, .slice Ao50 y113.length co50, .slice Ao49 y119.length co49, .slice Ao48 y125.length co48, .slice Ao47 y131.length co47, .slice Ao46 y137.length co46, .int .i64 a0_7, .int .i64 a0_8, .int .i64 a0_9] (0, 0) _ rfl (by (with_reducible repeat first | apply ba | apply bb | apply bc); exact BK103.out) Try.underlying54 rfl (by kernel_rfl)) rfl ?_
             exact ⟨_, _, _, _, _, _, by first | rfl | (simp [errW_none, errW_some] <;> rfl) | (simp [*, errW_none, errW_some] <;> rfl), by (with_reducible repeat first | apply ra | apply rb | apply rc); exact Kd.R_reok rfl HO109.out (fun k_ hk => ⟨DJ_v108_v114.out k_ hk.symm, DJ_v108_v120.out k_ hk.symm⟩), by (with_reducible repeat first | apply ra | apply rb | apply rc); exact Kd.R_reok rfl HO115.out (fun k_ hk => ⟨fun e_ => DJ_v108_v114.out k_ e_ hk.symm, DJ_v114_v120.out k_ hk.symm⟩), by (with_reducible repeat first | apply ra | apply rb | apply rc); exact Kd.R_reok rfl HO121.out (fun k_ hk => ⟨fun e_ => DJ_v108_v120.out k_ e_ hk.symm, fun e_ => DJ_v114_v120.out k_ e_ hk.symm⟩), by (with_reducible repeat first | apply ra | apply rb | apply rc); exact HO127.out, by (with_reducible repeat first | apply ra | apply rb | apply rc); exact Kd.R_reok rfl HO133.out (fun k_ hk => DJ_v132_v138.out k_ hk.symm), by (with_reducible repeat first | apply ra | apply rb | apply rc); exact Kd.R_reok rfl HO139.out (fun k_ hk => (fun e_ => DJ_v132_v138.out k_ e_ hk.symm)), by repeat (first | (with_reducible first | exact HB.out | apply below_alloc | apply pw_below_drewN | apply below_drew1 | refine below_set ?_ GE102.out | refine below_set ?_ GE103.out) | exact HB.out)⟩
           · rw [if_neg c7] at H
             exact absurd H (by simp)
         · rw [if_neg c6] at H
           exact absurd H (by simp)
       · rw [if_neg c5] at H
         exact absurd H (by simp)
     · rw [if_neg c4] at H
       exact absurd H (by simp)
   · rw [if_neg c3] at H
     exact absurd H (by simp)
 · rw [if_neg c2] at H
   exact absurd H (by simp)

end Go.Proofs.Ytcllcjflgeiehaa.PCastPlays
