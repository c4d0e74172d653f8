/- Proved: the ways through patchbaylaw3_SackSays that return true, as a walk of its code. Condition: the printed function says true. -/
import Derived.Test.YtjiiejeldgkdiaaQP0
import Derived.Test.YtjiiejeldgkdiaaQP2
import Derived.Test.YtjiiejeldgkdiaaQSackA
import Derived.Test.YtjiiejeldgkdiaaQSackN
import Derived.Test.YtjiiejeldgkdiaaQSackX6
import Derived.Test.YtjiiejeldgkdiaaQSackX8
import Derived.Test.YtjiiejeldgkdiaaQSackX9
import Derived.Test.YtjiiejeldgkdiaaQSackLost
import Derived.Test.YtjiiejeldgkdiaaQSackX10
namespace Go.Proofs.Ytjiiejeldgkdiaa.PSackSays
open Go.RowKit Go.Proofs.YtjiiejeldgkdiaaW.PrintWords Go.Proofs.YtjiiejeldgkdiaaW.PrintLast Go.Proofs.YtjiiejeldgkdiaaW.PrintMore
attribute [local go_sem] max2_int min2_int max_two min_two max_three min_three max_four min_four   -- for this text's walks alone
set_option linter.unusedVariables false
set_option linter.unusedSimpArgs false

mutual
def patchbaylaw3_SackSays.j0 : Nat → List (S77) → Int → Int → Int → Int → List (S77) → Int → List (S77) → Int → List (S77) → List (S77) → List (S77) → Int → Int → Int → List (S77) → Int → Int → List (S77) → Int → Int → List (S77) → Option (Bool)
  | 0, _, _, _, _, _, _, _, _, _, _, _, _, _, _, _, _, _, _, _, _, _, _ => none
  | k + 1, x2, x4, x11, x13, x15, x16, x17, x18, x19, x20, x21, x22, x23, x289000, x289001, x289002, x298000, x298001, x298002, x305000, x305001, x305002 => patchbaylaw3_SackSays.l0 k x2 x4 x11 x13 x15 x16 x17 x18 x19 x20 x21 x22 x23 0 0 x289000 x289001 x289002 x298000 x298001 x298002 x305000 x305001 x305002
def patchbaylaw3_SackSays.l0 : Nat → List (S77) → Int → Int → Int → Int → List (S77) → Int → List (S77) → Int → List (S77) → List (S77) → List (S77) → Int → Int → Int → Int → Int → List (S77) → Int → Int → List (S77) → Int → Int → List (S77) → Option (Bool)
  | 0, _, _, _, _, _, _, _, _, _, _, _, _, _, _, _, _, _, _, _, _, _, _, _, _ => none
  | k + 1, x2, x4, x11, x13, x15, x16, x17, x18, x19, x20, x21, x22, x23, x24, x25, x289000, x289001, x289002, x298000, x298001, x298002, x305000, x305001, x305002 => if x25 < (x2.length : Int) then (patchbaylaw3_SackSays.j2 k x2 x4 x11 x13 x15 x16 x17 x18 x19 x20 x21 x22 x23 x24 x25 (x24 == 0) x289000 x289001 x289002 x298000 x298001 x298002 x305000 x305001 x305002) else (patchbaylaw3_SackSays.j2 k x2 x4 x11 x13 x15 x16 x17 x18 x19 x20 x21 x22 x23 x24 x25 false x289000 x289001 x289002 x298000 x298001 x298002 x305000 x305001 x305002)
def patchbaylaw3_SackSays.j2 : Nat → List (S77) → Int → Int → Int → Int → List (S77) → Int → List (S77) → Int → List (S77) → List (S77) → List (S77) → Int → Int → Int → Bool → Int → Int → List (S77) → Int → Int → List (S77) → Int → Int → List (S77) → Option (Bool)
  | 0, _, _, _, _, _, _, _, _, _, _, _, _, _, _, _, _, _, _, _, _, _, _, _, _, _ => none
  | k + 1, x2, x4, x11, x13, x15, x16, x17, x18, x19, x20, x21, x22, x23, x24, x25, x78, x289000, x289001, x289002, x298000, x298001, x298002, x305000, x305001, x305002 => if x78 = true then (if 0 ≤ x25 then (if x25 < (x2.length : Int) then ((patchbayref3_Diff.f ((rd_T77 x2 x25).f1) ((rd_T77 x2 x25).f0)).bind fun t321 => (if t321 ≤ 0 then (patchbaylaw3_SackSays.l0 k x2 x4 x11 x13 x15 x16 x17 x18 x19 x20 x21 x22 x23 10 (wrap64 (x25 + 1)) x289000 x289001 x289002 x298000 x298001 x298002 x305000 x305001 x305002) else (patchbaylaw3_SackSays.l0 k x2 x4 x11 x13 x15 x16 x17 x18 x19 x20 x21 x22 x23 x24 (wrap64 (x25 + 1)) x289000 x289001 x289002 x298000 x298001 x298002 x305000 x305001 x305002))) else (none)) else (none)) else (if (x2.length : Int) > 256 then (patchbaylaw3_SackSays.j3 k x2 x4 x11 x13 x15 x16 x17 x18 x19 x20 x21 x22 x23 2 x289000 x289001 x289002 x298000 x298001 x298002 x305000 x305001 x305002) else (patchbaylaw3_SackSays.j3 k x2 x4 x11 x13 x15 x16 x17 x18 x19 x20 x21 x22 x23 x24 x289000 x289001 x289002 x298000 x298001 x298002 x305000 x305001 x305002))
def patchbaylaw3_SackSays.j3 : Nat → List (S77) → Int → Int → Int → Int → List (S77) → Int → List (S77) → Int → List (S77) → List (S77) → List (S77) → Int → Int → Int → Int → List (S77) → Int → Int → List (S77) → Int → Int → List (S77) → Option (Bool)
  | 0, _, _, _, _, _, _, _, _, _, _, _, _, _, _, _, _, _, _, _, _, _, _, _ => none
  | k + 1, x2, x4, x11, x13, x15, x16, x17, x18, x19, x20, x21, x22, x23, x24, x289000, x289001, x289002, x298000, x298001, x298002, x305000, x305001, x305002 => if x24 = 0 then ((patchbayref3_Chosen.f k x2 x4).bind fun t322 => (patchbaylaw3_SackSays.j4 k x2 x4 x11 x13 x15 x16 x17 x18 x19 x20 x21 t322 x23 x24 x289000 x289001 x289002 x298000 x298001 x298002 x305000 x305001 x305002)) else (patchbaylaw3_SackSays.j4 k x2 x4 x11 x13 x15 x16 x17 x18 x19 x20 x21 x22 x23 x24 x289000 x289001 x289002 x298000 x298001 x298002 x305000 x305001 x305002)
def patchbaylaw3_SackSays.j4 : Nat → List (S77) → Int → Int → Int → Int → List (S77) → Int → List (S77) → Int → List (S77) → List (S77) → List (S77) → Int → Int → Int → Int → List (S77) → Int → Int → List (S77) → Int → Int → List (S77) → Option (Bool)
  | 0, _, _, _, _, _, _, _, _, _, _, _, _, _, _, _, _, _, _, _, _, _, _, _ => none
  | k + 1, x2, x4, x11, x13, x15, x16, x17, x18, x19, x20, x21, x22, x23, x24, x289000, x289001, x289002, x298000, x298001, x298002, x305000, x305001, x305002 => (sack_Choose.f k x2 x4).bind fun bt325 => ((sack_Check.f k x289000 x289001 x289002).bind fun t329 => (if t329 = x11 then ((patchbayref3_SameScore.f k x305000 x305001 x305002 x298000 x298001 x298002).bind fun t330 => (if t330 = true then ((patchbayref3_SameBlocks.f k x16 x20).bind fun t331 => (if t331 = true then (if x17 = x11 then ((patchbayref3_SameBlocks.f k x18 x21).bind fun t332 => (if t332 = true then (if x15 = x13 then (if x19 = x23 then ((patchbayref3_SameBlocks.f k bt325.1 x22).bind fun t333 => (if t333 = true then (some (bt325.2 == x24)) else (some false))) else (some false)) else (some false)) else (if x15 = x13 then (some false) else (some false)))) else (if x15 = x13 then (some false) else (some false))) else (if x15 = x13 then (some false) else (some false)))) else ((patchbayref3_SameBlocks.f k x16 x20).bind fun t334 => (if t334 = true then (if x17 = x11 then ((patchbayref3_SameBlocks.f k x18 x21).bind fun t335 => (if t335 = true then (some false) else (some false))) else (some false)) else (some false))))) else ((patchbayref3_SameBlocks.f k x16 x20).bind fun t336 => (if t336 = true then (if x17 = x11 then ((patchbayref3_SameBlocks.f k x18 x21).bind fun t337 => (if t337 = true then (some false) else (some false))) else (some false)) else (some false)))))
end
def patchbaylaw3_SackSays.f (k : Nat) (a0_0 : Int) (a0_1 : Int) (l0_2 : List (S77)) (a1 : Int) (l2 : List (S77)) (a3 : Int) (a4 : Int) : Option (Bool) := (patchbaylaw3_sackFact.f k).bind fun t289 => (if t289 = true then ((patchbayref3_ScoreFault.f k a0_0 a0_1 l0_2).bind fun t290 => ((patchbayref3_ScoreAdd.f k a0_0 a0_1 l0_2 a1 l2).bind fun bt291 => ((sack_Add.f k a0_0 a0_1 l0_2 a1 l2).bind fun bt298 => ((sack_Holes.f k a0_0 a0_1 l0_2).bind fun bt305 => ((sack_Lost.f k a0_0 a0_1 l0_2 a3).bind fun bt309 => (if t290 = 0 then ((patchbayref3_Holes.f k a0_0 a0_1 l0_2).bind fun t313 => (if a3 < 1 then (patchbaylaw3_SackSays.j0 k l2 a4 t290 bt291.2.2.2 bt298.2.2.2 bt305.1 bt305.2 bt309.1 bt309.2 t313 ([] : List (S77)) ([] : List (S77)) 1 a0_0 a0_1 l0_2 bt291.1 bt291.2.1 bt291.2.2.1 bt298.1 bt298.2.1 bt298.2.2.1) else ((patchbayref3_Lost.f k a0_0 a0_1 l0_2 a3).bind fun t316 => (patchbaylaw3_SackSays.j0 k l2 a4 t290 bt291.2.2.2 bt298.2.2.2 bt305.1 bt305.2 bt309.1 bt309.2 t313 t316 ([] : List (S77)) t290 a0_0 a0_1 l0_2 bt291.1 bt291.2.1 bt291.2.2.1 bt298.1 bt298.2.1 bt298.2.2.1)))) else (patchbaylaw3_SackSays.j0 k l2 a4 t290 bt291.2.2.2 bt298.2.2.2 bt305.1 bt305.2 bt309.1 bt309.2 ([] : List (S77)) ([] : List (S77)) ([] : List (S77)) t290 a0_0 a0_1 l0_2 bt291.1 bt291.2.1 bt291.2.2.1 bt298.1 bt298.2.1 bt298.2.2.1))))))) else (some false))
set_option maxHeartbeats 8000000 in
set_option maxRecDepth 100000 in
theorem patchbaylaw3_SackSays.calls (k : Nat) (a0_0 : Int) (n0 : Int) (a0_1 : Int) (A0_2 : Option Addr) (c0_2 : Nat) (l0_2 : List (S77)) (a1 : Int) (A2 : Option Addr) (c2 : Nat) (l2 : List (S77)) (a3 : Int) (a4 : Int) (r : Bool) (w : World) (hn : patchbaylaw3_near.f a0_0 n0 = some a0_1) (hr0_2 : Kd.C k77 w A0_2 l0_2.length l0_2) (hc0_2 : l0_2.length ≤ c0_2) (hr2 : Kd.C k77 w A2 l2.length l2) (hc2 : l2.length ≤ c2) (h : patchbaylaw3_SackSays.f k a0_0 a0_1 l0_2 a1 l2 a3 a4 = some r) (hr : r = true) :
    Calls Try.prog 7 #[.agg #[.int .u32 a0_0, .int .u32 n0, .slice A0_2 l0_2.length c0_2], .int .u32 a1, .slice A2 l2.length c2, .int .i64 a3, .int .u32 a4] w fun e w' => e = .returned (.bool r) ∧ Below w.heap.size w w' := by
  have HR := Aside0.mk hr
  clear hr
  have hu66 := Try.underlying66
  have HR0_2 := Aside0.mk hr0_2
  have HC0_2 := Aside0.mk hc0_2
  clear hr0_2 hc0_2
  have HR2 := Aside0.mk hr2
  have HC2 := Aside0.mk hc2
  clear hr2 hc2
  have HB := Aside0.mk (Below.refl w.heap.size w)
  have H : ((patchbaylaw3_sackFact.f k).bind fun t289 => (if t289 = true then ((patchbayref3_ScoreFault.f k a0_0 a0_1 l0_2).bind fun t290 => ((patchbayref3_ScoreAdd.f k a0_0 a0_1 l0_2 a1 l2).bind fun bt291 => ((sack_Add.f k a0_0 a0_1 l0_2 a1 l2).bind fun bt298 => ((sack_Holes.f k a0_0 a0_1 l0_2).bind fun bt305 => ((sack_Lost.f k a0_0 a0_1 l0_2 a3).bind fun bt309 => (if t290 = 0 then ((patchbayref3_Holes.f k a0_0 a0_1 l0_2).bind fun t313 => (if a3 < 1 then (patchbaylaw3_SackSays.j0 k l2 a4 t290 bt291.2.2.2 bt298.2.2.2 bt305.1 bt305.2 bt309.1 bt309.2 t313 ([] : List (S77)) ([] : List (S77)) 1 a0_0 a0_1 l0_2 bt291.1 bt291.2.1 bt291.2.2.1 bt298.1 bt298.2.1 bt298.2.2.1) else ((patchbayref3_Lost.f k a0_0 a0_1 l0_2 a3).bind fun t316 => (patchbaylaw3_SackSays.j0 k l2 a4 t290 bt291.2.2.2 bt298.2.2.2 bt305.1 bt305.2 bt309.1 bt309.2 t313 t316 ([] : List (S77)) t290 a0_0 a0_1 l0_2 bt291.1 bt291.2.1 bt291.2.2.1 bt298.1 bt298.2.1 bt298.2.2.1)))) else (patchbaylaw3_SackSays.j0 k l2 a4 t290 bt291.2.2.2 bt298.2.2.2 bt305.1 bt305.2 bt309.1 bt309.2 ([] : List (S77)) ([] : List (S77)) ([] : List (S77)) t290 a0_0 a0_1 l0_2 bt291.1 bt291.2.1 bt291.2.2.1 bt298.1 bt298.2.1 bt298.2.2.1))))))) else (some false))) = some r := h
  clear h
  replace H := Option.bind_eq_some_iff.mp H
  obtain ⟨t289, A60, H⟩ := H
  replace H : (if t289 = true then ((patchbayref3_ScoreFault.f k a0_0 a0_1 l0_2).bind fun t290 => ((patchbayref3_ScoreAdd.f k a0_0 a0_1 l0_2 a1 l2).bind fun bt291 => ((sack_Add.f k a0_0 a0_1 l0_2 a1 l2).bind fun bt298 => ((sack_Holes.f k a0_0 a0_1 l0_2).bind fun bt305 => ((sack_Lost.f k a0_0 a0_1 l0_2 a3).bind fun bt309 => (if t290 = 0 then ((patchbayref3_Holes.f k a0_0 a0_1 l0_2).bind fun t313 => (if a3 < 1 then (patchbaylaw3_SackSays.j0 k l2 a4 t290 bt291.2.2.2 bt298.2.2.2 bt305.1 bt305.2 bt309.1 bt309.2 t313 ([] : List (S77)) ([] : List (S77)) 1 a0_0 a0_1 l0_2 bt291.1 bt291.2.1 bt291.2.2.1 bt298.1 bt298.2.1 bt298.2.2.1) else ((patchbayref3_Lost.f k a0_0 a0_1 l0_2 a3).bind fun t316 => (patchbaylaw3_SackSays.j0 k l2 a4 t290 bt291.2.2.2 bt298.2.2.2 bt305.1 bt305.2 bt309.1 bt309.2 t313 t316 ([] : List (S77)) t290 a0_0 a0_1 l0_2 bt291.1 bt291.2.1 bt291.2.2.1 bt298.1 bt298.2.1 bt298.2.2.1)))) else (patchbaylaw3_SackSays.j0 k l2 a4 t290 bt291.2.2.2 bt298.2.2.2 bt305.1 bt305.2 bt309.1 bt309.2 ([] : List (S77)) ([] : List (S77)) ([] : List (S77)) t290 a0_0 a0_1 l0_2 bt291.1 bt291.2.1 bt291.2.2.1 bt298.1 bt298.2.1 bt298.2.2.1))))))) else (some false)) = some r := H
  have A6 := Aside0.mk A60
  clear A60
  by_cases c7 : t289 = true
  · subst c7
    have H1 : ((patchbayref3_ScoreFault.f k a0_0 a0_1 l0_2).bind fun t290 => ((patchbayref3_ScoreAdd.f k a0_0 a0_1 l0_2 a1 l2).bind fun bt291 => ((sack_Add.f k a0_0 a0_1 l0_2 a1 l2).bind fun bt298 => ((sack_Holes.f k a0_0 a0_1 l0_2).bind fun bt305 => ((sack_Lost.f k a0_0 a0_1 l0_2 a3).bind fun bt309 => (if t290 = 0 then ((patchbayref3_Holes.f k a0_0 a0_1 l0_2).bind fun t313 => (if a3 < 1 then (patchbaylaw3_SackSays.j0 k l2 a4 t290 bt291.2.2.2 bt298.2.2.2 bt305.1 bt305.2 bt309.1 bt309.2 t313 ([] : List (S77)) ([] : List (S77)) 1 a0_0 a0_1 l0_2 bt291.1 bt291.2.1 bt291.2.2.1 bt298.1 bt298.2.1 bt298.2.2.1) else ((patchbayref3_Lost.f k a0_0 a0_1 l0_2 a3).bind fun t316 => (patchbaylaw3_SackSays.j0 k l2 a4 t290 bt291.2.2.2 bt298.2.2.2 bt305.1 bt305.2 bt309.1 bt309.2 t313 t316 ([] : List (S77)) t290 a0_0 a0_1 l0_2 bt291.1 bt291.2.1 bt291.2.2.1 bt298.1 bt298.2.1 bt298.2.2.1)))) else (patchbaylaw3_SackSays.j0 k l2 a4 t290 bt291.2.2.2 bt298.2.2.2 bt305.1 bt305.2 bt309.1 bt309.2 ([] : List (S77)) ([] : List (S77)) ([] : List (S77)) t290 a0_0 a0_1 l0_2 bt291.1 bt291.2.1 bt291.2.2.1 bt298.1 bt298.2.1 bt298.2.2.1))))))) = some r := by rw [if_pos rfl] at H; exact H
    clear H
    have H := H1
    clear H1
    replace H := Option.bind_eq_some_iff.mp H
    obtain ⟨t290, A80, H⟩ := H
    replace H : ((patchbayref3_ScoreAdd.f k a0_0 a0_1 l0_2 a1 l2).bind fun bt291 => ((sack_Add.f k a0_0 a0_1 l0_2 a1 l2).bind fun bt298 => ((sack_Holes.f k a0_0 a0_1 l0_2).bind fun bt305 => ((sack_Lost.f k a0_0 a0_1 l0_2 a3).bind fun bt309 => (if t290 = 0 then ((patchbayref3_Holes.f k a0_0 a0_1 l0_2).bind fun t313 => (if a3 < 1 then (patchbaylaw3_SackSays.j0 k l2 a4 t290 bt291.2.2.2 bt298.2.2.2 bt305.1 bt305.2 bt309.1 bt309.2 t313 ([] : List (S77)) ([] : List (S77)) 1 a0_0 a0_1 l0_2 bt291.1 bt291.2.1 bt291.2.2.1 bt298.1 bt298.2.1 bt298.2.2.1) else ((patchbayref3_Lost.f k a0_0 a0_1 l0_2 a3).bind fun t316 => (patchbaylaw3_SackSays.j0 k l2 a4 t290 bt291.2.2.2 bt298.2.2.2 bt305.1 bt305.2 bt309.1 bt309.2 t313 t316 ([] : List (S77)) t290 a0_0 a0_1 l0_2 bt291.1 bt291.2.1 bt291.2.2.1 bt298.1 bt298.2.1 bt298.2.2.1)))) else (patchbaylaw3_SackSays.j0 k l2 a4 t290 bt291.2.2.2 bt298.2.2.2 bt305.1 bt305.2 bt309.1 bt309.2 ([] : List (S77)) ([] : List (S77)) ([] : List (S77)) t290 a0_0 a0_1 l0_2 bt291.1 bt291.2.1 bt291.2.2.1 bt298.1 bt298.2.1 bt298.2.2.1)))))) = some r := H
    have A8 := Aside0.mk A80
    clear A80
    replace H := Option.bind_eq_some_iff.mp H
    obtain ⟨⟨t291, t292, t293, t296⟩, A90, H⟩ := H
    replace H : ((sack_Add.f k a0_0 a0_1 l0_2 a1 l2).bind fun bt298 => ((sack_Holes.f k a0_0 a0_1 l0_2).bind fun bt305 => ((sack_Lost.f k a0_0 a0_1 l0_2 a3).bind fun bt309 => (if t290 = 0 then ((patchbayref3_Holes.f k a0_0 a0_1 l0_2).bind fun t313 => (if a3 < 1 then (patchbaylaw3_SackSays.j0 k l2 a4 t290 t296 bt298.2.2.2 bt305.1 bt305.2 bt309.1 bt309.2 t313 ([] : List (S77)) ([] : List (S77)) 1 a0_0 a0_1 l0_2 t291 t292 t293 bt298.1 bt298.2.1 bt298.2.2.1) else ((patchbayref3_Lost.f k a0_0 a0_1 l0_2 a3).bind fun t316 => (patchbaylaw3_SackSays.j0 k l2 a4 t290 t296 bt298.2.2.2 bt305.1 bt305.2 bt309.1 bt309.2 t313 t316 ([] : List (S77)) t290 a0_0 a0_1 l0_2 t291 t292 t293 bt298.1 bt298.2.1 bt298.2.2.1)))) else (patchbaylaw3_SackSays.j0 k l2 a4 t290 t296 bt298.2.2.2 bt305.1 bt305.2 bt309.1 bt309.2 ([] : List (S77)) ([] : List (S77)) ([] : List (S77)) t290 a0_0 a0_1 l0_2 t291 t292 t293 bt298.1 bt298.2.1 bt298.2.2.1))))) = some r := H
    have A9 := Aside0.mk A90
    clear A90
    replace H := Option.bind_eq_some_iff.mp H
    obtain ⟨⟨t298, t299, t300, t303⟩, A100, H⟩ := H
    replace H : ((sack_Holes.f k a0_0 a0_1 l0_2).bind fun bt305 => ((sack_Lost.f k a0_0 a0_1 l0_2 a3).bind fun bt309 => (if t290 = 0 then ((patchbayref3_Holes.f k a0_0 a0_1 l0_2).bind fun t313 => (if a3 < 1 then (patchbaylaw3_SackSays.j0 k l2 a4 t290 t296 t303 bt305.1 bt305.2 bt309.1 bt309.2 t313 ([] : List (S77)) ([] : List (S77)) 1 a0_0 a0_1 l0_2 t291 t292 t293 t298 t299 t300) else ((patchbayref3_Lost.f k a0_0 a0_1 l0_2 a3).bind fun t316 => (patchbaylaw3_SackSays.j0 k l2 a4 t290 t296 t303 bt305.1 bt305.2 bt309.1 bt309.2 t313 t316 ([] : List (S77)) t290 a0_0 a0_1 l0_2 t291 t292 t293 t298 t299 t300)))) else (patchbaylaw3_SackSays.j0 k l2 a4 t290 t296 t303 bt305.1 bt305.2 bt309.1 bt309.2 ([] : List (S77)) ([] : List (S77)) ([] : List (S77)) t290 a0_0 a0_1 l0_2 t291 t292 t293 t298 t299 t300)))) = some r := H
    have A10 := Aside0.mk A100
    clear A100
    replace H := Option.bind_eq_some_iff.mp H
    obtain ⟨⟨t305, t308⟩, A110, H⟩ := H
    replace H : ((sack_Lost.f k a0_0 a0_1 l0_2 a3).bind fun bt309 => (if t290 = 0 then ((patchbayref3_Holes.f k a0_0 a0_1 l0_2).bind fun t313 => (if a3 < 1 then (patchbaylaw3_SackSays.j0 k l2 a4 t290 t296 t303 t305 t308 bt309.1 bt309.2 t313 ([] : List (S77)) ([] : List (S77)) 1 a0_0 a0_1 l0_2 t291 t292 t293 t298 t299 t300) else ((patchbayref3_Lost.f k a0_0 a0_1 l0_2 a3).bind fun t316 => (patchbaylaw3_SackSays.j0 k l2 a4 t290 t296 t303 t305 t308 bt309.1 bt309.2 t313 t316 ([] : List (S77)) t290 a0_0 a0_1 l0_2 t291 t292 t293 t298 t299 t300)))) else (patchbaylaw3_SackSays.j0 k l2 a4 t290 t296 t303 t305 t308 bt309.1 bt309.2 ([] : List (S77)) ([] : List (S77)) ([] : List (S77)) t290 a0_0 a0_1 l0_2 t291 t292 t293 t298 t299 t300))) = some r := H
    have A11 := Aside0.mk A110
    clear A110
    replace H := Option.bind_eq_some_iff.mp H
    obtain ⟨⟨t309, t312⟩, A120, H⟩ := H
    replace H : (if t290 = 0 then ((patchbayref3_Holes.f k a0_0 a0_1 l0_2).bind fun t313 => (if a3 < 1 then (patchbaylaw3_SackSays.j0 k l2 a4 t290 t296 t303 t305 t308 t309 t312 t313 ([] : List (S77)) ([] : List (S77)) 1 a0_0 a0_1 l0_2 t291 t292 t293 t298 t299 t300) else ((patchbayref3_Lost.f k a0_0 a0_1 l0_2 a3).bind fun t316 => (patchbaylaw3_SackSays.j0 k l2 a4 t290 t296 t303 t305 t308 t309 t312 t313 t316 ([] : List (S77)) t290 a0_0 a0_1 l0_2 t291 t292 t293 t298 t299 t300)))) else (patchbaylaw3_SackSays.j0 k l2 a4 t290 t296 t303 t305 t308 t309 t312 ([] : List (S77)) ([] : List (S77)) ([] : List (S77)) t290 a0_0 a0_1 l0_2 t291 t292 t293 t298 t299 t300)) = some r := H
    have A12 := Aside0.mk A120
    clear A120
    have HC13 := Aside0.mk H
    clear H
    have NN := Aside0.mk hn
    clear hn
    go_enter Try.func7, Try.ntmps7
    go_upto_region 4 with (first | ((with_reducible refine gate_dst (N := 5) rfl ?_); refine box_event ?hg (N := 5) ?hd (cs := #[.int .u32 a0_0, .int .u32 n0, .slice A0_2 l0_2.length c0_2]) (t := 66) ?hr ?_; (case hd => rfl); (case hg => rfl); (case hr => first | (go_simp; done) | (go_simp; rfl)); intro gb288 hg w14 hbox hb; have n0_ := Aside0.mk (below_step (by repeat (first | (with_reducible first | exact HB.out | apply below_alloc | apply pw_below_drewN | apply below_drew1) | exact HB.out)) hb); have n1_ := Aside0.mk (hbox); have n2_ := Aside0.mk ((by rw [hg]; exact (below_size (by repeat (first | (with_reducible first | exact HB.out | apply below_alloc | apply pw_below_drewN | apply below_drew1) | exact HB.out))) : w.heap.size ≤ gb288)); have n3_ := Aside0.mk ((by rw [hg]; exact (below_size (by repeat (first | (with_reducible first | exact HB.out | apply below_alloc | apply pw_below_drewN | apply below_drew1) | exact HB.out))) : w.heap.size ≤ gb288)); clear HB; have HB := n0_; have BK288 := n1_; have GW288 := n2_; have GE288 := n3_; clear n0_ n1_ n2_ n3_; clear hb hbox hg) | (go_at_call 41; (with_reducible refine (patchbaylaw3_sackFact.calls k  true _ A6.out).mono ?_); rintro e w15 ⟨rfl, hb⟩; have n0_ := Aside0.mk (blk_below (g := gb288) (o := .cells #[.int .u32 a0_0, .int .u32 n0, .slice A0_2 l0_2.length c0_2] 66 (0, 0)) (by (with_reducible repeat (first | refine blk_drewN ?_ _ | refine blk_drew ?_ | refine blk_alloc ?_ _)); exact BK288.out) hb); have n1_ := Aside0.mk (below_step (by repeat (first | (with_reducible first | exact HB.out | apply below_alloc | apply pw_below_drewN | apply below_drew1 | refine below_set ?_ GE288.out) | exact HB.out)) hb); clear BK288; clear HB; have BK288 := n0_; have HB := n1_; clear n0_ n1_; (try clear hb); (try clear hb2); (try clear hk); (try clear hi); have hcz16_0 : w15.cell? ⟨gb288, 0, none⟩ = some (.int .u32 a0_0) := (blk_cell BK288.out 0).trans rfl; have hcz16_1 : w15.cell? ⟨gb288, 1, none⟩ = some (.int .u32 n0) := (blk_cell BK288.out 1).trans rfl; have hcz16_2 : w15.cell? ⟨gb288, 2, none⟩ = some (.slice A0_2 l0_2.length c0_2) := (blk_cell BK288.out 2).trans rfl; have hfz16_0 := blk_frozen BK288.out 0; have hfz16_1 := blk_frozen BK288.out 1; have hfz16_2 := blk_frozen BK288.out 2) | (go_at_call 42; (with_reducible refine (patchbaylaw3_near.calls a0_0 n0 _ _ _ a0_1 _ NN.out).mono ?_); rintro e w17 ⟨rfl, hb⟩; have n0_ := Aside0.mk (blk_below (g := gb288) (o := .cells #[.int .u32 a0_0, .int .u32 n0, .slice A0_2 l0_2.length c0_2] 66 (0, 0)) (by (with_reducible repeat (first | refine blk_drewN ?_ _ | refine blk_drew ?_ | refine blk_alloc ?_ _)); exact BK288.out) hb); have n1_ := Aside0.mk (below_step (by repeat (first | (with_reducible first | exact HB.out | apply below_alloc | apply pw_below_drewN | apply below_drew1 | refine below_set ?_ GE288.out) | exact HB.out)) hb); clear BK288; clear HB; have BK288 := n0_; have HB := n1_; clear n0_ n1_; (try clear hb); (try clear hb2); (try clear hk); (try clear hi); have hcz18_0 : w17.cell? ⟨gb288, 0, none⟩ = some (.int .u32 a0_0) := (blk_cell BK288.out 0).trans rfl; have hcz18_1 : w17.cell? ⟨gb288, 1, none⟩ = some (.int .u32 n0) := (blk_cell BK288.out 1).trans rfl; have hcz18_2 : w17.cell? ⟨gb288, 2, none⟩ = some (.slice A0_2 l0_2.length c0_2) := (blk_cell BK288.out 2).trans rfl; have hfz18_0 := blk_frozen BK288.out 0; have hfz18_1 := blk_frozen BK288.out 1; have hfz18_2 := blk_frozen BK288.out 2))
    generalize hq_ : World.setCell _ ⟨gb288, 2, none⟩ _ = wS
    have n0_ : Aside0 (wS.heap[gb288]? = some (.cells #[.int .u32 a0_0, .int .u32 a0_1, .slice A0_2 l0_2.length c0_2] 66 (0, 0))) := ⟨by rw [← hq_]; refine blk_put (cs := #[.int .u32 a0_0, .int .u32 a0_1, .slice A0_2 l0_2.length c0_2]) ?_ 2 _ rfl; (with_reducible repeat (first | refine blk_drewN ?_ _ | refine blk_drew ?_ | refine blk_alloc ?_ _)); refine blk_put (cs := #[.int .u32 a0_0, .int .u32 n0, .slice A0_2 l0_2.length c0_2]) ?_ 1 _ rfl; (with_reducible repeat (first | refine blk_drewN ?_ _ | refine blk_drew ?_ | refine blk_alloc ?_ _)); refine blk_put (cs := #[.int .u32 a0_0, .int .u32 n0, .slice A0_2 l0_2.length c0_2]) ?_ 0 _ rfl; (with_reducible repeat (first | refine blk_drewN ?_ _ | refine blk_drew ?_ | refine blk_alloc ?_ _)); exact BK288.out⟩
    have n1_ : Aside0 (Below w.heap.size w wS) := ⟨by rw [← hq_]; exact (by repeat (first | (with_reducible first | exact HB.out | apply below_alloc | apply pw_below_drewN | apply below_drew1 | refine below_set ?_ GE288.out) | exact HB.out))⟩
    clear BK288 HB hq_
    have BK288 := n0_
    have HB := n1_
    clear n0_ n1_
    have hczS_0 : wS.cell? ⟨gb288, 0, none⟩ = some (.int .u32 a0_0) := (blk_cell BK288.out 0).trans rfl
    have hczS_1 : wS.cell? ⟨gb288, 1, none⟩ = some (.int .u32 a0_1) := (blk_cell BK288.out 1).trans rfl
    have hczS_2 : wS.cell? ⟨gb288, 2, none⟩ = some (.slice A0_2 l0_2.length c0_2) := (blk_cell BK288.out 2).trans rfl
    have hfzS_0 := blk_frozen BK288.out 0
    have hfzS_1 := blk_frozen BK288.out 1
    have hfzS_2 := blk_frozen BK288.out 2
    go_upto_if 63 with (first | (go_at_call 43; (with_reducible refine (patchbayref3_ScoreFault.calls k a0_0 a0_1 _ _ l0_2 t290 _ ?side1 ?side2 A8.out).mono ?_); (case side1 => repeat (first | exact (Kd.C_below HR0_2.out HB.out) | (with_reducible refine Kd.C_alloc ?_ _) | (with_reducible refine Kd.C_drewN ?_ _) | (with_reducible refine Kd.C_drew ?_))); (case side2 => exact HC0_2.out); rintro e w17 ⟨rfl, hb⟩; have n0_ := Aside0.mk (blk_below (g := gb288) (o := .cells #[.int .u32 a0_0, .int .u32 a0_1, .slice A0_2 l0_2.length c0_2] 66 (0, 0)) (by (with_reducible repeat (first | refine blk_drewN ?_ _ | refine blk_drew ?_ | refine blk_alloc ?_ _)); exact BK288.out) hb); have n1_ := Aside0.mk (below_step (by repeat (first | (with_reducible first | exact HB.out | apply below_alloc | apply pw_below_drewN | apply below_drew1 | refine below_set ?_ GE288.out) | exact HB.out)) hb); clear BK288; clear HB; have BK288 := n0_; have HB := n1_; clear n0_ n1_; (try clear hb); (try clear hb2); (try clear hk); (try clear hi); have hcz18_0 : w17.cell? ⟨gb288, 0, none⟩ = some (.int .u32 a0_0) := (blk_cell BK288.out 0).trans rfl; have hcz18_1 : w17.cell? ⟨gb288, 1, none⟩ = some (.int .u32 a0_1) := (blk_cell BK288.out 1).trans rfl; have hcz18_2 : w17.cell? ⟨gb288, 2, none⟩ = some (.slice A0_2 l0_2.length c0_2) := (blk_cell BK288.out 2).trans rfl; have hfz18_0 := blk_frozen BK288.out 0; have hfz18_1 := blk_frozen BK288.out 1; have hfz18_2 := blk_frozen BK288.out 2) | (go_at_call 44; (with_reducible refine (patchbayref3_ScoreAdd.calls k a0_0 a0_1 _ _ l0_2 a1 _ _ l2 t291 t292 t293 t296 _ ?side1 ?side2 ?side3 ?side4 A9.out).mono ?_); (case side1 => repeat (first | exact (Kd.C_below HR0_2.out HB.out) | (with_reducible refine Kd.C_alloc ?_ _) | (with_reducible refine Kd.C_drewN ?_ _) | (with_reducible refine Kd.C_drew ?_))); (case side2 => exact HC0_2.out); (case side3 => repeat (first | exact (Kd.C_below HR2.out HB.out) | (with_reducible refine Kd.C_alloc ?_ _) | (with_reducible refine Kd.C_drewN ?_ _) | (with_reducible refine Kd.C_drew ?_))); (case side4 => exact HC2.out); rintro e w19 ⟨v294, rfl, ho0, hb⟩; have n0_ := Aside0.mk (Kd.Q_lower ho0 (below_size (by repeat (first | (with_reducible first | exact HB.out | apply below_alloc | apply pw_below_drewN | apply below_drew1 | refine below_set ?_ GE288.out) | exact HB.out)))); have n1_ := Aside0.mk (blk_below (g := gb288) (o := .cells #[.int .u32 a0_0, .int .u32 a0_1, .slice A0_2 l0_2.length c0_2] 66 (0, 0)) (by (with_reducible repeat (first | refine blk_drewN ?_ _ | refine blk_drew ?_ | refine blk_alloc ?_ _)); exact BK288.out) hb); have n2_ := Aside0.mk (below_step (by repeat (first | (with_reducible first | exact HB.out | apply below_alloc | apply pw_below_drewN | apply below_drew1 | refine below_set ?_ GE288.out) | exact HB.out)) hb); clear BK288; clear HB; have HO295 := n0_; have BK288 := n1_; have HB := n2_; clear n0_ n1_ n2_; (try clear hb); (try clear hb2); (try clear hk); (try clear hi); (try clear ho0)) | ((with_reducible refine gate_dst (N := 12) rfl ?_); refine box_event ?hg (N := 12) ?hd (cs := #[.int .u32 0, .int .u32 0, .slice none 0 0]) (t := 66) ?hr ?_; (case hd => rfl); (case hg => rfl); (case hr => first | (go_simp; done) | (go_simp; rfl)); intro gb297 hg w20 hbox hb; have n0_ := Aside0.mk (Kd.Q_below (by (with_reducible repeat (first | apply Kd.Q_alloc | apply Kd.Q_drewN | apply Kd.Q_drew)); exact HO295.out) hb); have n1_ := Aside0.mk (blk_below (g := gb288) (o := .cells #[.int .u32 a0_0, .int .u32 a0_1, .slice A0_2 l0_2.length c0_2] 66 (0, 0)) (by (with_reducible repeat (first | refine blk_drewN ?_ _ | refine blk_drew ?_ | refine blk_alloc ?_ _)); exact BK288.out) hb); have n2_ := Aside0.mk (below_step (by repeat (first | (with_reducible first | exact HB.out | apply below_alloc | apply pw_below_drewN | apply below_drew1 | refine below_set ?_ GE288.out) | exact HB.out)) hb); have n3_ := Aside0.mk (hbox); have n4_ := Aside0.mk ((by rw [hg]; exact (below_size (by repeat (first | (with_reducible first | exact HB.out | apply below_alloc | apply pw_below_drewN | apply below_drew1 | refine below_set ?_ GE288.out) | exact HB.out))) : w.heap.size ≤ gb297)); have n5_ := Aside0.mk ((by rw [hg]; exact (below_size (by repeat (first | (with_reducible first | exact HB.out | apply below_alloc | apply pw_below_drewN | apply below_drew1 | refine below_set ?_ GE288.out) | exact HB.out))) : w.heap.size ≤ gb297)); have n6_ := Aside0.mk ((by rw [hg]; exact Nat.ne_of_lt (blk_lt (g := gb288) (o := .cells #[.int .u32 a0_0, .int .u32 a0_1, .slice A0_2 l0_2.length c0_2] 66 (0, 0)) (by (with_reducible repeat (first | refine blk_drewN ?_ _ | refine blk_drew ?_ | refine blk_alloc ?_ _)); exact BK288.out)) : gb288 ≠ gb297)); have n7_ := Aside0.mk ((by rw [hg]; exact Nat.ne_of_gt (blk_lt (g := gb288) (o := .cells #[.int .u32 a0_0, .int .u32 a0_1, .slice A0_2 l0_2.length c0_2] 66 (0, 0)) (by (with_reducible repeat (first | refine blk_drewN ?_ _ | refine blk_drew ?_ | refine blk_alloc ?_ _)); exact BK288.out)) : gb297 ≠ gb288)); clear HO295; clear BK288; clear HB; have HO295 := n0_; have BK288 := n1_; have HB := n2_; have BK297 := n3_; have GW297 := n4_; have GE297 := n5_; have NB288_297 := n6_; have NB297_288 := n7_; clear n0_ n1_ n2_ n3_ n4_ n5_ n6_ n7_; clear hb hbox hg; have hnb21 := NB297_288.out; have hnc21 := NB288_297.out; have hcz22_0 : w20.cell? ⟨gb297, 0, none⟩ = some (.int .u32 0) := (blk_cell BK297.out 0).trans rfl; have hcz22_1 : w20.cell? ⟨gb297, 1, none⟩ = some (.int .u32 0) := (blk_cell BK297.out 1).trans rfl; have hcz22_2 : w20.cell? ⟨gb297, 2, none⟩ = some (.slice none 0 0) := (blk_cell BK297.out 2).trans rfl; have hfz22_0 := blk_frozen BK297.out 0; have hfz22_1 := blk_frozen BK297.out 1; have hfz22_2 := blk_frozen BK297.out 2; obtain ⟨Ao23, co23, eo23, _⟩ := Kd.Q_slice HO295.out; subst eo23; have hcz24_0 : w20.cell? ⟨gb288, 0, none⟩ = some (.int .u32 a0_0) := (blk_cell BK288.out 0).trans rfl; have hcz24_1 : w20.cell? ⟨gb288, 1, none⟩ = some (.int .u32 a0_1) := (blk_cell BK288.out 1).trans rfl; have hcz24_2 : w20.cell? ⟨gb288, 2, none⟩ = some (.slice A0_2 l0_2.length c0_2) := (blk_cell BK288.out 2).trans rfl; have hfz24_0 := blk_frozen BK288.out 0; have hfz24_1 := blk_frozen BK288.out 1; have hfz24_2 := blk_frozen BK288.out 2) | (go_at_call 45; (with_reducible refine (sack_Add.calls k a0_0 a0_1 _ _ l0_2 a1 _ _ l2 t298 t299 t300 t303 _ ?side1 ?side2 ?side3 ?side4 A10.out).mono ?_); (case side1 => exact Kd.C_below HR0_2.out (by repeat (first | (with_reducible first | exact HB.out | apply below_alloc | apply pw_below_drewN | apply below_drew1 | refine below_set ?_ GE288.out | refine below_set ?_ GE297.out) | exact HB.out))); (case side2 => exact HC0_2.out); (case side3 => exact Kd.C_below HR2.out (by repeat (first | (with_reducible first | exact HB.out | apply below_alloc | apply pw_below_drewN | apply below_drew1 | refine below_set ?_ GE288.out | refine below_set ?_ GE297.out) | exact HB.out))); (case side4 => exact HC2.out); rintro e w25 ⟨v301, rfl, ho0, hb⟩; have n0_ := Aside0.mk (Kd.Q_elder' (by (with_reducible repeat (first | apply Kd.Q_alloc | apply Kd.Q_drewN | apply Kd.Q_drew)); exact (Kd.Q_mono (Kd.Q_far (p := ⟨gb297, 2, none⟩) (Kd.Q_far (p := ⟨gb297, 1, none⟩) (Kd.Q_far (p := ⟨gb297, 0, none⟩) (Kd.Q_types HO295.out BK297.out (by decide)) (fun _ hk => hk.2) (.int .u32 t291)) (fun _ hk => hk.2) (.int .u32 t292)) (fun _ hk => hk.2) (.slice Ao23 t293.length co23)) (fun _ h_ => h_.1))) (Kd.R_base ho0) hb); have n1_ := Aside0.mk (Kd.R_lower (Kd.R_new' ho0 (Kd.Q_lt (by (with_reducible repeat (first | apply Kd.Q_alloc | apply Kd.Q_drewN | apply Kd.Q_drew)); exact (Kd.Q_mono (Kd.Q_far (p := ⟨gb297, 2, none⟩) (Kd.Q_far (p := ⟨gb297, 1, none⟩) (Kd.Q_far (p := ⟨gb297, 0, none⟩) (Kd.Q_types HO295.out BK297.out (by decide)) (fun _ hk => hk.2) (.int .u32 t291)) (fun _ hk => hk.2) (.int .u32 t292)) (fun _ hk => hk.2) (.slice Ao23 t293.length co23)) (fun _ h_ => h_.1))))) (below_size (by repeat (first | (with_reducible first | exact HB.out | apply below_alloc | apply pw_below_drewN | apply below_drew1 | refine below_set ?_ GE288.out | refine below_set ?_ GE297.out) | exact HB.out)))); have n2_ := Aside0.mk (blk_below (g := gb288) (o := .cells #[.int .u32 a0_0, .int .u32 a0_1, .slice A0_2 l0_2.length c0_2] 66 (0, 0)) (by (with_reducible repeat (first | refine blk_drewN ?_ _ | refine blk_drew ?_ | refine blk_alloc ?_ _)); refine blk_far ?_ NB288_297.out _; (with_reducible repeat (first | refine blk_drewN ?_ _ | refine blk_drew ?_ | refine blk_alloc ?_ _)); refine blk_far ?_ NB288_297.out _; (with_reducible repeat (first | refine blk_drewN ?_ _ | refine blk_drew ?_ | refine blk_alloc ?_ _)); refine blk_far ?_ NB288_297.out _; (with_reducible repeat (first | refine blk_drewN ?_ _ | refine blk_drew ?_ | refine blk_alloc ?_ _)); exact BK288.out) hb); have n3_ := Aside0.mk (blk_below (g := gb297) (o := .cells #[.int .u32 t291, .int .u32 t292, .slice Ao23 t293.length co23] 66 (0, 0)) (by (with_reducible repeat (first | refine blk_drewN ?_ _ | refine blk_drew ?_ | refine blk_alloc ?_ _)); refine blk_put (cs := #[.int .u32 t291, .int .u32 t292, .slice none 0 0]) ?_ 2 _ rfl; (with_reducible repeat (first | refine blk_drewN ?_ _ | refine blk_drew ?_ | refine blk_alloc ?_ _)); refine blk_put (cs := #[.int .u32 t291, .int .u32 0, .slice none 0 0]) ?_ 1 _ rfl; (with_reducible repeat (first | refine blk_drewN ?_ _ | refine blk_drew ?_ | refine blk_alloc ?_ _)); refine blk_put (cs := #[.int .u32 0, .int .u32 0, .slice none 0 0]) ?_ 0 _ rfl; (with_reducible repeat (first | refine blk_drewN ?_ _ | refine blk_drew ?_ | refine blk_alloc ?_ _)); exact BK297.out) hb); have n4_ := Aside0.mk (below_step (by repeat (first | (with_reducible first | exact HB.out | apply below_alloc | apply pw_below_drewN | apply below_drew1 | refine below_set ?_ GE288.out | refine below_set ?_ GE297.out) | exact HB.out)) hb); clear HO295; clear BK288; clear BK297; clear HB; have HO295 := n0_; have HO302 := n1_; have BK288 := n2_; have BK297 := n3_; have HB := n4_; clear n0_ n1_ n2_ n3_ n4_; (try clear hb); (try clear hb2); (try clear hk); (try clear hi); (try clear ho0)) | ((with_reducible refine gate_dst (N := 14) rfl ?_); refine box_event ?hg (N := 14) ?hd (cs := #[.int .u32 0, .int .u32 0, .slice none 0 0]) (t := 66) ?hr ?_; (case hd => rfl); (case hg => rfl); (case hr => first | (go_simp; done) | (go_simp; rfl)); intro gb304 hg w26 hbox hb; have n0_ := Aside0.mk (Kd.Q_below (by (with_reducible repeat (first | apply Kd.Q_alloc | apply Kd.Q_drewN | apply Kd.Q_drew)); exact HO295.out) hb); have n1_ := Aside0.mk (Kd.R_below (by (with_reducible repeat (first | apply Kd.R_alloc | apply Kd.R_drewN | apply Kd.R_drew)); exact HO302.out) hb); have n2_ := Aside0.mk (blk_below (g := gb288) (o := .cells #[.int .u32 a0_0, .int .u32 a0_1, .slice A0_2 l0_2.length c0_2] 66 (0, 0)) (by (with_reducible repeat (first | refine blk_drewN ?_ _ | refine blk_drew ?_ | refine blk_alloc ?_ _)); exact BK288.out) hb); have n3_ := Aside0.mk (blk_below (g := gb297) (o := .cells #[.int .u32 t291, .int .u32 t292, .slice Ao23 t293.length co23] 66 (0, 0)) (by (with_reducible repeat (first | refine blk_drewN ?_ _ | refine blk_drew ?_ | refine blk_alloc ?_ _)); exact BK297.out) hb); have n4_ := Aside0.mk (below_step (by repeat (first | (with_reducible first | exact HB.out | apply below_alloc | apply pw_below_drewN | apply below_drew1 | refine below_set ?_ GE288.out | refine below_set ?_ GE297.out) | exact HB.out)) hb); have n5_ := Aside0.mk (hbox); have n6_ := Aside0.mk ((by rw [hg]; exact (below_size (by repeat (first | (with_reducible first | exact HB.out | apply below_alloc | apply pw_below_drewN | apply below_drew1 | refine below_set ?_ GE288.out | refine below_set ?_ GE297.out) | exact HB.out))) : w.heap.size ≤ gb304)); have n7_ := Aside0.mk ((by rw [hg]; exact (below_size (by repeat (first | (with_reducible first | exact HB.out | apply below_alloc | apply pw_below_drewN | apply below_drew1 | refine below_set ?_ GE288.out | refine below_set ?_ GE297.out) | exact HB.out))) : w.heap.size ≤ gb304)); have n8_ := Aside0.mk ((by rw [hg]; exact Nat.ne_of_lt (blk_lt (g := gb288) (o := .cells #[.int .u32 a0_0, .int .u32 a0_1, .slice A0_2 l0_2.length c0_2] 66 (0, 0)) (by (with_reducible repeat (first | refine blk_drewN ?_ _ | refine blk_drew ?_ | refine blk_alloc ?_ _)); exact BK288.out)) : gb288 ≠ gb304)); have n9_ := Aside0.mk ((by rw [hg]; exact Nat.ne_of_gt (blk_lt (g := gb288) (o := .cells #[.int .u32 a0_0, .int .u32 a0_1, .slice A0_2 l0_2.length c0_2] 66 (0, 0)) (by (with_reducible repeat (first | refine blk_drewN ?_ _ | refine blk_drew ?_ | refine blk_alloc ?_ _)); exact BK288.out)) : gb304 ≠ gb288)); have n10_ := Aside0.mk ((by rw [hg]; exact Nat.ne_of_lt (blk_lt (g := gb297) (o := .cells #[.int .u32 t291, .int .u32 t292, .slice Ao23 t293.length co23] 66 (0, 0)) (by (with_reducible repeat (first | refine blk_drewN ?_ _ | refine blk_drew ?_ | refine blk_alloc ?_ _)); exact BK297.out)) : gb297 ≠ gb304)); have n11_ := Aside0.mk ((by rw [hg]; exact Nat.ne_of_gt (blk_lt (g := gb297) (o := .cells #[.int .u32 t291, .int .u32 t292, .slice Ao23 t293.length co23] 66 (0, 0)) (by (with_reducible repeat (first | refine blk_drewN ?_ _ | refine blk_drew ?_ | refine blk_alloc ?_ _)); exact BK297.out)) : gb304 ≠ gb297)); clear HO295; clear HO302; clear BK288; clear BK297; clear HB; have HO295 := n0_; have HO302 := n1_; have BK288 := n2_; have BK297 := n3_; have HB := n4_; have BK304 := n5_; have GW304 := n6_; have GE304 := n7_; have NB288_304 := n8_; have NB304_288 := n9_; have NB297_304 := n10_; have NB304_297 := n11_; clear n0_ n1_ n2_ n3_ n4_ n5_ n6_ n7_ n8_ n9_ n10_ n11_; clear hb hbox hg; have hnb27 := NB304_288.out; have hnc27 := NB288_304.out; have hnb28 := NB304_297.out; have hnc28 := NB297_304.out; have hcz29_0 : w26.cell? ⟨gb304, 0, none⟩ = some (.int .u32 0) := (blk_cell BK304.out 0).trans rfl; have hcz29_1 : w26.cell? ⟨gb304, 1, none⟩ = some (.int .u32 0) := (blk_cell BK304.out 1).trans rfl; have hcz29_2 : w26.cell? ⟨gb304, 2, none⟩ = some (.slice none 0 0) := (blk_cell BK304.out 2).trans rfl; have hfz29_0 := blk_frozen BK304.out 0; have hfz29_1 := blk_frozen BK304.out 1; have hfz29_2 := blk_frozen BK304.out 2; obtain ⟨Ao30, co30, eo30⟩ := Kd.R_slice HO302.out; subst eo30; have hcz31_0 : w26.cell? ⟨gb288, 0, none⟩ = some (.int .u32 a0_0) := (blk_cell BK288.out 0).trans rfl; have hcz31_1 : w26.cell? ⟨gb288, 1, none⟩ = some (.int .u32 a0_1) := (blk_cell BK288.out 1).trans rfl; have hcz31_2 : w26.cell? ⟨gb288, 2, none⟩ = some (.slice A0_2 l0_2.length c0_2) := (blk_cell BK288.out 2).trans rfl; have hfz31_0 := blk_frozen BK288.out 0; have hfz31_1 := blk_frozen BK288.out 1; have hfz31_2 := blk_frozen BK288.out 2) | (go_at_call 46; (with_reducible refine (sack_Holes.calls k a0_0 a0_1 _ _ l0_2 t305 t308 _ ?side1 ?side2 A11.out).mono ?_); (case side1 => exact Kd.C_below HR0_2.out (by repeat (first | (with_reducible first | exact HB.out | apply below_alloc | apply pw_below_drewN | apply below_drew1 | refine below_set ?_ GE288.out | refine below_set ?_ GE297.out | refine below_set ?_ GE304.out) | exact HB.out))); (case side2 => exact HC0_2.out); rintro e w32 ⟨v306, rfl, ho0, hb⟩; have n0_ := Aside0.mk (Kd.Q_elder' (by (with_reducible repeat (first | apply Kd.Q_alloc | apply Kd.Q_drewN | apply Kd.Q_drew)); exact (Kd.Q_mono (Kd.Q_far (p := ⟨gb304, 2, none⟩) (Kd.Q_far (p := ⟨gb304, 1, none⟩) (Kd.Q_far (p := ⟨gb304, 0, none⟩) (Kd.Q_types HO295.out BK304.out (by decide)) (fun _ hk => hk.2) (.int .u32 t298)) (fun _ hk => hk.2) (.int .u32 t299)) (fun _ hk => hk.2) (.slice Ao30 t300.length co30)) (fun _ h_ => h_.1))) (Kd.R_base ho0) hb); have n1_ := Aside0.mk (Kd.R_elder' (by (with_reducible repeat (first | apply Kd.R_alloc | apply Kd.R_drewN | apply Kd.R_drew)); exact (Kd.R_mono (Kd.R_far (p := ⟨gb304, 2, none⟩) (Kd.R_far (p := ⟨gb304, 1, none⟩) (Kd.R_far (p := ⟨gb304, 0, none⟩) (Kd.R_types HO302.out BK304.out (by decide)) (fun _ hk => hk.2) (.int .u32 t298)) (fun _ hk => hk.2) (.int .u32 t299)) (fun _ hk => hk.2) (.slice Ao30 t300.length co30)) (fun _ h_ => h_.1))) (Kd.R_base ho0) hb); have n2_ := Aside0.mk (Kd.R_lower (Kd.R_new' (Kd.R_new' ho0 (Kd.Q_lt (by (with_reducible repeat (first | apply Kd.Q_alloc | apply Kd.Q_drewN | apply Kd.Q_drew)); exact (Kd.Q_mono (Kd.Q_far (p := ⟨gb304, 2, none⟩) (Kd.Q_far (p := ⟨gb304, 1, none⟩) (Kd.Q_far (p := ⟨gb304, 0, none⟩) (Kd.Q_types HO295.out BK304.out (by decide)) (fun _ hk => hk.2) (.int .u32 t298)) (fun _ hk => hk.2) (.int .u32 t299)) (fun _ hk => hk.2) (.slice Ao30 t300.length co30)) (fun _ h_ => h_.1))))) (Kd.R_lt (by (with_reducible repeat (first | apply Kd.R_alloc | apply Kd.R_drewN | apply Kd.R_drew)); exact (Kd.R_mono (Kd.R_far (p := ⟨gb304, 2, none⟩) (Kd.R_far (p := ⟨gb304, 1, none⟩) (Kd.R_far (p := ⟨gb304, 0, none⟩) (Kd.R_types HO302.out BK304.out (by decide)) (fun _ hk => hk.2) (.int .u32 t298)) (fun _ hk => hk.2) (.int .u32 t299)) (fun _ hk => hk.2) (.slice Ao30 t300.length co30)) (fun _ h_ => h_.1))))) (below_size (by repeat (first | (with_reducible first | exact HB.out | apply below_alloc | apply pw_below_drewN | apply below_drew1 | refine below_set ?_ GE288.out | refine below_set ?_ GE297.out | refine below_set ?_ GE304.out) | exact HB.out)))); have n3_ := Aside0.mk (blk_below (g := gb288) (o := .cells #[.int .u32 a0_0, .int .u32 a0_1, .slice A0_2 l0_2.length c0_2] 66 (0, 0)) (by (with_reducible repeat (first | refine blk_drewN ?_ _ | refine blk_drew ?_ | refine blk_alloc ?_ _)); refine blk_far ?_ NB288_304.out _; (with_reducible repeat (first | refine blk_drewN ?_ _ | refine blk_drew ?_ | refine blk_alloc ?_ _)); refine blk_far ?_ NB288_304.out _; (with_reducible repeat (first | refine blk_drewN ?_ _ | refine blk_drew ?_ | refine blk_alloc ?_ _)); refine blk_far ?_ NB288_304.out _; (with_reducible repeat (first | refine blk_drewN ?_ _ | refine blk_drew ?_ | refine blk_alloc ?_ _)); exact BK288.out) hb); have n4_ := Aside0.mk (blk_below (g := gb297) (o := .cells #[.int .u32 t291, .int .u32 t292, .slice Ao23 t293.length co23] 66 (0, 0)) (by (with_reducible repeat (first | refine blk_drewN ?_ _ | refine blk_drew ?_ | refine blk_alloc ?_ _)); refine blk_far ?_ NB297_304.out _; (with_reducible repeat (first | refine blk_drewN ?_ _ | refine blk_drew ?_ | refine blk_alloc ?_ _)); refine blk_far ?_ NB297_304.out _; (with_reducible repeat (first | refine blk_drewN ?_ _ | refine blk_drew ?_ | refine blk_alloc ?_ _)); refine blk_far ?_ NB297_304.out _; (with_reducible repeat (first | refine blk_drewN ?_ _ | refine blk_drew ?_ | refine blk_alloc ?_ _)); exact BK297.out) hb); have n5_ := Aside0.mk (blk_below (g := gb304) (o := .cells #[.int .u32 t298, .int .u32 t299, .slice Ao30 t300.length co30] 66 (0, 0)) (by (with_reducible repeat (first | refine blk_drewN ?_ _ | refine blk_drew ?_ | refine blk_alloc ?_ _)); refine blk_put (cs := #[.int .u32 t298, .int .u32 t299, .slice none 0 0]) ?_ 2 _ rfl; (with_reducible repeat (first | refine blk_drewN ?_ _ | refine blk_drew ?_ | refine blk_alloc ?_ _)); refine blk_put (cs := #[.int .u32 t298, .int .u32 0, .slice none 0 0]) ?_ 1 _ rfl; (with_reducible repeat (first | refine blk_drewN ?_ _ | refine blk_drew ?_ | refine blk_alloc ?_ _)); refine blk_put (cs := #[.int .u32 0, .int .u32 0, .slice none 0 0]) ?_ 0 _ rfl; (with_reducible repeat (first | refine blk_drewN ?_ _ | refine blk_drew ?_ | refine blk_alloc ?_ _)); exact BK304.out) hb); have n6_ := Aside0.mk (below_step (by repeat (first | (with_reducible first | exact HB.out | apply below_alloc | apply pw_below_drewN | apply below_drew1 | refine below_set ?_ GE288.out | refine below_set ?_ GE297.out | refine below_set ?_ GE304.out) | exact HB.out)) hb); clear HO295; clear HO302; clear BK288; clear BK297; clear BK304; clear HB; have HO295 := n0_; have HO302 := n1_; have HO307 := n2_; have BK288 := n3_; have BK297 := n4_; have BK304 := n5_; have HB := n6_; clear n0_ n1_ n2_ n3_ n4_ n5_ n6_; (try clear hb); (try clear hb2); (try clear hk); (try clear hi); (try clear ho0); have hcz33_0 : w32.cell? ⟨gb288, 0, none⟩ = some (.int .u32 a0_0) := (blk_cell BK288.out 0).trans rfl; have hcz33_1 : w32.cell? ⟨gb288, 1, none⟩ = some (.int .u32 a0_1) := (blk_cell BK288.out 1).trans rfl; have hcz33_2 : w32.cell? ⟨gb288, 2, none⟩ = some (.slice A0_2 l0_2.length c0_2) := (blk_cell BK288.out 2).trans rfl; have hfz33_0 := blk_frozen BK288.out 0; have hfz33_1 := blk_frozen BK288.out 1; have hfz33_2 := blk_frozen BK288.out 2) | (go_at_call 47; (with_reducible refine (sack_Lost.calls k a0_0 a0_1 _ _ l0_2 a3 t309 t312 _ ?side1 ?side2 A12.out).mono ?_); (case side1 => repeat (first | exact (Kd.C_below HR0_2.out HB.out) | (with_reducible refine Kd.C_alloc ?_ _) | (with_reducible refine Kd.C_drewN ?_ _) | (with_reducible refine Kd.C_drew ?_))); (case side2 => exact HC0_2.out); rintro e w34 ⟨v310, rfl, ho0, hb⟩; have n0_ := Aside0.mk (Kd.Q_elder' (by (with_reducible repeat (first | apply Kd.Q_alloc | apply Kd.Q_drewN | apply Kd.Q_drew)); exact HO295.out) (Kd.R_base ho0) hb); have n1_ := Aside0.mk (Kd.R_elder' (by (with_reducible repeat (first | apply Kd.R_alloc | apply Kd.R_drewN | apply Kd.R_drew)); exact HO302.out) (Kd.R_base ho0) hb); have n2_ := Aside0.mk (Kd.R_elder' (by (with_reducible repeat (first | apply Kd.R_alloc | apply Kd.R_drewN | apply Kd.R_drew)); exact HO307.out) (Kd.R_base ho0) hb); have n3_ := Aside0.mk (Kd.R_lower (Kd.R_new' (Kd.R_new' (Kd.R_new' ho0 (Kd.Q_lt (by (with_reducible repeat (first | apply Kd.Q_alloc | apply Kd.Q_drewN | apply Kd.Q_drew)); exact HO295.out))) (Kd.R_lt (by (with_reducible repeat (first | apply Kd.R_alloc | apply Kd.R_drewN | apply Kd.R_drew)); exact HO302.out))) (Kd.R_lt (by (with_reducible repeat (first | apply Kd.R_alloc | apply Kd.R_drewN | apply Kd.R_drew)); exact HO307.out))) (below_size (by repeat (first | (with_reducible first | exact HB.out | apply below_alloc | apply pw_below_drewN | apply below_drew1 | refine below_set ?_ GE288.out | refine below_set ?_ GE297.out | refine below_set ?_ GE304.out) | exact HB.out)))); have n4_ := Aside0.mk (blk_below (g := gb288) (o := .cells #[.int .u32 a0_0, .int .u32 a0_1, .slice A0_2 l0_2.length c0_2] 66 (0, 0)) (by (with_reducible repeat (first | refine blk_drewN ?_ _ | refine blk_drew ?_ | refine blk_alloc ?_ _)); exact BK288.out) hb); have n5_ := Aside0.mk (blk_below (g := gb297) (o := .cells #[.int .u32 t291, .int .u32 t292, .slice Ao23 t293.length co23] 66 (0, 0)) (by (with_reducible repeat (first | refine blk_drewN ?_ _ | refine blk_drew ?_ | refine blk_alloc ?_ _)); exact BK297.out) hb); have n6_ := Aside0.mk (blk_below (g := gb304) (o := .cells #[.int .u32 t298, .int .u32 t299, .slice Ao30 t300.length co30] 66 (0, 0)) (by (with_reducible repeat (first | refine blk_drewN ?_ _ | refine blk_drew ?_ | refine blk_alloc ?_ _)); exact BK304.out) hb); have n7_ := Aside0.mk (below_step (by repeat (first | (with_reducible first | exact HB.out | apply below_alloc | apply pw_below_drewN | apply below_drew1 | refine below_set ?_ GE288.out | refine below_set ?_ GE297.out | refine below_set ?_ GE304.out) | exact HB.out)) hb); clear HO295; clear HO302; clear HO307; clear BK288; clear BK297; clear BK304; clear HB; have HO295 := n0_; have HO302 := n1_; have HO307 := n2_; have HO311 := n3_; have BK288 := n4_; have BK297 := n5_; have BK304 := n6_; have HB := n7_; clear n0_ n1_ n2_ n3_ n4_ n5_ n6_ n7_; (try clear hb); (try clear hb2); (try clear hk); (try clear hi); (try clear ho0)))
    (try simp only [Act.put, List.setIfInBounds_toArray, List.set_cons_zero, List.set_cons_succ])
    go_cut [20, 21, 23] (fun v20 v21 v23 wc => ∃ (kq : Nat) (x20_12 : List (S77)) (x21_12 : List (S77)) (x23_12 : Int), v23 = .int .i64 x23_12 ∧ Aside0 (patchbaylaw3_SackSays.j0 kq l2 a4 t290 t296 t303 t305 t308 t309 t312 x20_12 x21_12 ([] : List (S77)) x23_12 a0_0 a0_1 l0_2 t291 t292 t293 t298 t299 t300 = some r) ∧ Aside0 (kq ≤ k) ∧ Aside0 (Kd.R k77 77 wc w.heap.size (fun k_ => some k_ ≠ (v310 : Value).ownBlock ∧ some k_ ≠ (v20 : Value).ownBlock ∧ some k_ ≠ (v21 : Value).ownBlock ∧ some k_ ≠ ((.slice none 0 0) : Value).ownBlock ∧ some k_ ≠ ((.slice Ao23 t293.length co23) : Value).ownBlock ∧ some k_ ≠ ((.slice Ao30 t300.length co30) : Value).ownBlock) v306 t305) ∧ Aside0 (Kd.R k77 77 wc w.heap.size (fun k_ => some k_ ≠ (v306 : Value).ownBlock ∧ some k_ ≠ (v20 : Value).ownBlock ∧ some k_ ≠ (v21 : Value).ownBlock ∧ some k_ ≠ ((.slice none 0 0) : Value).ownBlock ∧ some k_ ≠ ((.slice Ao23 t293.length co23) : Value).ownBlock ∧ some k_ ≠ ((.slice Ao30 t300.length co30) : Value).ownBlock) v310 t309) ∧ Aside0 (Kd.R k77 77 wc w.heap.size (fun k_ => some k_ ≠ (v306 : Value).ownBlock ∧ some k_ ≠ (v310 : Value).ownBlock ∧ some k_ ≠ (v21 : Value).ownBlock ∧ some k_ ≠ ((.slice none 0 0) : Value).ownBlock ∧ some k_ ≠ ((.slice Ao23 t293.length co23) : Value).ownBlock ∧ some k_ ≠ ((.slice Ao30 t300.length co30) : Value).ownBlock) v20 x20_12) ∧ Aside0 (Kd.R k77 77 wc w.heap.size (fun k_ => some k_ ≠ (v306 : Value).ownBlock ∧ some k_ ≠ (v310 : Value).ownBlock ∧ some k_ ≠ (v20 : Value).ownBlock ∧ some k_ ≠ ((.slice none 0 0) : Value).ownBlock ∧ some k_ ≠ ((.slice Ao23 t293.length co23) : Value).ownBlock ∧ some k_ ≠ ((.slice Ao30 t300.length co30) : Value).ownBlock) v21 x21_12) ∧ Aside0 (Kd.R k77 77 wc w.heap.size (fun k_ => some k_ ≠ (v306 : Value).ownBlock ∧ some k_ ≠ (v310 : Value).ownBlock ∧ some k_ ≠ (v20 : Value).ownBlock ∧ some k_ ≠ (v21 : Value).ownBlock ∧ some k_ ≠ ((.slice Ao23 t293.length co23) : Value).ownBlock ∧ some k_ ≠ ((.slice Ao30 t300.length co30) : Value).ownBlock) (.slice none 0 0) ([] : List (S77))) ∧ Aside0 (Kd.Q k77 77 wc w.heap.size (fun k_ => some k_ ≠ (v306 : Value).ownBlock ∧ some k_ ≠ (v310 : Value).ownBlock ∧ some k_ ≠ (v20 : Value).ownBlock ∧ some k_ ≠ (v21 : Value).ownBlock ∧ some k_ ≠ ((.slice none 0 0) : Value).ownBlock ∧ some k_ ≠ ((.slice Ao30 t300.length co30) : Value).ownBlock) (.slice Ao23 t293.length co23) t293) ∧ Aside0 (Kd.Q k77 77 wc w.heap.size (fun k_ => some k_ ≠ (v306 : Value).ownBlock ∧ some k_ ≠ (v310 : Value).ownBlock ∧ some k_ ≠ (v20 : Value).ownBlock ∧ some k_ ≠ (v21 : Value).ownBlock ∧ some k_ ≠ ((.slice none 0 0) : Value).ownBlock ∧ some k_ ≠ ((.slice Ao23 t293.length co23) : Value).ownBlock) (.slice Ao30 t300.length co30) t300) ∧ Aside0 (wc.heap[gb288]? = some (.cells #[.int .u32 a0_0, .int .u32 a0_1, (.slice A0_2 l0_2.length c0_2)] 66 (0, 0))) ∧ Aside0 (wc.heap[gb297]? = some (.cells #[.int .u32 t291, .int .u32 t292, (.slice Ao23 t293.length co23)] 66 (0, 0))) ∧ Aside0 (wc.heap[gb304]? = some (.cells #[.int .u32 t298, .int .u32 t299, (.slice Ao30 t300.length co30)] 66 (0, 0))) ∧ Aside0 (Below w.heap.size w wc))
    case first =>
      have H := HC13.out
      clear HC13
      by_cases c35 : t290 = 0
      · rw [if_pos c35] at H
        have c35b0 : (t290 == 0) = true := beq_iff_eq.mpr c35
        have c35b1 : (t290 != 0) = false := bne_eq_false_iff_eq.mpr c35
        clear c35
        (first | rw [c35b0] | (simp only [i64_w, i32_w]; rw [c35b0]) | skip)
        replace H := Option.bind_eq_some_iff.mp H
        obtain ⟨t313, A360, H⟩ := H
        replace H : (if a3 < 1 then (patchbaylaw3_SackSays.j0 k l2 a4 t290 t296 t303 t305 t308 t309 t312 t313 ([] : List (S77)) ([] : List (S77)) 1 a0_0 a0_1 l0_2 t291 t292 t293 t298 t299 t300) else ((patchbayref3_Lost.f k a0_0 a0_1 l0_2 a3).bind fun t316 => (patchbaylaw3_SackSays.j0 k l2 a4 t290 t296 t303 t305 t308 t309 t312 t313 t316 ([] : List (S77)) t290 a0_0 a0_1 l0_2 t291 t292 t293 t298 t299 t300))) = some r := H
        have A36 := Aside0.mk A360
        clear A360
        by_cases c37 : a3 < 1
        · rw [if_pos c37] at H
          have c37b0 : decide (a3 < 1) = true := decide_eq_true c37
          clear c37
          have H' := Aside0.mk H
          clear H
          have hnb38 := NB288_297.out
          have hnc38 := NB297_288.out
          have hnb39 := NB288_304.out
          have hnc39 := NB304_288.out
          have hcz40_0 : w34.cell? ⟨gb288, 0, none⟩ = some (.int .u32 a0_0) := (blk_cell BK288.out 0).trans rfl
          have hcz40_1 : w34.cell? ⟨gb288, 1, none⟩ = some (.int .u32 a0_1) := (blk_cell BK288.out 1).trans rfl
          have hcz40_2 : w34.cell? ⟨gb288, 2, none⟩ = some (.slice A0_2 l0_2.length c0_2) := (blk_cell BK288.out 2).trans rfl
          have hfz40_0 := blk_frozen BK288.out 0
          have hfz40_1 := blk_frozen BK288.out 1
          have hfz40_2 := blk_frozen BK288.out 2
          go_wp2_with (first | (go_at_call 48; (with_reducible refine (patchbayref3_Holes.calls k a0_0 a0_1 _ _ l0_2 t313 _ ?side1 ?side2 A36.out).mono ?_); (case side1 => repeat (first | exact (Kd.C_below HR0_2.out HB.out) | (with_reducible refine Kd.C_alloc ?_ _) | (with_reducible refine Kd.C_drewN ?_ _) | (with_reducible refine Kd.C_drew ?_))); (case side2 => exact HC0_2.out); rintro e w41 ⟨v314, rfl, ho0, hb⟩; have n0_ := Aside0.mk (Kd.Q_elder' (by (with_reducible repeat (first | apply Kd.Q_alloc | apply Kd.Q_drewN | apply Kd.Q_drew)); exact HO295.out) (Kd.R_base ho0) hb); have n1_ := Aside0.mk (Kd.R_elder' (by (with_reducible repeat (first | apply Kd.R_alloc | apply Kd.R_drewN | apply Kd.R_drew)); exact HO302.out) (Kd.R_base ho0) hb); have n2_ := Aside0.mk (Kd.R_elder' (by (with_reducible repeat (first | apply Kd.R_alloc | apply Kd.R_drewN | apply Kd.R_drew)); exact HO307.out) (Kd.R_base ho0) hb); have n3_ := Aside0.mk (Kd.R_elder' (by (with_reducible repeat (first | apply Kd.R_alloc | apply Kd.R_drewN | apply Kd.R_drew)); exact HO311.out) (Kd.R_base ho0) hb); have n4_ := Aside0.mk (Kd.R_lower (Kd.R_new' (Kd.R_new' (Kd.R_new' (Kd.R_new' ho0 (Kd.Q_lt (by (with_reducible repeat (first | apply Kd.Q_alloc | apply Kd.Q_drewN | apply Kd.Q_drew)); exact HO295.out))) (Kd.R_lt (by (with_reducible repeat (first | apply Kd.R_alloc | apply Kd.R_drewN | apply Kd.R_drew)); exact HO302.out))) (Kd.R_lt (by (with_reducible repeat (first | apply Kd.R_alloc | apply Kd.R_drewN | apply Kd.R_drew)); exact HO307.out))) (Kd.R_lt (by (with_reducible repeat (first | apply Kd.R_alloc | apply Kd.R_drewN | apply Kd.R_drew)); exact HO311.out))) (below_size (by repeat (first | (with_reducible first | exact HB.out | apply below_alloc | apply pw_below_drewN | apply below_drew1 | refine below_set ?_ GE288.out | refine below_set ?_ GE297.out | refine below_set ?_ GE304.out) | exact HB.out)))); have n5_ := Aside0.mk (blk_below (g := gb288) (o := .cells #[.int .u32 a0_0, .int .u32 a0_1, .slice A0_2 l0_2.length c0_2] 66 (0, 0)) (by (with_reducible repeat (first | refine blk_drewN ?_ _ | refine blk_drew ?_ | refine blk_alloc ?_ _)); exact BK288.out) hb); have n6_ := Aside0.mk (blk_below (g := gb297) (o := .cells #[.int .u32 t291, .int .u32 t292, .slice Ao23 t293.length co23] 66 (0, 0)) (by (with_reducible repeat (first | refine blk_drewN ?_ _ | refine blk_drew ?_ | refine blk_alloc ?_ _)); exact BK297.out) hb); have n7_ := Aside0.mk (blk_below (g := gb304) (o := .cells #[.int .u32 t298, .int .u32 t299, .slice Ao30 t300.length co30] 66 (0, 0)) (by (with_reducible repeat (first | refine blk_drewN ?_ _ | refine blk_drew ?_ | refine blk_alloc ?_ _)); exact BK304.out) hb); have n8_ := Aside0.mk (below_step (by repeat (first | (with_reducible first | exact HB.out | apply below_alloc | apply pw_below_drewN | apply below_drew1 | refine below_set ?_ GE288.out | refine below_set ?_ GE297.out | refine below_set ?_ GE304.out) | exact HB.out)) hb); clear HO295; clear HO302; clear HO307; clear HO311; clear BK288; clear BK297; clear BK304; clear HB; have HO295 := n0_; have HO302 := n1_; have HO307 := n2_; have HO311 := n3_; have HO315 := n4_; have BK288 := n5_; have BK297 := n6_; have BK304 := n7_; have HB := n8_; clear n0_ n1_ n2_ n3_ n4_ n5_ n6_ n7_ n8_; (try clear hb); (try clear hb2); (try clear hk); (try clear hi); (try clear ho0)))
          go_meet
          case rel => exact ⟨_, (t313), (([] : List (S77))), (1), (by first | rfl | (simp; done) | (simp [*]; done)), H', ⟨by first | omega | exact Nat.le_refl _⟩, ⟨by (with_reducible repeat (first | apply Kd.R_alloc | apply Kd.R_drewN | apply Kd.R_drew)); exact Kd.R_mono HO307.out (fun _ hk => ⟨hk.1.2, ⟨hk.2, ⟨(by simp [Value.ownBlock]), ⟨(by simp [Value.ownBlock]), ⟨hk.1.1.1.2, hk.1.1.2⟩⟩⟩⟩⟩)⟩, ⟨by (with_reducible repeat (first | apply Kd.R_alloc | apply Kd.R_drewN | apply Kd.R_drew)); exact Kd.R_mono HO311.out (fun _ hk => ⟨hk.1.2, ⟨hk.2, ⟨(by simp [Value.ownBlock]), ⟨(by simp [Value.ownBlock]), ⟨hk.1.1.1.2, hk.1.1.2⟩⟩⟩⟩⟩)⟩, ⟨by (with_reducible repeat (first | apply Kd.R_alloc | apply Kd.R_drewN | apply Kd.R_drew)); exact Kd.R_mono HO315.out (fun _ hk => ⟨hk.1.2, ⟨hk.2, ⟨(by simp [Value.ownBlock]), ⟨(by simp [Value.ownBlock]), ⟨hk.1.1.1.2, hk.1.1.2⟩⟩⟩⟩⟩)⟩, ⟨by first | exact Kd.R_nil _ _ _ _ _ | exact Kd.N_nil _ _ _ _ _ | exact Kd.V_nil _ _ _ _ _ | exact Kd.Q_nil _ _ _ _ _ | exact Kd.S_nil _ _ _ _ _⟩, ⟨by first | exact Kd.R_nil _ _ _ _ _ | exact Kd.N_nil _ _ _ _ _ | exact Kd.V_nil _ _ _ _ _ | exact Kd.Q_nil _ _ _ _ _ | exact Kd.S_nil _ _ _ _ _⟩, ⟨by (with_reducible repeat (first | apply Kd.Q_alloc | apply Kd.Q_drewN | apply Kd.Q_drew)); exact Kd.Q_mono HO295.out (fun _ hk => ⟨hk.1.1.2, ⟨hk.1.2, ⟨hk.2, ⟨(by simp [Value.ownBlock]), ⟨(by simp [Value.ownBlock]), hk.1.1.1.2⟩⟩⟩⟩⟩)⟩, ⟨Kd.Q_of_R (by (with_reducible repeat (first | apply Kd.R_alloc | apply Kd.R_drewN | apply Kd.R_drew)); exact Kd.R_mono HO302.out (fun _ hk => ⟨hk.1.1.2, ⟨hk.1.2, ⟨hk.2, ⟨(by simp [Value.ownBlock]), ⟨(by simp [Value.ownBlock]), hk.1.1.1.2⟩⟩⟩⟩⟩))⟩, ⟨by (with_reducible repeat (first | refine blk_drewN ?_ _ | refine blk_drew ?_ | refine blk_alloc ?_ _)); exact BK288.out⟩, ⟨by (with_reducible repeat (first | refine blk_drewN ?_ _ | refine blk_drew ?_ | refine blk_alloc ?_ _)); exact BK297.out⟩, ⟨by (with_reducible repeat (first | refine blk_drewN ?_ _ | refine blk_drew ?_ | refine blk_alloc ?_ _)); exact BK304.out⟩, ⟨by repeat (first | (with_reducible first | exact HB.out | apply below_alloc | apply pw_below_drewN | apply below_drew1 | refine below_set ?_ GE288.out | refine below_set ?_ GE297.out | refine below_set ?_ GE304.out) | exact HB.out)⟩⟩
        · rw [if_neg c37] at H
          have c37b0 : decide (a3 < 1) = false := decide_eq_false c37
          clear c37
          replace H := Option.bind_eq_some_iff.mp H
          obtain ⟨t316, A420, H⟩ := H
          replace H : (patchbaylaw3_SackSays.j0 k l2 a4 t290 t296 t303 t305 t308 t309 t312 t313 t316 ([] : List (S77)) t290 a0_0 a0_1 l0_2 t291 t292 t293 t298 t299 t300) = some r := H
          have A42 := Aside0.mk A420
          clear A420
          have H' := Aside0.mk H
          clear H
          have hnb43 := NB288_297.out
          have hnc43 := NB297_288.out
          have hnb44 := NB288_304.out
          have hnc44 := NB304_288.out
          have hcz45_0 : w34.cell? ⟨gb288, 0, none⟩ = some (.int .u32 a0_0) := (blk_cell BK288.out 0).trans rfl
          have hcz45_1 : w34.cell? ⟨gb288, 1, none⟩ = some (.int .u32 a0_1) := (blk_cell BK288.out 1).trans rfl
          have hcz45_2 : w34.cell? ⟨gb288, 2, none⟩ = some (.slice A0_2 l0_2.length c0_2) := (blk_cell BK288.out 2).trans rfl
          have hfz45_0 := blk_frozen BK288.out 0
          have hfz45_1 := blk_frozen BK288.out 1
          have hfz45_2 := blk_frozen BK288.out 2
          go_wp2_with (first | (go_at_call 48; (with_reducible refine (patchbayref3_Holes.calls k a0_0 a0_1 _ _ l0_2 t313 _ ?side1 ?side2 A36.out).mono ?_); (case side1 => repeat (first | exact (Kd.C_below HR0_2.out HB.out) | (with_reducible refine Kd.C_alloc ?_ _) | (with_reducible refine Kd.C_drewN ?_ _) | (with_reducible refine Kd.C_drew ?_))); (case side2 => exact HC0_2.out); rintro e w46 ⟨v314, rfl, ho0, hb⟩; have n0_ := Aside0.mk (Kd.Q_elder' (by (with_reducible repeat (first | apply Kd.Q_alloc | apply Kd.Q_drewN | apply Kd.Q_drew)); exact HO295.out) (Kd.R_base ho0) hb); have n1_ := Aside0.mk (Kd.R_elder' (by (with_reducible repeat (first | apply Kd.R_alloc | apply Kd.R_drewN | apply Kd.R_drew)); exact HO302.out) (Kd.R_base ho0) hb); have n2_ := Aside0.mk (Kd.R_elder' (by (with_reducible repeat (first | apply Kd.R_alloc | apply Kd.R_drewN | apply Kd.R_drew)); exact HO307.out) (Kd.R_base ho0) hb); have n3_ := Aside0.mk (Kd.R_elder' (by (with_reducible repeat (first | apply Kd.R_alloc | apply Kd.R_drewN | apply Kd.R_drew)); exact HO311.out) (Kd.R_base ho0) hb); have n4_ := Aside0.mk (Kd.R_lower (Kd.R_new' (Kd.R_new' (Kd.R_new' (Kd.R_new' ho0 (Kd.Q_lt (by (with_reducible repeat (first | apply Kd.Q_alloc | apply Kd.Q_drewN | apply Kd.Q_drew)); exact HO295.out))) (Kd.R_lt (by (with_reducible repeat (first | apply Kd.R_alloc | apply Kd.R_drewN | apply Kd.R_drew)); exact HO302.out))) (Kd.R_lt (by (with_reducible repeat (first | apply Kd.R_alloc | apply Kd.R_drewN | apply Kd.R_drew)); exact HO307.out))) (Kd.R_lt (by (with_reducible repeat (first | apply Kd.R_alloc | apply Kd.R_drewN | apply Kd.R_drew)); exact HO311.out))) (below_size (by repeat (first | (with_reducible first | exact HB.out | apply below_alloc | apply pw_below_drewN | apply below_drew1 | refine below_set ?_ GE288.out | refine below_set ?_ GE297.out | refine below_set ?_ GE304.out) | exact HB.out)))); have n5_ := Aside0.mk (blk_below (g := gb288) (o := .cells #[.int .u32 a0_0, .int .u32 a0_1, .slice A0_2 l0_2.length c0_2] 66 (0, 0)) (by (with_reducible repeat (first | refine blk_drewN ?_ _ | refine blk_drew ?_ | refine blk_alloc ?_ _)); exact BK288.out) hb); have n6_ := Aside0.mk (blk_below (g := gb297) (o := .cells #[.int .u32 t291, .int .u32 t292, .slice Ao23 t293.length co23] 66 (0, 0)) (by (with_reducible repeat (first | refine blk_drewN ?_ _ | refine blk_drew ?_ | refine blk_alloc ?_ _)); exact BK297.out) hb); have n7_ := Aside0.mk (blk_below (g := gb304) (o := .cells #[.int .u32 t298, .int .u32 t299, .slice Ao30 t300.length co30] 66 (0, 0)) (by (with_reducible repeat (first | refine blk_drewN ?_ _ | refine blk_drew ?_ | refine blk_alloc ?_ _)); exact BK304.out) hb); have n8_ := Aside0.mk (below_step (by repeat (first | (with_reducible first | exact HB.out | apply below_alloc | apply pw_below_drewN | apply below_drew1 | refine below_set ?_ GE288.out | refine below_set ?_ GE297.out | refine below_set ?_ GE304.out) | exact HB.out)) hb); clear HO295; clear HO302; clear HO307; clear HO311; clear BK288; clear BK297; clear BK304; clear HB; have HO295 := n0_; have HO302 := n1_; have HO307 := n2_; have HO311 := n3_; have HO315 := n4_; have BK288 := n5_; have BK297 := n6_; have BK304 := n7_; have HB := n8_; clear n0_ n1_ n2_ n3_ n4_ n5_ n6_ n7_ n8_; (try clear hb); (try clear hb2); (try clear hk); (try clear hi); (try clear ho0); have hcz47_0 : w46.cell? ⟨gb288, 0, none⟩ = some (.int .u32 a0_0) := (blk_cell BK288.out 0).trans rfl; have hcz47_1 : w46.cell? ⟨gb288, 1, none⟩ = some (.int .u32 a0_1) := (blk_cell BK288.out 1).trans rfl; have hcz47_2 : w46.cell? ⟨gb288, 2, none⟩ = some (.slice A0_2 l0_2.length c0_2) := (blk_cell BK288.out 2).trans rfl; have hfz47_0 := blk_frozen BK288.out 0; have hfz47_1 := blk_frozen BK288.out 1; have hfz47_2 := blk_frozen BK288.out 2) | (go_at_call 49; (with_reducible refine (patchbayref3_Lost.calls k a0_0 a0_1 _ _ l0_2 a3 t316 _ ?side1 ?side2 A42.out).mono ?_); (case side1 => repeat (first | exact (Kd.C_below HR0_2.out HB.out) | (with_reducible refine Kd.C_alloc ?_ _) | (with_reducible refine Kd.C_drewN ?_ _) | (with_reducible refine Kd.C_drew ?_))); (case side2 => exact HC0_2.out); rintro e w48 ⟨v317, rfl, ho0, hb⟩; have n0_ := Aside0.mk (Kd.Q_elder' (by (with_reducible repeat (first | apply Kd.Q_alloc | apply Kd.Q_drewN | apply Kd.Q_drew)); exact HO295.out) (Kd.R_base ho0) hb); have n1_ := Aside0.mk (Kd.R_elder' (by (with_reducible repeat (first | apply Kd.R_alloc | apply Kd.R_drewN | apply Kd.R_drew)); exact HO302.out) (Kd.R_base ho0) hb); have n2_ := Aside0.mk (Kd.R_elder' (by (with_reducible repeat (first | apply Kd.R_alloc | apply Kd.R_drewN | apply Kd.R_drew)); exact HO307.out) (Kd.R_base ho0) hb); have n3_ := Aside0.mk (Kd.R_elder' (by (with_reducible repeat (first | apply Kd.R_alloc | apply Kd.R_drewN | apply Kd.R_drew)); exact HO311.out) (Kd.R_base ho0) hb); have n4_ := Aside0.mk (Kd.R_elder' (by (with_reducible repeat (first | apply Kd.R_alloc | apply Kd.R_drewN | apply Kd.R_drew)); exact HO315.out) (Kd.R_base ho0) hb); have n5_ := Aside0.mk (Kd.R_lower (Kd.R_new' (Kd.R_new' (Kd.R_new' (Kd.R_new' (Kd.R_new' ho0 (Kd.Q_lt (by (with_reducible repeat (first | apply Kd.Q_alloc | apply Kd.Q_drewN | apply Kd.Q_drew)); exact HO295.out))) (Kd.R_lt (by (with_reducible repeat (first | apply Kd.R_alloc | apply Kd.R_drewN | apply Kd.R_drew)); exact HO302.out))) (Kd.R_lt (by (with_reducible repeat (first | apply Kd.R_alloc | apply Kd.R_drewN | apply Kd.R_drew)); exact HO307.out))) (Kd.R_lt (by (with_reducible repeat (first | apply Kd.R_alloc | apply Kd.R_drewN | apply Kd.R_drew)); exact HO311.out))) (Kd.R_lt (by (with_reducible repeat (first | apply Kd.R_alloc | apply Kd.R_drewN | apply Kd.R_drew)); exact HO315.out))) (below_size (by repeat (first | (with_reducible first | exact HB.out | apply below_alloc | apply pw_below_drewN | apply below_drew1 | refine below_set ?_ GE288.out | refine below_set ?_ GE297.out | refine below_set ?_ GE304.out) | exact HB.out)))); have n6_ := Aside0.mk (blk_below (g := gb288) (o := .cells #[.int .u32 a0_0, .int .u32 a0_1, .slice A0_2 l0_2.length c0_2] 66 (0, 0)) (by (with_reducible repeat (first | refine blk_drewN ?_ _ | refine blk_drew ?_ | refine blk_alloc ?_ _)); exact BK288.out) hb); have n7_ := Aside0.mk (blk_below (g := gb297) (o := .cells #[.int .u32 t291, .int .u32 t292, .slice Ao23 t293.length co23] 66 (0, 0)) (by (with_reducible repeat (first | refine blk_drewN ?_ _ | refine blk_drew ?_ | refine blk_alloc ?_ _)); exact BK297.out) hb); have n8_ := Aside0.mk (blk_below (g := gb304) (o := .cells #[.int .u32 t298, .int .u32 t299, .slice Ao30 t300.length co30] 66 (0, 0)) (by (with_reducible repeat (first | refine blk_drewN ?_ _ | refine blk_drew ?_ | refine blk_alloc ?_ _)); exact BK304.out) hb); have n9_ := Aside0.mk (below_step (by repeat (first | (with_reducible first | exact HB.out | apply below_alloc | apply pw_below_drewN | apply below_drew1 | refine below_set ?_ GE288.out | refine below_set ?_ GE297.out | refine below_set ?_ GE304.out) | exact HB.out)) hb); clear HO295; clear HO302; clear HO307; clear HO311; clear HO315; clear BK288; clear BK297; clear BK304; clear HB; have HO295 := n0_; have HO302 := n1_; have HO307 := n2_; have HO311 := n3_; have HO315 := n4_; have HO318 := n5_; have BK288 := n6_; have BK297 := n7_; have BK304 := n8_; have HB := n9_; clear n0_ n1_ n2_ n3_ n4_ n5_ n6_ n7_ n8_ n9_; (try clear hb); (try clear hb2); (try clear hk); (try clear hi); (try clear ho0)))
          go_meet
          case rel => exact ⟨_, (t313), (t316), (t290), (by first | rfl | (simp; done) | (simp [*]; done)), H', ⟨by first | omega | exact Nat.le_refl _⟩, ⟨by (with_reducible repeat (first | apply Kd.R_alloc | apply Kd.R_drewN | apply Kd.R_drew)); exact Kd.R_mono HO307.out (fun _ hk => ⟨hk.1.1.2, ⟨hk.1.2, ⟨hk.2, ⟨(by simp [Value.ownBlock]), ⟨hk.1.1.1.1.2, hk.1.1.1.2⟩⟩⟩⟩⟩)⟩, ⟨by (with_reducible repeat (first | apply Kd.R_alloc | apply Kd.R_drewN | apply Kd.R_drew)); exact Kd.R_mono HO311.out (fun _ hk => ⟨hk.1.1.2, ⟨hk.1.2, ⟨hk.2, ⟨(by simp [Value.ownBlock]), ⟨hk.1.1.1.1.2, hk.1.1.1.2⟩⟩⟩⟩⟩)⟩, ⟨by (with_reducible repeat (first | apply Kd.R_alloc | apply Kd.R_drewN | apply Kd.R_drew)); exact Kd.R_mono HO315.out (fun _ hk => ⟨hk.1.1.2, ⟨hk.1.2, ⟨hk.2, ⟨(by simp [Value.ownBlock]), ⟨hk.1.1.1.1.2, hk.1.1.1.2⟩⟩⟩⟩⟩)⟩, ⟨by (with_reducible repeat (first | apply Kd.R_alloc | apply Kd.R_drewN | apply Kd.R_drew)); exact Kd.R_mono HO318.out (fun _ hk => ⟨hk.1.1.2, ⟨hk.1.2, ⟨hk.2, ⟨(by simp [Value.ownBlock]), ⟨hk.1.1.1.1.2, hk.1.1.1.2⟩⟩⟩⟩⟩)⟩, ⟨by first | exact Kd.R_nil _ _ _ _ _ | exact Kd.N_nil _ _ _ _ _ | exact Kd.V_nil _ _ _ _ _ | exact Kd.Q_nil _ _ _ _ _ | exact Kd.S_nil _ _ _ _ _⟩, ⟨by (with_reducible repeat (first | apply Kd.Q_alloc | apply Kd.Q_drewN | apply Kd.Q_drew)); exact Kd.Q_mono HO295.out (fun _ hk => ⟨hk.1.1.1.2, ⟨hk.1.1.2, ⟨hk.1.2, ⟨hk.2, ⟨(by simp [Value.ownBlock]), hk.1.1.1.1.2⟩⟩⟩⟩⟩)⟩, ⟨Kd.Q_of_R (by (with_reducible repeat (first | apply Kd.R_alloc | apply Kd.R_drewN | apply Kd.R_drew)); exact Kd.R_mono HO302.out (fun _ hk => ⟨hk.1.1.1.2, ⟨hk.1.1.2, ⟨hk.1.2, ⟨hk.2, ⟨(by simp [Value.ownBlock]), hk.1.1.1.1.2⟩⟩⟩⟩⟩))⟩, ⟨by (with_reducible repeat (first | refine blk_drewN ?_ _ | refine blk_drew ?_ | refine blk_alloc ?_ _)); exact BK288.out⟩, ⟨by (with_reducible repeat (first | refine blk_drewN ?_ _ | refine blk_drew ?_ | refine blk_alloc ?_ _)); exact BK297.out⟩, ⟨by (with_reducible repeat (first | refine blk_drewN ?_ _ | refine blk_drew ?_ | refine blk_alloc ?_ _)); exact BK304.out⟩, ⟨by repeat (first | (with_reducible first | exact HB.out | apply below_alloc | apply pw_below_drewN | apply below_drew1 | refine below_set ?_ GE288.out | refine below_set ?_ GE297.out | refine below_set ?_ GE304.out) | exact HB.out)⟩⟩
      · rw [if_neg c35] at H
        have c35b0 : (t290 == 0) = false := beq_eq_false_iff_ne.mpr c35
        have c35b1 : (t290 != 0) = true := bne_iff_ne.mpr c35
        (first | rw [c35b0] | (simp only [i64_w, i32_w]; rw [c35b0]) | skip)
        have H' := Aside0.mk H
        clear H
        go_wp2
        go_meet
        case rel => exact ⟨_, (([] : List (S77))), (([] : List (S77))), (t290), (by first | rfl | (simp; done) | (simp [*]; done)), H', ⟨by first | omega | exact Nat.le_refl _⟩, ⟨by (with_reducible repeat (first | apply Kd.R_alloc | apply Kd.R_drewN | apply Kd.R_drew)); exact Kd.R_mono HO307.out (fun _ hk => ⟨hk.2, ⟨(by simp [Value.ownBlock]), ⟨(by simp [Value.ownBlock]), ⟨(by simp [Value.ownBlock]), ⟨hk.1.1.2, hk.1.2⟩⟩⟩⟩⟩)⟩, ⟨by (with_reducible repeat (first | apply Kd.R_alloc | apply Kd.R_drewN | apply Kd.R_drew)); exact Kd.R_mono HO311.out (fun _ hk => ⟨hk.2, ⟨(by simp [Value.ownBlock]), ⟨(by simp [Value.ownBlock]), ⟨(by simp [Value.ownBlock]), ⟨hk.1.1.2, hk.1.2⟩⟩⟩⟩⟩)⟩, ⟨by first | exact Kd.R_nil _ _ _ _ _ | exact Kd.N_nil _ _ _ _ _ | exact Kd.V_nil _ _ _ _ _ | exact Kd.Q_nil _ _ _ _ _ | exact Kd.S_nil _ _ _ _ _⟩, ⟨by first | exact Kd.R_nil _ _ _ _ _ | exact Kd.N_nil _ _ _ _ _ | exact Kd.V_nil _ _ _ _ _ | exact Kd.Q_nil _ _ _ _ _ | exact Kd.S_nil _ _ _ _ _⟩, ⟨by first | exact Kd.R_nil _ _ _ _ _ | exact Kd.N_nil _ _ _ _ _ | exact Kd.V_nil _ _ _ _ _ | exact Kd.Q_nil _ _ _ _ _ | exact Kd.S_nil _ _ _ _ _⟩, ⟨by (with_reducible repeat (first | apply Kd.Q_alloc | apply Kd.Q_drewN | apply Kd.Q_drew)); exact Kd.Q_mono HO295.out (fun _ hk => ⟨hk.1.2, ⟨hk.2, ⟨(by simp [Value.ownBlock]), ⟨(by simp [Value.ownBlock]), ⟨(by simp [Value.ownBlock]), hk.1.1.2⟩⟩⟩⟩⟩)⟩, ⟨Kd.Q_of_R (by (with_reducible repeat (first | apply Kd.R_alloc | apply Kd.R_drewN | apply Kd.R_drew)); exact Kd.R_mono HO302.out (fun _ hk => ⟨hk.1.2, ⟨hk.2, ⟨(by simp [Value.ownBlock]), ⟨(by simp [Value.ownBlock]), ⟨(by simp [Value.ownBlock]), hk.1.1.2⟩⟩⟩⟩⟩))⟩, ⟨by (with_reducible repeat (first | refine blk_drewN ?_ _ | refine blk_drew ?_ | refine blk_alloc ?_ _)); exact BK288.out⟩, ⟨by (with_reducible repeat (first | refine blk_drewN ?_ _ | refine blk_drew ?_ | refine blk_alloc ?_ _)); exact BK297.out⟩, ⟨by (with_reducible repeat (first | refine blk_drewN ?_ _ | refine blk_drew ?_ | refine blk_alloc ?_ _)); exact BK304.out⟩, ⟨by repeat (first | (with_reducible first | exact HB.out | apply below_alloc | apply pw_below_drewN | apply below_drew1 | refine below_set ?_ GE288.out | refine below_set ?_ GE297.out | refine below_set ?_ GE304.out) | exact HB.out)⟩⟩
    case rest =>
      clear HC13
      try clear c2
      try clear p2
      try clear c3
      try clear c4
      try clear c7
      try clear c21
      try clear c27
      try clear c28
      try clear c35
      try clear c35b0
      try clear c35b1
      try clear c37
      try clear c37b0
      try clear c38
      try clear c39
      try clear c43
      try clear c44
      try clear hcz16_0
      try clear hcz16_1
      try clear hcz16_2
      try clear hcz18_0
      try clear hcz18_1
      try clear hcz18_2
      try clear hcz22_0
      try clear hcz22_1
      try clear hcz22_2
      try clear hcz24_0
      try clear hcz24_1
      try clear hcz24_2
      try clear hcz29_0
      try clear hcz29_1
      try clear hcz29_2
      try clear hcz31_0
      try clear hcz31_1
      try clear hcz31_2
      try clear hcz33_0
      try clear hcz33_1
      try clear hcz33_2
      try clear hcz40_0
      try clear hcz40_1
      try clear hcz40_2
      try clear hcz45_0
      try clear hcz45_1
      try clear hcz45_2
      try clear hcz47_0
      try clear hcz47_1
      try clear hcz47_2
      try clear hfz16_0
      try clear hfz16_1
      try clear hfz16_2
      try clear hfz18_0
      try clear hfz18_1
      try clear hfz18_2
      try clear hfz22_0
      try clear hfz22_1
      try clear hfz22_2
      try clear hfz24_0
      try clear hfz24_1
      try clear hfz24_2
      try clear hfz29_0
      try clear hfz29_1
      try clear hfz29_2
      try clear hfz31_0
      try clear hfz31_1
      try clear hfz31_2
      try clear hfz33_0
      try clear hfz33_1
      try clear hfz33_2
      try clear hfz40_0
      try clear hfz40_1
      try clear hfz40_2
      try clear hfz45_0
      try clear hfz45_1
      try clear hfz45_2
      try clear hfz47_0
      try clear hfz47_1
      try clear hfz47_2
      obtain ⟨kq, x20_12, x21_12, x23_12, rfl, HA, HJ12, HO_16, HO_18, HO_20, HO_21, HO_22, HO_298002, HO_305002, BK288, BK297, BK304, HB⟩ := hcut
      cases kq with
      | zero => exact absurd HA.out (by simp [patchbaylaw3_SackSays.j0])
      | succ kj12 =>
        have H := HA.out
        clear HA
        simp only [patchbaylaw3_SackSays.j0] at H
        have H' := Aside0.mk H
        clear H
        go_wp2
        go_loopg [24, 25] kj12 (fun kq v24 v25 w' => ∃ (x24_2 : Int) (x25_2 : Int), v24 = .int .i64 x24_2 ∧ v25 = .int .i64 x25_2 ∧ Aside0 (patchbaylaw3_SackSays.l0 kq l2 a4 t290 t296 t303 t305 t308 t309 t312 x20_12 x21_12 ([] : List (S77)) x23_12 x24_2 x25_2 a0_0 a0_1 l0_2 t291 t292 t293 t298 t299 t300 = some r) ∧ Aside0 (kq ≤ kj12) ∧ Aside0 (Kd.R k77 77 w' w.heap.size (fun k_ => some k_ ≠ (v310 : Value).ownBlock ∧ some k_ ≠ (u20 : Value).ownBlock ∧ some k_ ≠ (u21 : Value).ownBlock ∧ some k_ ≠ ((.slice none 0 0) : Value).ownBlock ∧ some k_ ≠ ((.slice Ao23 t293.length co23) : Value).ownBlock ∧ some k_ ≠ ((.slice Ao30 t300.length co30) : Value).ownBlock) v306 t305) ∧ Aside0 (Kd.R k77 77 w' w.heap.size (fun k_ => some k_ ≠ (v306 : Value).ownBlock ∧ some k_ ≠ (u20 : Value).ownBlock ∧ some k_ ≠ (u21 : Value).ownBlock ∧ some k_ ≠ ((.slice none 0 0) : Value).ownBlock ∧ some k_ ≠ ((.slice Ao23 t293.length co23) : Value).ownBlock ∧ some k_ ≠ ((.slice Ao30 t300.length co30) : Value).ownBlock) v310 t309) ∧ Aside0 (Kd.R k77 77 w' w.heap.size (fun k_ => some k_ ≠ (v306 : Value).ownBlock ∧ some k_ ≠ (v310 : Value).ownBlock ∧ some k_ ≠ (u21 : Value).ownBlock ∧ some k_ ≠ ((.slice none 0 0) : Value).ownBlock ∧ some k_ ≠ ((.slice Ao23 t293.length co23) : Value).ownBlock ∧ some k_ ≠ ((.slice Ao30 t300.length co30) : Value).ownBlock) u20 x20_12) ∧ Aside0 (Kd.R k77 77 w' w.heap.size (fun k_ => some k_ ≠ (v306 : Value).ownBlock ∧ some k_ ≠ (v310 : Value).ownBlock ∧ some k_ ≠ (u20 : Value).ownBlock ∧ some k_ ≠ ((.slice none 0 0) : Value).ownBlock ∧ some k_ ≠ ((.slice Ao23 t293.length co23) : Value).ownBlock ∧ some k_ ≠ ((.slice Ao30 t300.length co30) : Value).ownBlock) u21 x21_12) ∧ Aside0 (Kd.R k77 77 w' w.heap.size (fun k_ => some k_ ≠ (v306 : Value).ownBlock ∧ some k_ ≠ (v310 : Value).ownBlock ∧ some k_ ≠ (u20 : Value).ownBlock ∧ some k_ ≠ (u21 : Value).ownBlock ∧ some k_ ≠ ((.slice Ao23 t293.length co23) : Value).ownBlock ∧ some k_ ≠ ((.slice Ao30 t300.length co30) : Value).ownBlock) (.slice none 0 0) ([] : List (S77))) ∧ Aside0 (Kd.Q k77 77 w' w.heap.size (fun k_ => some k_ ≠ (v306 : Value).ownBlock ∧ some k_ ≠ (v310 : Value).ownBlock ∧ some k_ ≠ (u20 : Value).ownBlock ∧ some k_ ≠ (u21 : Value).ownBlock ∧ some k_ ≠ ((.slice none 0 0) : Value).ownBlock ∧ some k_ ≠ ((.slice Ao30 t300.length co30) : Value).ownBlock) (.slice Ao23 t293.length co23) t293) ∧ Aside0 (Kd.Q k77 77 w' w.heap.size (fun k_ => some k_ ≠ (v306 : Value).ownBlock ∧ some k_ ≠ (v310 : Value).ownBlock ∧ some k_ ≠ (u20 : Value).ownBlock ∧ some k_ ≠ (u21 : Value).ownBlock ∧ some k_ ≠ ((.slice none 0 0) : Value).ownBlock ∧ some k_ ≠ ((.slice Ao23 t293.length co23) : Value).ownBlock) (.slice Ao30 t300.length co30) t300) ∧ Aside0 (w'.heap[gb288]? = some (.cells #[.int .u32 a0_0, .int .u32 a0_1, (.slice A0_2 l0_2.length c0_2)] 66 (0, 0))) ∧ Aside0 (w'.heap[gb297]? = some (.cells #[.int .u32 t291, .int .u32 t292, (.slice Ao23 t293.length co23)] 66 (0, 0))) ∧ Aside0 (w'.heap[gb304]? = some (.cells #[.int .u32 t298, .int .u32 t299, (.slice Ao30 t300.length co30)] 66 (0, 0))) ∧ Aside0 (Below w.heap.size w w'))
        case atStart => exact ⟨(0), (0), (by first | rfl | (simp; done) | (simp [*]; done)), (by first | rfl | (simp; done) | (simp [*]; done)), H', ⟨Nat.le_refl _⟩, ⟨by (with_reducible repeat (first | apply Kd.R_alloc | apply Kd.R_drewN | apply Kd.R_drew)); exact HO_16.out⟩, ⟨by (with_reducible repeat (first | apply Kd.R_alloc | apply Kd.R_drewN | apply Kd.R_drew)); exact HO_18.out⟩, ⟨by (with_reducible repeat (first | apply Kd.R_alloc | apply Kd.R_drewN | apply Kd.R_drew)); exact HO_20.out⟩, ⟨by (with_reducible repeat (first | apply Kd.R_alloc | apply Kd.R_drewN | apply Kd.R_drew)); exact HO_21.out⟩, ⟨by (with_reducible repeat (first | apply Kd.R_alloc | apply Kd.R_drewN | apply Kd.R_drew)); exact HO_22.out⟩, ⟨by (with_reducible repeat (first | apply Kd.Q_alloc | apply Kd.Q_drewN | apply Kd.Q_drew)); exact HO_298002.out⟩, ⟨by (with_reducible repeat (first | apply Kd.Q_alloc | apply Kd.Q_drewN | apply Kd.Q_drew)); exact HO_305002.out⟩, ⟨by (with_reducible repeat (first | refine blk_drewN ?_ _ | refine blk_drew ?_ | refine blk_alloc ?_ _)); exact BK288.out⟩, ⟨by (with_reducible repeat (first | refine blk_drewN ?_ _ | refine blk_drew ?_ | refine blk_alloc ?_ _)); exact BK297.out⟩, ⟨by (with_reducible repeat (first | refine blk_drewN ?_ _ | refine blk_drew ?_ | refine blk_alloc ?_ _)); exact BK304.out⟩, ⟨by repeat (first | (with_reducible first | exact HB.out | apply below_alloc | apply pw_below_drewN | apply below_drew1 | refine below_set ?_ GE288.out | refine below_set ?_ GE297.out | refine below_set ?_ GE304.out) | exact HB.out)⟩⟩
        case round =>
          clear H'
          try clear c2
          try clear p2
          try clear c3
          try clear c4
          try clear c7
          try clear c21
          try clear c27
          try clear c28
          try clear c35
          try clear c35b0
          try clear c35b1
          try clear c37
          try clear c37b0
          try clear c38
          try clear c39
          try clear c43
          try clear c44
          try clear hcz16_0
          try clear hcz16_1
          try clear hcz16_2
          try clear hcz18_0
          try clear hcz18_1
          try clear hcz18_2
          try clear hcz22_0
          try clear hcz22_1
          try clear hcz22_2
          try clear hcz24_0
          try clear hcz24_1
          try clear hcz24_2
          try clear hcz29_0
          try clear hcz29_1
          try clear hcz29_2
          try clear hcz31_0
          try clear hcz31_1
          try clear hcz31_2
          try clear hcz33_0
          try clear hcz33_1
          try clear hcz33_2
          try clear hcz40_0
          try clear hcz40_1
          try clear hcz40_2
          try clear hcz45_0
          try clear hcz45_1
          try clear hcz45_2
          try clear hcz47_0
          try clear hcz47_1
          try clear hcz47_2
          try clear hfz16_0
          try clear hfz16_1
          try clear hfz16_2
          try clear hfz18_0
          try clear hfz18_1
          try clear hfz18_2
          try clear hfz22_0
          try clear hfz22_1
          try clear hfz22_2
          try clear hfz24_0
          try clear hfz24_1
          try clear hfz24_2
          try clear hfz29_0
          try clear hfz29_1
          try clear hfz29_2
          try clear hfz31_0
          try clear hfz31_1
          try clear hfz31_2
          try clear hfz33_0
          try clear hfz33_1
          try clear hfz33_2
          try clear hfz40_0
          try clear hfz40_1
          try clear hfz40_2
          try clear hfz45_0
          try clear hfz45_1
          try clear hfz45_2
          try clear hfz47_0
          try clear hfz47_1
          try clear hfz47_2
          try clear p2
          obtain ⟨x24_2, x25_2, rfl, rfl, HA, HK2, HO_16, HO_18, HO_20, HO_21, HO_22, HO_298002, HO_305002, BK288, BK297, BK304, HB⟩ := hrel
          cases gk with
          | zero => exact absurd HA.out (by simp [patchbaylaw3_SackSays.l0])
          | succ k2 =>
            have H := HA.out
            clear HA
            simp only [patchbaylaw3_SackSays.l0] at H
            have HC49 := Aside0.mk H
            clear H
            go_upto_region 18 with (fail)
            go_cut [78] (fun v78 wc => ∃ (kq : Nat) (x78_48 : Bool), v78 = .bool x78_48 ∧ Aside0 (patchbaylaw3_SackSays.j2 kq l2 a4 t290 t296 t303 t305 t308 t309 t312 x20_12 x21_12 ([] : List (S77)) x23_12 x24_2 x25_2 x78_48 a0_0 a0_1 l0_2 t291 t292 t293 t298 t299 t300 = some r) ∧ Aside0 (kq ≤ k2) ∧ Aside0 (Kd.R k77 77 wc w.heap.size (fun k_ => some k_ ≠ (v310 : Value).ownBlock ∧ some k_ ≠ (u20 : Value).ownBlock ∧ some k_ ≠ (u21 : Value).ownBlock ∧ some k_ ≠ ((.slice none 0 0) : Value).ownBlock ∧ some k_ ≠ ((.slice Ao23 t293.length co23) : Value).ownBlock ∧ some k_ ≠ ((.slice Ao30 t300.length co30) : Value).ownBlock) v306 t305) ∧ Aside0 (Kd.R k77 77 wc w.heap.size (fun k_ => some k_ ≠ (v306 : Value).ownBlock ∧ some k_ ≠ (u20 : Value).ownBlock ∧ some k_ ≠ (u21 : Value).ownBlock ∧ some k_ ≠ ((.slice none 0 0) : Value).ownBlock ∧ some k_ ≠ ((.slice Ao23 t293.length co23) : Value).ownBlock ∧ some k_ ≠ ((.slice Ao30 t300.length co30) : Value).ownBlock) v310 t309) ∧ Aside0 (Kd.R k77 77 wc w.heap.size (fun k_ => some k_ ≠ (v306 : Value).ownBlock ∧ some k_ ≠ (v310 : Value).ownBlock ∧ some k_ ≠ (u21 : Value).ownBlock ∧ some k_ ≠ ((.slice none 0 0) : Value).ownBlock ∧ some k_ ≠ ((.slice Ao23 t293.length co23) : Value).ownBlock ∧ some k_ ≠ ((.slice Ao30 t300.length co30) : Value).ownBlock) u20 x20_12) ∧ Aside0 (Kd.R k77 77 wc w.heap.size (fun k_ => some k_ ≠ (v306 : Value).ownBlock ∧ some k_ ≠ (v310 : Value).ownBlock ∧ some k_ ≠ (u20 : Value).ownBlock ∧ some k_ ≠ ((.slice none 0 0) : Value).ownBlock ∧ some k_ ≠ ((.slice Ao23 t293.length co23) : Value).ownBlock ∧ some k_ ≠ ((.slice Ao30 t300.length co30) : Value).ownBlock) u21 x21_12) ∧ Aside0 (Kd.R k77 77 wc w.heap.size (fun k_ => some k_ ≠ (v306 : Value).ownBlock ∧ some k_ ≠ (v310 : Value).ownBlock ∧ some k_ ≠ (u20 : Value).ownBlock ∧ some k_ ≠ (u21 : Value).ownBlock ∧ some k_ ≠ ((.slice Ao23 t293.length co23) : Value).ownBlock ∧ some k_ ≠ ((.slice Ao30 t300.length co30) : Value).ownBlock) (.slice none 0 0) ([] : List (S77))) ∧ Aside0 (Kd.Q k77 77 wc w.heap.size (fun k_ => some k_ ≠ (v306 : Value).ownBlock ∧ some k_ ≠ (v310 : Value).ownBlock ∧ some k_ ≠ (u20 : Value).ownBlock ∧ some k_ ≠ (u21 : Value).ownBlock ∧ some k_ ≠ ((.slice none 0 0) : Value).ownBlock ∧ some k_ ≠ ((.slice Ao30 t300.length co30) : Value).ownBlock) (.slice Ao23 t293.length co23) t293) ∧ Aside0 (Kd.Q k77 77 wc w.heap.size (fun k_ => some k_ ≠ (v306 : Value).ownBlock ∧ some k_ ≠ (v310 : Value).ownBlock ∧ some k_ ≠ (u20 : Value).ownBlock ∧ some k_ ≠ (u21 : Value).ownBlock ∧ some k_ ≠ ((.slice none 0 0) : Value).ownBlock ∧ some k_ ≠ ((.slice Ao23 t293.length co23) : Value).ownBlock) (.slice Ao30 t300.length co30) t300) ∧ Aside0 (wc.heap[gb288]? = some (.cells #[.int .u32 a0_0, .int .u32 a0_1, (.slice A0_2 l0_2.length c0_2)] 66 (0, 0))) ∧ Aside0 (wc.heap[gb297]? = some (.cells #[.int .u32 t291, .int .u32 t292, (.slice Ao23 t293.length co23)] 66 (0, 0))) ∧ Aside0 (wc.heap[gb304]? = some (.cells #[.int .u32 t298, .int .u32 t299, (.slice Ao30 t300.length co30)] 66 (0, 0))) ∧ Aside0 (Below w.heap.size w wc))
            case first =>
              have H := HC49.out
              clear HC49
              by_cases c50 : x25_2 < (l2.length : Int)
              · rw [if_pos c50] at H
                have c50b0 : decide (x25_2 < (l2.length : Int)) = true := decide_eq_true c50
                clear c50
                (first | rw [c50b0] | (simp only [i64_w, i32_w]; rw [c50b0]) | skip)
                have H' := Aside0.mk H
                clear H
                go_wp2
                go_meet
                case rel => exact ⟨_, ((x24_2 == 0)), (by first | rfl | (simp; done) | (simp [*]; done)), H', ⟨by have := HJ12.out; have := HK2.out; first | omega | exact Nat.le_refl _⟩, ⟨by (with_reducible repeat (first | apply Kd.R_alloc | apply Kd.R_drewN | apply Kd.R_drew)); exact HO_16.out⟩, ⟨by (with_reducible repeat (first | apply Kd.R_alloc | apply Kd.R_drewN | apply Kd.R_drew)); exact HO_18.out⟩, ⟨by (with_reducible repeat (first | apply Kd.R_alloc | apply Kd.R_drewN | apply Kd.R_drew)); exact HO_20.out⟩, ⟨by (with_reducible repeat (first | apply Kd.R_alloc | apply Kd.R_drewN | apply Kd.R_drew)); exact HO_21.out⟩, ⟨by (with_reducible repeat (first | apply Kd.R_alloc | apply Kd.R_drewN | apply Kd.R_drew)); exact HO_22.out⟩, ⟨by (with_reducible repeat (first | apply Kd.Q_alloc | apply Kd.Q_drewN | apply Kd.Q_drew)); exact HO_298002.out⟩, ⟨by (with_reducible repeat (first | apply Kd.Q_alloc | apply Kd.Q_drewN | apply Kd.Q_drew)); exact HO_305002.out⟩, ⟨by (with_reducible repeat (first | refine blk_drewN ?_ _ | refine blk_drew ?_ | refine blk_alloc ?_ _)); exact BK288.out⟩, ⟨by (with_reducible repeat (first | refine blk_drewN ?_ _ | refine blk_drew ?_ | refine blk_alloc ?_ _)); exact BK297.out⟩, ⟨by (with_reducible repeat (first | refine blk_drewN ?_ _ | refine blk_drew ?_ | refine blk_alloc ?_ _)); exact BK304.out⟩, ⟨by repeat (first | (with_reducible first | exact HB.out | apply below_alloc | apply pw_below_drewN | apply below_drew1 | refine below_set ?_ GE288.out | refine below_set ?_ GE297.out | refine below_set ?_ GE304.out) | exact HB.out)⟩⟩
              · rw [if_neg c50] at H
                have c50b0 : decide (x25_2 < (l2.length : Int)) = false := decide_eq_false c50
                clear c50
                (first | rw [c50b0] | (simp only [i64_w, i32_w]; rw [c50b0]) | skip)
                have H' := Aside0.mk H
                clear H
                go_wp2
                go_meet
                case rel => exact ⟨_, (false), (by first | rfl | (simp; done) | (simp [*]; done)), H', ⟨by have := HJ12.out; have := HK2.out; first | omega | exact Nat.le_refl _⟩, ⟨by (with_reducible repeat (first | apply Kd.R_alloc | apply Kd.R_drewN | apply Kd.R_drew)); exact HO_16.out⟩, ⟨by (with_reducible repeat (first | apply Kd.R_alloc | apply Kd.R_drewN | apply Kd.R_drew)); exact HO_18.out⟩, ⟨by (with_reducible repeat (first | apply Kd.R_alloc | apply Kd.R_drewN | apply Kd.R_drew)); exact HO_20.out⟩, ⟨by (with_reducible repeat (first | apply Kd.R_alloc | apply Kd.R_drewN | apply Kd.R_drew)); exact HO_21.out⟩, ⟨by (with_reducible repeat (first | apply Kd.R_alloc | apply Kd.R_drewN | apply Kd.R_drew)); exact HO_22.out⟩, ⟨by (with_reducible repeat (first | apply Kd.Q_alloc | apply Kd.Q_drewN | apply Kd.Q_drew)); exact HO_298002.out⟩, ⟨by (with_reducible repeat (first | apply Kd.Q_alloc | apply Kd.Q_drewN | apply Kd.Q_drew)); exact HO_305002.out⟩, ⟨by (with_reducible repeat (first | refine blk_drewN ?_ _ | refine blk_drew ?_ | refine blk_alloc ?_ _)); exact BK288.out⟩, ⟨by (with_reducible repeat (first | refine blk_drewN ?_ _ | refine blk_drew ?_ | refine blk_alloc ?_ _)); exact BK297.out⟩, ⟨by (with_reducible repeat (first | refine blk_drewN ?_ _ | refine blk_drew ?_ | refine blk_alloc ?_ _)); exact BK304.out⟩, ⟨by repeat (first | (with_reducible first | exact HB.out | apply below_alloc | apply pw_below_drewN | apply below_drew1 | refine below_set ?_ GE288.out | refine below_set ?_ GE297.out | refine below_set ?_ GE304.out) | exact HB.out)⟩⟩
            case rest =>
              clear HC49
              try clear c2
              try clear p2
              try clear c3
              try clear c4
              try clear c5
              try clear c7
              try clear c21
              try clear c27
              try clear c28
              try clear c35
              try clear c35b0
              try clear c35b1
              try clear c37
              try clear c37b0
              try clear c38
              try clear c39
              try clear c43
              try clear c44
              try clear c50
              try clear c50b0
              try clear hcz16_0
              try clear hcz16_1
              try clear hcz16_2
              try clear hcz18_0
              try clear hcz18_1
              try clear hcz18_2
              try clear hcz22_0
              try clear hcz22_1
              try clear hcz22_2
              try clear hcz24_0
              try clear hcz24_1
              try clear hcz24_2
              try clear hcz29_0
              try clear hcz29_1
              try clear hcz29_2
              try clear hcz31_0
              try clear hcz31_1
              try clear hcz31_2
              try clear hcz33_0
              try clear hcz33_1
              try clear hcz33_2
              try clear hcz40_0
              try clear hcz40_1
              try clear hcz40_2
              try clear hcz45_0
              try clear hcz45_1
              try clear hcz45_2
              try clear hcz47_0
              try clear hcz47_1
              try clear hcz47_2
              try clear hfz16_0
              try clear hfz16_1
              try clear hfz16_2
              try clear hfz18_0
              try clear hfz18_1
              try clear hfz18_2
              try clear hfz22_0
              try clear hfz22_1
              try clear hfz22_2
              try clear hfz24_0
              try clear hfz24_1
              try clear hfz24_2
              try clear hfz29_0
              try clear hfz29_1
              try clear hfz29_2
              try clear hfz31_0
              try clear hfz31_1
              try clear hfz31_2
              try clear hfz33_0
              try clear hfz33_1
              try clear hfz33_2
              try clear hfz40_0
              try clear hfz40_1
              try clear hfz40_2
              try clear hfz45_0
              try clear hfz45_1
              try clear hfz45_2
              try clear hfz47_0
              try clear hfz47_1
              try clear hfz47_2
              try clear p2
              obtain ⟨kq, x78_48, rfl, HA, HJ48, HO_16, HO_18, HO_20, HO_21, HO_22, HO_298002, HO_305002, BK288, BK297, BK304, HB⟩ := hcut
              cases kq with
              | zero => exact absurd HA.out (by simp [patchbaylaw3_SackSays.j2])
              | succ kj48 =>
                have H := HA.out
                clear HA
                simp only [patchbaylaw3_SackSays.j2] at H
                by_cases c51 : x78_48 = true
                · subst c51
                  have H1 : (if 0 ≤ x25_2 then (if x25_2 < (l2.length : Int) then ((patchbayref3_Diff.f ((rd_T77 l2 x25_2).f1) ((rd_T77 l2 x25_2).f0)).bind fun t321 => (if t321 ≤ 0 then (patchbaylaw3_SackSays.l0 kj48 l2 a4 t290 t296 t303 t305 t308 t309 t312 x20_12 x21_12 ([] : List (S77)) x23_12 10 (wrap64 (x25_2 + 1)) a0_0 a0_1 l0_2 t291 t292 t293 t298 t299 t300) else (patchbaylaw3_SackSays.l0 kj48 l2 a4 t290 t296 t303 t305 t308 t309 t312 x20_12 x21_12 ([] : List (S77)) x23_12 x24_2 (wrap64 (x25_2 + 1)) a0_0 a0_1 l0_2 t291 t292 t293 t298 t299 t300))) else (none)) else (none)) = some r := by rw [if_pos rfl] at H; exact H
                  clear H
                  have H := H1
                  clear H1
                  by_cases c52 : 0 ≤ x25_2
                  · rw [if_pos c52] at H
                    have c52b0 : decide (0 ≤ x25_2) = true := decide_eq_true c52
                    clear c52
                    by_cases c53 : x25_2 < (l2.length : Int)
                    · rw [if_pos c53] at H
                      have c53b0 : decide (x25_2 < (l2.length : Int)) = true := decide_eq_true c53
                      clear c53
                      replace H := Option.bind_eq_some_iff.mp H
                      obtain ⟨t321, A540, H⟩ := H
                      replace H : (if t321 ≤ 0 then (patchbaylaw3_SackSays.l0 kj48 l2 a4 t290 t296 t303 t305 t308 t309 t312 x20_12 x21_12 ([] : List (S77)) x23_12 10 (wrap64 (x25_2 + 1)) a0_0 a0_1 l0_2 t291 t292 t293 t298 t299 t300) else (patchbaylaw3_SackSays.l0 kj48 l2 a4 t290 t296 t303 t305 t308 t309 t312 x20_12 x21_12 ([] : List (S77)) x23_12 x24_2 (wrap64 (x25_2 + 1)) a0_0 a0_1 l0_2 t291 t292 t293 t298 t299 t300)) = some r := H
                      have A54 := Aside0.mk A540
                      clear A540
                      by_cases c55 : t321 ≤ 0
                      · rw [if_pos c55] at H
                        have c55b0 : decide (t321 ≤ 0) = true := decide_eq_true c55
                        clear c55
                        have H' := Aside0.mk H
                        clear H
                        have p319 : 0 ≤ (x25_2 : Int) := of_decide_eq_true (by first | (with_reducible assumption) | assumption)
                        have q319 : x25_2 < (l2.length : Int) := of_decide_eq_true (by first | (with_reducible assumption) | assumption)
                        obtain ⟨ad319, e319, hx319_0, hx319_1⟩ := at_T77 HR2.out x25_2 p319 q319
                        cases e319
                        replace hx319_0 := (HB.out.cell (World.block_lt_of_cell? w _ hx319_0)).trans hx319_0
                        replace hx319_1 := (HB.out.cell (World.block_lt_of_cell? w _ hx319_1)).trans hx319_1
                        replace p319 := eq_true p319
                        replace q319 := eq_true q319
                        have p320 : 0 ≤ (x25_2 : Int) := of_decide_eq_true (by first | (with_reducible assumption) | assumption)
                        have q320 : x25_2 < (l2.length : Int) := of_decide_eq_true (by first | (with_reducible assumption) | assumption)
                        obtain ⟨ad320, e320, hx320_0, hx320_1⟩ := at_T77 HR2.out x25_2 p320 q320
                        obtain rfl : ad319 = ad320 := (by injection e320)
                        replace hx320_0 := (HB.out.cell (World.block_lt_of_cell? w _ hx320_0)).trans hx320_0
                        replace hx320_1 := (HB.out.cell (World.block_lt_of_cell? w _ hx320_1)).trans hx320_1
                        replace p320 := eq_true p320
                        replace q320 := eq_true q320
                        go_wp2_with (first | (go_at_call 17; (with_reducible refine (patchbayref3_Diff.calls ((rd_T77 l2 x25_2).f1) ((rd_T77 l2 x25_2).f0) t321 _ A54.out).mono ?_); rintro e w' ⟨rfl, ⟨nd, rfl⟩⟩; (try first | exact ⟨rfl, _, World.drewN_drewN _ _ _⟩ | exact ⟨rfl, _, Eq.trans (World.drewN_drewN _ _ _) (congrArg (World.drewN _) (Nat.add_assoc _ _ _))⟩)))
                        repeat (go_quiet (first | (go_at_call 17; (with_reducible refine (patchbayref3_Diff.calls ((rd_T77 l2 x25_2).f1) ((rd_T77 l2 x25_2).f0) t321 _ A54.out).mono ?_); rintro e w' ⟨rfl, ⟨nd, rfl⟩⟩; (try first | exact ⟨rfl, _, World.drewN_drewN _ _ _⟩ | exact ⟨rfl, _, Eq.trans (World.drewN_drewN _ _ _) (congrArg (World.drewN _) (Nat.add_assoc _ _ _))⟩))); try go_wp2_with (first | (go_at_call 17; (with_reducible refine (patchbayref3_Diff.calls ((rd_T77 l2 x25_2).f1) ((rd_T77 l2 x25_2).f0) t321 _ A54.out).mono ?_); rintro e w' ⟨rfl, ⟨nd, rfl⟩⟩; (try first | exact ⟨rfl, _, World.drewN_drewN _ _ _⟩ | exact ⟨rfl, _, Eq.trans (World.drewN_drewN _ _ _) (congrArg (World.drewN _) (Nat.add_assoc _ _ _))⟩))))
                        go_roundg kj48
                        case measure => have := HJ12.out; have := HK2.out; have := HJ48.out; omega
                        case rel => exact ⟨(10), (wrap64 (x25_2 + 1)), (by first | rfl | (simp; done) | (simp [*]; done)), (by first | rfl | (simp; done) | (simp [*]; done)), H', ⟨by have := HJ12.out; have := HK2.out; have := HJ48.out; omega⟩, ⟨by (with_reducible repeat (first | apply Kd.R_alloc | apply Kd.R_drewN | apply Kd.R_drew)); exact HO_16.out⟩, ⟨by (with_reducible repeat (first | apply Kd.R_alloc | apply Kd.R_drewN | apply Kd.R_drew)); exact HO_18.out⟩, ⟨by (with_reducible repeat (first | apply Kd.R_alloc | apply Kd.R_drewN | apply Kd.R_drew)); exact HO_20.out⟩, ⟨by (with_reducible repeat (first | apply Kd.R_alloc | apply Kd.R_drewN | apply Kd.R_drew)); exact HO_21.out⟩, ⟨by (with_reducible repeat (first | apply Kd.R_alloc | apply Kd.R_drewN | apply Kd.R_drew)); exact HO_22.out⟩, ⟨by (with_reducible repeat (first | apply Kd.Q_alloc | apply Kd.Q_drewN | apply Kd.Q_drew)); exact HO_298002.out⟩, ⟨by (with_reducible repeat (first | apply Kd.Q_alloc | apply Kd.Q_drewN | apply Kd.Q_drew)); exact HO_305002.out⟩, ⟨by (with_reducible repeat (first | refine blk_drewN ?_ _ | refine blk_drew ?_ | refine blk_alloc ?_ _)); exact BK288.out⟩, ⟨by (with_reducible repeat (first | refine blk_drewN ?_ _ | refine blk_drew ?_ | refine blk_alloc ?_ _)); exact BK297.out⟩, ⟨by (with_reducible repeat (first | refine blk_drewN ?_ _ | refine blk_drew ?_ | refine blk_alloc ?_ _)); exact BK304.out⟩, ⟨by repeat (first | (with_reducible first | exact HB.out | apply below_alloc | apply pw_below_drewN | apply below_drew1 | refine below_set ?_ GE288.out | refine below_set ?_ GE297.out | refine below_set ?_ GE304.out) | exact HB.out)⟩⟩
                      · rw [if_neg c55] at H
                        have c55b0 : decide (t321 ≤ 0) = false := decide_eq_false c55
                        clear c55
                        have H' := Aside0.mk H
                        clear H
                        have p319 : 0 ≤ (x25_2 : Int) := of_decide_eq_true (by first | (with_reducible assumption) | assumption)
                        have q319 : x25_2 < (l2.length : Int) := of_decide_eq_true (by first | (with_reducible assumption) | assumption)
                        obtain ⟨ad319, e319, hx319_0, hx319_1⟩ := at_T77 HR2.out x25_2 p319 q319
                        cases e319
                        replace hx319_0 := (HB.out.cell (World.block_lt_of_cell? w _ hx319_0)).trans hx319_0
                        replace hx319_1 := (HB.out.cell (World.block_lt_of_cell? w _ hx319_1)).trans hx319_1
                        replace p319 := eq_true p319
                        replace q319 := eq_true q319
                        have p320 : 0 ≤ (x25_2 : Int) := of_decide_eq_true (by first | (with_reducible assumption) | assumption)
                        have q320 : x25_2 < (l2.length : Int) := of_decide_eq_true (by first | (with_reducible assumption) | assumption)
                        obtain ⟨ad320, e320, hx320_0, hx320_1⟩ := at_T77 HR2.out x25_2 p320 q320
                        obtain rfl : ad319 = ad320 := (by injection e320)
                        replace hx320_0 := (HB.out.cell (World.block_lt_of_cell? w _ hx320_0)).trans hx320_0
                        replace hx320_1 := (HB.out.cell (World.block_lt_of_cell? w _ hx320_1)).trans hx320_1
                        replace p320 := eq_true p320
                        replace q320 := eq_true q320
                        go_wp2_with (first | (go_at_call 17; (with_reducible refine (patchbayref3_Diff.calls ((rd_T77 l2 x25_2).f1) ((rd_T77 l2 x25_2).f0) t321 _ A54.out).mono ?_); rintro e w' ⟨rfl, ⟨nd, rfl⟩⟩; (try first | exact ⟨rfl, _, World.drewN_drewN _ _ _⟩ | exact ⟨rfl, _, Eq.trans (World.drewN_drewN _ _ _) (congrArg (World.drewN _) (Nat.add_assoc _ _ _))⟩)))
                        repeat (go_quiet (first | (go_at_call 17; (with_reducible refine (patchbayref3_Diff.calls ((rd_T77 l2 x25_2).f1) ((rd_T77 l2 x25_2).f0) t321 _ A54.out).mono ?_); rintro e w' ⟨rfl, ⟨nd, rfl⟩⟩; (try first | exact ⟨rfl, _, World.drewN_drewN _ _ _⟩ | exact ⟨rfl, _, Eq.trans (World.drewN_drewN _ _ _) (congrArg (World.drewN _) (Nat.add_assoc _ _ _))⟩))); try go_wp2_with (first | (go_at_call 17; (with_reducible refine (patchbayref3_Diff.calls ((rd_T77 l2 x25_2).f1) ((rd_T77 l2 x25_2).f0) t321 _ A54.out).mono ?_); rintro e w' ⟨rfl, ⟨nd, rfl⟩⟩; (try first | exact ⟨rfl, _, World.drewN_drewN _ _ _⟩ | exact ⟨rfl, _, Eq.trans (World.drewN_drewN _ _ _) (congrArg (World.drewN _) (Nat.add_assoc _ _ _))⟩))))
                        go_roundg kj48
                        case measure => have := HJ12.out; have := HK2.out; have := HJ48.out; omega
                        case rel => exact ⟨(x24_2), (wrap64 (x25_2 + 1)), (by first | rfl | (simp; done) | (simp [*]; done)), (by first | rfl | (simp; done) | (simp [*]; done)), H', ⟨by have := HJ12.out; have := HK2.out; have := HJ48.out; omega⟩, ⟨by (with_reducible repeat (first | apply Kd.R_alloc | apply Kd.R_drewN | apply Kd.R_drew)); exact HO_16.out⟩, ⟨by (with_reducible repeat (first | apply Kd.R_alloc | apply Kd.R_drewN | apply Kd.R_drew)); exact HO_18.out⟩, ⟨by (with_reducible repeat (first | apply Kd.R_alloc | apply Kd.R_drewN | apply Kd.R_drew)); exact HO_20.out⟩, ⟨by (with_reducible repeat (first | apply Kd.R_alloc | apply Kd.R_drewN | apply Kd.R_drew)); exact HO_21.out⟩, ⟨by (with_reducible repeat (first | apply Kd.R_alloc | apply Kd.R_drewN | apply Kd.R_drew)); exact HO_22.out⟩, ⟨by (with_reducible repeat (first | apply Kd.Q_alloc | apply Kd.Q_drewN | apply Kd.Q_drew)); exact HO_298002.out⟩, ⟨by (with_reducible repeat (first | apply Kd.Q_alloc | apply Kd.Q_drewN | apply Kd.Q_drew)); exact HO_305002.out⟩, ⟨by (with_reducible repeat (first | refine blk_drewN ?_ _ | refine blk_drew ?_ | refine blk_alloc ?_ _)); exact BK288.out⟩, ⟨by (with_reducible repeat (first | refine blk_drewN ?_ _ | refine blk_drew ?_ | refine blk_alloc ?_ _)); exact BK297.out⟩, ⟨by (with_reducible repeat (first | refine blk_drewN ?_ _ | refine blk_drew ?_ | refine blk_alloc ?_ _)); exact BK304.out⟩, ⟨by repeat (first | (with_reducible first | exact HB.out | apply below_alloc | apply pw_below_drewN | apply below_drew1 | refine below_set ?_ GE288.out | refine below_set ?_ GE297.out | refine below_set ?_ GE304.out) | exact HB.out)⟩⟩
                    · rw [if_neg c53] at H
                      exact absurd H (by simp)
                  · rw [if_neg c52] at H
                    exact absurd H (by simp)
                · replace c51 := Bool.eq_false_iff.mpr c51
                  subst c51
                  have H1 : (if (l2.length : Int) > 256 then (patchbaylaw3_SackSays.j3 kj48 l2 a4 t290 t296 t303 t305 t308 t309 t312 x20_12 x21_12 ([] : List (S77)) x23_12 2 a0_0 a0_1 l0_2 t291 t292 t293 t298 t299 t300) else (patchbaylaw3_SackSays.j3 kj48 l2 a4 t290 t296 t303 t305 t308 t309 t312 x20_12 x21_12 ([] : List (S77)) x23_12 x24_2 a0_0 a0_1 l0_2 t291 t292 t293 t298 t299 t300)) = some r := by rw [if_neg (show ¬ (false = true) by decide)] at H; exact H
                  clear H
                  have H := H1
                  clear H1
                  have HC56 := Aside0.mk H
                  clear H
                  go_upto_if 95 with (fail)
                  go_cut [24] (fun v24 wc => ∃ (kq : Nat) (x24_55 : Int), v24 = .int .i64 x24_55 ∧ Aside0 (patchbaylaw3_SackSays.j3 kq l2 a4 t290 t296 t303 t305 t308 t309 t312 x20_12 x21_12 ([] : List (S77)) x23_12 x24_55 a0_0 a0_1 l0_2 t291 t292 t293 t298 t299 t300 = some r) ∧ Aside0 (kq ≤ kj48) ∧ Aside0 (Kd.R k77 77 wc w.heap.size (fun k_ => some k_ ≠ (v310 : Value).ownBlock ∧ some k_ ≠ (u20 : Value).ownBlock ∧ some k_ ≠ (u21 : Value).ownBlock ∧ some k_ ≠ ((.slice none 0 0) : Value).ownBlock ∧ some k_ ≠ ((.slice Ao23 t293.length co23) : Value).ownBlock ∧ some k_ ≠ ((.slice Ao30 t300.length co30) : Value).ownBlock) v306 t305) ∧ Aside0 (Kd.R k77 77 wc w.heap.size (fun k_ => some k_ ≠ (v306 : Value).ownBlock ∧ some k_ ≠ (u20 : Value).ownBlock ∧ some k_ ≠ (u21 : Value).ownBlock ∧ some k_ ≠ ((.slice none 0 0) : Value).ownBlock ∧ some k_ ≠ ((.slice Ao23 t293.length co23) : Value).ownBlock ∧ some k_ ≠ ((.slice Ao30 t300.length co30) : Value).ownBlock) v310 t309) ∧ Aside0 (Kd.R k77 77 wc w.heap.size (fun k_ => some k_ ≠ (v306 : Value).ownBlock ∧ some k_ ≠ (v310 : Value).ownBlock ∧ some k_ ≠ (u21 : Value).ownBlock ∧ some k_ ≠ ((.slice none 0 0) : Value).ownBlock ∧ some k_ ≠ ((.slice Ao23 t293.length co23) : Value).ownBlock ∧ some k_ ≠ ((.slice Ao30 t300.length co30) : Value).ownBlock) u20 x20_12) ∧ Aside0 (Kd.R k77 77 wc w.heap.size (fun k_ => some k_ ≠ (v306 : Value).ownBlock ∧ some k_ ≠ (v310 : Value).ownBlock ∧ some k_ ≠ (u20 : Value).ownBlock ∧ some k_ ≠ ((.slice none 0 0) : Value).ownBlock ∧ some k_ ≠ ((.slice Ao23 t293.length co23) : Value).ownBlock ∧ some k_ ≠ ((.slice Ao30 t300.length co30) : Value).ownBlock) u21 x21_12) ∧ Aside0 (Kd.R k77 77 wc w.heap.size (fun k_ => some k_ ≠ (v306 : Value).ownBlock ∧ some k_ ≠ (v310 : Value).ownBlock ∧ some k_ ≠ (u20 : Value).ownBlock ∧ some k_ ≠ (u21 : Value).ownBlock ∧ some k_ ≠ ((.slice Ao23 t293.length co23) : Value).ownBlock ∧ some k_ ≠ ((.slice Ao30 t300.length co30) : Value).ownBlock) (.slice none 0 0) ([] : List (S77))) ∧ Aside0 (Kd.Q k77 77 wc w.heap.size (fun k_ => some k_ ≠ (v306 : Value).ownBlock ∧ some k_ ≠ (v310 : Value).ownBlock ∧ some k_ ≠ (u20 : Value).ownBlock ∧ some k_ ≠ (u21 : Value).ownBlock ∧ some k_ ≠ ((.slice none 0 0) : Value).ownBlock ∧ some k_ ≠ ((.slice Ao30 t300.length co30) : Value).ownBlock) (.slice Ao23 t293.length co23) t293) ∧ Aside0 (Kd.Q k77 77 wc w.heap.size (fun k_ => some k_ ≠ (v306 : Value).ownBlock ∧ some k_ ≠ (v310 : Value).ownBlock ∧ some k_ ≠ (u20 : Value).ownBlock ∧ some k_ ≠ (u21 : Value).ownBlock ∧ some k_ ≠ ((.slice none 0 0) : Value).ownBlock ∧ some k_ ≠ ((.slice Ao23 t293.length co23) : Value).ownBlock) (.slice Ao30 t300.length co30) t300) ∧ Aside0 (wc.heap[gb288]? = some (.cells #[.int .u32 a0_0, .int .u32 a0_1, (.slice A0_2 l0_2.length c0_2)] 66 (0, 0))) ∧ Aside0 (wc.heap[gb297]? = some (.cells #[.int .u32 t291, .int .u32 t292, (.slice Ao23 t293.length co23)] 66 (0, 0))) ∧ Aside0 (wc.heap[gb304]? = some (.cells #[.int .u32 t298, .int .u32 t299, (.slice Ao30 t300.length co30)] 66 (0, 0))) ∧ Aside0 (Below w.heap.size w wc))
                  case first =>
                    have H := HC56.out
                    clear HC56
                    by_cases c57 : (l2.length : Int) > 256
                    · rw [if_pos c57] at H
                      have c57b0 : decide (256 < (l2.length : Int)) = true := decide_eq_true c57
                      have c57b1 : decide (256 < l2.length) = true := decide_eq_true (by omega)
                      clear c57
                      (first | rw [c57b0] | (simp only [i64_w, i32_w]; rw [c57b0]) | skip)
                      have H' := Aside0.mk H
                      clear H
                      go_wp2
                      go_meet
                      case rel => exact ⟨_, (2), (by first | rfl | (simp; done) | (simp [*]; done)), H', ⟨by have := HJ12.out; have := HK2.out; have := HJ48.out; first | omega | exact Nat.le_refl _⟩, ⟨by (with_reducible repeat (first | apply Kd.R_alloc | apply Kd.R_drewN | apply Kd.R_drew)); exact HO_16.out⟩, ⟨by (with_reducible repeat (first | apply Kd.R_alloc | apply Kd.R_drewN | apply Kd.R_drew)); exact HO_18.out⟩, ⟨by (with_reducible repeat (first | apply Kd.R_alloc | apply Kd.R_drewN | apply Kd.R_drew)); exact HO_20.out⟩, ⟨by (with_reducible repeat (first | apply Kd.R_alloc | apply Kd.R_drewN | apply Kd.R_drew)); exact HO_21.out⟩, ⟨by (with_reducible repeat (first | apply Kd.R_alloc | apply Kd.R_drewN | apply Kd.R_drew)); exact HO_22.out⟩, ⟨by (with_reducible repeat (first | apply Kd.Q_alloc | apply Kd.Q_drewN | apply Kd.Q_drew)); exact HO_298002.out⟩, ⟨by (with_reducible repeat (first | apply Kd.Q_alloc | apply Kd.Q_drewN | apply Kd.Q_drew)); exact HO_305002.out⟩, ⟨by (with_reducible repeat (first | refine blk_drewN ?_ _ | refine blk_drew ?_ | refine blk_alloc ?_ _)); exact BK288.out⟩, ⟨by (with_reducible repeat (first | refine blk_drewN ?_ _ | refine blk_drew ?_ | refine blk_alloc ?_ _)); exact BK297.out⟩, ⟨by (with_reducible repeat (first | refine blk_drewN ?_ _ | refine blk_drew ?_ | refine blk_alloc ?_ _)); exact BK304.out⟩, ⟨by repeat (first | (with_reducible first | exact HB.out | apply below_alloc | apply pw_below_drewN | apply below_drew1 | refine below_set ?_ GE288.out | refine below_set ?_ GE297.out | refine below_set ?_ GE304.out) | exact HB.out)⟩⟩
                    · rw [if_neg c57] at H
                      have c57b0 : decide (256 < (l2.length : Int)) = false := decide_eq_false c57
                      have c57b1 : decide (256 < l2.length) = false := decide_eq_false (by omega)
                      clear c57
                      (first | rw [c57b0] | (simp only [i64_w, i32_w]; rw [c57b0]) | skip)
                      have H' := Aside0.mk H
                      clear H
                      go_wp2
                      go_meet
                      case rel => exact ⟨_, (x24_2), (by first | rfl | (simp; done) | (simp [*]; done)), H', ⟨by have := HJ12.out; have := HK2.out; have := HJ48.out; first | omega | exact Nat.le_refl _⟩, ⟨by (with_reducible repeat (first | apply Kd.R_alloc | apply Kd.R_drewN | apply Kd.R_drew)); exact HO_16.out⟩, ⟨by (with_reducible repeat (first | apply Kd.R_alloc | apply Kd.R_drewN | apply Kd.R_drew)); exact HO_18.out⟩, ⟨by (with_reducible repeat (first | apply Kd.R_alloc | apply Kd.R_drewN | apply Kd.R_drew)); exact HO_20.out⟩, ⟨by (with_reducible repeat (first | apply Kd.R_alloc | apply Kd.R_drewN | apply Kd.R_drew)); exact HO_21.out⟩, ⟨by (with_reducible repeat (first | apply Kd.R_alloc | apply Kd.R_drewN | apply Kd.R_drew)); exact HO_22.out⟩, ⟨by (with_reducible repeat (first | apply Kd.Q_alloc | apply Kd.Q_drewN | apply Kd.Q_drew)); exact HO_298002.out⟩, ⟨by (with_reducible repeat (first | apply Kd.Q_alloc | apply Kd.Q_drewN | apply Kd.Q_drew)); exact HO_305002.out⟩, ⟨by (with_reducible repeat (first | refine blk_drewN ?_ _ | refine blk_drew ?_ | refine blk_alloc ?_ _)); exact BK288.out⟩, ⟨by (with_reducible repeat (first | refine blk_drewN ?_ _ | refine blk_drew ?_ | refine blk_alloc ?_ _)); exact BK297.out⟩, ⟨by (with_reducible repeat (first | refine blk_drewN ?_ _ | refine blk_drew ?_ | refine blk_alloc ?_ _)); exact BK304.out⟩, ⟨by repeat (first | (with_reducible first | exact HB.out | apply below_alloc | apply pw_below_drewN | apply below_drew1 | refine below_set ?_ GE288.out | refine below_set ?_ GE297.out | refine below_set ?_ GE304.out) | exact HB.out)⟩⟩
                  case rest =>
                    clear HC56
                    try clear c2
                    try clear p2
                    try clear c3
                    try clear p3
                    try clear q3
                    try clear hx3
                    try clear c4
                    try clear c5
                    try clear p6
                    try clear c7
                    try clear c21
                    try clear c27
                    try clear c28
                    try clear p31
                    try clear q31
                    try clear hx31
                    try clear p32
                    try clear q32
                    try clear hx32
                    try clear c35
                    try clear c35b0
                    try clear c35b1
                    try clear c37
                    try clear c37b0
                    try clear c38
                    try clear c39
                    try clear c43
                    try clear c44
                    try clear c50
                    try clear c50b0
                    try clear c51
                    try clear c52
                    try clear c52b0
                    try clear c53
                    try clear c53b0
                    try clear c55
                    try clear c55b0
                    try clear c57
                    try clear c57b0
                    try clear c57b1
                    try clear hcz16_0
                    try clear hcz16_1
                    try clear hcz16_2
                    try clear hcz18_0
                    try clear hcz18_1
                    try clear hcz18_2
                    try clear hcz22_0
                    try clear hcz22_1
                    try clear hcz22_2
                    try clear hcz24_0
                    try clear hcz24_1
                    try clear hcz24_2
                    try clear hcz29_0
                    try clear hcz29_1
                    try clear hcz29_2
                    try clear hcz31_0
                    try clear hcz31_1
                    try clear hcz31_2
                    try clear hcz33_0
                    try clear hcz33_1
                    try clear hcz33_2
                    try clear hcz40_0
                    try clear hcz40_1
                    try clear hcz40_2
                    try clear hcz45_0
                    try clear hcz45_1
                    try clear hcz45_2
                    try clear hcz47_0
                    try clear hcz47_1
                    try clear hcz47_2
                    try clear hfz16_0
                    try clear hfz16_1
                    try clear hfz16_2
                    try clear hfz18_0
                    try clear hfz18_1
                    try clear hfz18_2
                    try clear hfz22_0
                    try clear hfz22_1
                    try clear hfz22_2
                    try clear hfz24_0
                    try clear hfz24_1
                    try clear hfz24_2
                    try clear hfz29_0
                    try clear hfz29_1
                    try clear hfz29_2
                    try clear hfz31_0
                    try clear hfz31_1
                    try clear hfz31_2
                    try clear hfz33_0
                    try clear hfz33_1
                    try clear hfz33_2
                    try clear hfz40_0
                    try clear hfz40_1
                    try clear hfz40_2
                    try clear hfz45_0
                    try clear hfz45_1
                    try clear hfz45_2
                    try clear hfz47_0
                    try clear hfz47_1
                    try clear hfz47_2
                    try clear hx319_0
                    try clear hx319_1
                    try clear hx320_0
                    try clear hx320_1
                    try clear p2
                    try clear p319
                    try clear p320
                    try clear q319
                    try clear q320
                    obtain ⟨kq, x24_55, rfl, HA, HJ55, HO_16, HO_18, HO_20, HO_21, HO_22, HO_298002, HO_305002, BK288, BK297, BK304, HB⟩ := hcut
                    cases kq with
                    | zero => exact absurd HA.out (by simp [patchbaylaw3_SackSays.j3])
                    | succ kj55 =>
                      have H := HA.out
                      clear HA
                      simp only [patchbaylaw3_SackSays.j3] at H
                      have HC58 := Aside0.mk H
                      clear H
                      go_upto_if 97 with (fail)
                      go_cut [22] (fun v22 wc => ∃ (kq : Nat) (x22_57 : List (S77)), Aside0 (patchbaylaw3_SackSays.j4 kq l2 a4 t290 t296 t303 t305 t308 t309 t312 x20_12 x21_12 x22_57 x23_12 x24_55 a0_0 a0_1 l0_2 t291 t292 t293 t298 t299 t300 = some r) ∧ Aside0 (kq ≤ kj55) ∧ Aside0 (Kd.R k77 77 wc w.heap.size (fun k_ => some k_ ≠ (v310 : Value).ownBlock ∧ some k_ ≠ (u20 : Value).ownBlock ∧ some k_ ≠ (u21 : Value).ownBlock ∧ some k_ ≠ (v22 : Value).ownBlock ∧ some k_ ≠ ((.slice Ao23 t293.length co23) : Value).ownBlock ∧ some k_ ≠ ((.slice Ao30 t300.length co30) : Value).ownBlock) v306 t305) ∧ Aside0 (Kd.R k77 77 wc w.heap.size (fun k_ => some k_ ≠ (v306 : Value).ownBlock ∧ some k_ ≠ (u20 : Value).ownBlock ∧ some k_ ≠ (u21 : Value).ownBlock ∧ some k_ ≠ (v22 : Value).ownBlock ∧ some k_ ≠ ((.slice Ao23 t293.length co23) : Value).ownBlock ∧ some k_ ≠ ((.slice Ao30 t300.length co30) : Value).ownBlock) v310 t309) ∧ Aside0 (Kd.R k77 77 wc w.heap.size (fun k_ => some k_ ≠ (v306 : Value).ownBlock ∧ some k_ ≠ (v310 : Value).ownBlock ∧ some k_ ≠ (u21 : Value).ownBlock ∧ some k_ ≠ (v22 : Value).ownBlock ∧ some k_ ≠ ((.slice Ao23 t293.length co23) : Value).ownBlock ∧ some k_ ≠ ((.slice Ao30 t300.length co30) : Value).ownBlock) u20 x20_12) ∧ Aside0 (Kd.R k77 77 wc w.heap.size (fun k_ => some k_ ≠ (v306 : Value).ownBlock ∧ some k_ ≠ (v310 : Value).ownBlock ∧ some k_ ≠ (u20 : Value).ownBlock ∧ some k_ ≠ (v22 : Value).ownBlock ∧ some k_ ≠ ((.slice Ao23 t293.length co23) : Value).ownBlock ∧ some k_ ≠ ((.slice Ao30 t300.length co30) : Value).ownBlock) u21 x21_12) ∧ Aside0 (Kd.R k77 77 wc w.heap.size (fun k_ => some k_ ≠ (v306 : Value).ownBlock ∧ some k_ ≠ (v310 : Value).ownBlock ∧ some k_ ≠ (u20 : Value).ownBlock ∧ some k_ ≠ (u21 : Value).ownBlock ∧ some k_ ≠ ((.slice Ao23 t293.length co23) : Value).ownBlock ∧ some k_ ≠ ((.slice Ao30 t300.length co30) : Value).ownBlock) v22 x22_57) ∧ Aside0 (Kd.Q k77 77 wc w.heap.size (fun k_ => some k_ ≠ (v306 : Value).ownBlock ∧ some k_ ≠ (v310 : Value).ownBlock ∧ some k_ ≠ (u20 : Value).ownBlock ∧ some k_ ≠ (u21 : Value).ownBlock ∧ some k_ ≠ (v22 : Value).ownBlock ∧ some k_ ≠ ((.slice Ao30 t300.length co30) : Value).ownBlock) (.slice Ao23 t293.length co23) t293) ∧ Aside0 (Kd.Q k77 77 wc w.heap.size (fun k_ => some k_ ≠ (v306 : Value).ownBlock ∧ some k_ ≠ (v310 : Value).ownBlock ∧ some k_ ≠ (u20 : Value).ownBlock ∧ some k_ ≠ (u21 : Value).ownBlock ∧ some k_ ≠ (v22 : Value).ownBlock ∧ some k_ ≠ ((.slice Ao23 t293.length co23) : Value).ownBlock) (.slice Ao30 t300.length co30) t300) ∧ Aside0 (wc.heap[gb288]? = some (.cells #[.int .u32 a0_0, .int .u32 a0_1, (.slice A0_2 l0_2.length c0_2)] 66 (0, 0))) ∧ Aside0 (wc.heap[gb297]? = some (.cells #[.int .u32 t291, .int .u32 t292, (.slice Ao23 t293.length co23)] 66 (0, 0))) ∧ Aside0 (wc.heap[gb304]? = some (.cells #[.int .u32 t298, .int .u32 t299, (.slice Ao30 t300.length co30)] 66 (0, 0))) ∧ Aside0 (Below w.heap.size w wc))
                      case first =>
                        have H := HC58.out
                        clear HC58
                        by_cases c59 : x24_55 = 0
                        · rw [if_pos c59] at H
                          have c59b0 : (x24_55 == 0) = true := beq_iff_eq.mpr c59
                          have c59b1 : (x24_55 != 0) = false := bne_eq_false_iff_eq.mpr c59
                          clear c59
                          (first | rw [c59b0] | (simp only [i64_w, i32_w]; rw [c59b0]) | skip)
                          replace H := Option.bind_eq_some_iff.mp H
                          obtain ⟨t322, A600, H⟩ := H
                          replace H : (patchbaylaw3_SackSays.j4 kj55 l2 a4 t290 t296 t303 t305 t308 t309 t312 x20_12 x21_12 t322 x23_12 x24_55 a0_0 a0_1 l0_2 t291 t292 t293 t298 t299 t300) = some r := H
                          have A60 := Aside0.mk A600
                          clear A600
                          have H' := Aside0.mk H
                          clear H
                          go_wp2_with (first | (go_at_call 50; (with_reducible refine (patchbayref3_Chosen.calls kj55 _ _ l2 a4 t322 _ ?side1 ?side2 A60.out).mono ?_); (case side1 => repeat (first | exact (Kd.C_below HR2.out HB.out) | (with_reducible refine Kd.C_alloc ?_ _) | (with_reducible refine Kd.C_drewN ?_ _) | (with_reducible refine Kd.C_drew ?_))); (case side2 => exact HC2.out); rintro e w61 ⟨v323, rfl, ho0, hb⟩; have n0_ := Aside0.mk (Kd.R_elder' (by (with_reducible repeat (first | apply Kd.R_alloc | apply Kd.R_drewN | apply Kd.R_drew)); exact HO_16.out) (Kd.R_base ho0) hb); have n1_ := Aside0.mk (Kd.R_elder' (by (with_reducible repeat (first | apply Kd.R_alloc | apply Kd.R_drewN | apply Kd.R_drew)); exact HO_18.out) (Kd.R_base ho0) hb); have n2_ := Aside0.mk (Kd.R_elder' (by (with_reducible repeat (first | apply Kd.R_alloc | apply Kd.R_drewN | apply Kd.R_drew)); exact HO_20.out) (Kd.R_base ho0) hb); have n3_ := Aside0.mk (Kd.R_elder' (by (with_reducible repeat (first | apply Kd.R_alloc | apply Kd.R_drewN | apply Kd.R_drew)); exact HO_21.out) (Kd.R_base ho0) hb); have n4_ := Aside0.mk (Kd.R_elder' (by (with_reducible repeat (first | apply Kd.R_alloc | apply Kd.R_drewN | apply Kd.R_drew)); exact HO_22.out) (Kd.R_base ho0) hb); have n5_ := Aside0.mk (Kd.Q_elder' (by (with_reducible repeat (first | apply Kd.Q_alloc | apply Kd.Q_drewN | apply Kd.Q_drew)); exact HO_298002.out) (Kd.R_base ho0) hb); have n6_ := Aside0.mk (Kd.Q_elder' (by (with_reducible repeat (first | apply Kd.Q_alloc | apply Kd.Q_drewN | apply Kd.Q_drew)); exact HO_305002.out) (Kd.R_base ho0) hb); have n7_ := Aside0.mk (Kd.R_lower (Kd.R_new' (Kd.R_new' (Kd.R_new' (Kd.R_new' (Kd.R_new' (Kd.R_new' (Kd.R_new' ho0 (Kd.R_lt (by (with_reducible repeat (first | apply Kd.R_alloc | apply Kd.R_drewN | apply Kd.R_drew)); exact HO_16.out))) (Kd.R_lt (by (with_reducible repeat (first | apply Kd.R_alloc | apply Kd.R_drewN | apply Kd.R_drew)); exact HO_18.out))) (Kd.R_lt (by (with_reducible repeat (first | apply Kd.R_alloc | apply Kd.R_drewN | apply Kd.R_drew)); exact HO_20.out))) (Kd.R_lt (by (with_reducible repeat (first | apply Kd.R_alloc | apply Kd.R_drewN | apply Kd.R_drew)); exact HO_21.out))) (Kd.R_lt (by (with_reducible repeat (first | apply Kd.R_alloc | apply Kd.R_drewN | apply Kd.R_drew)); exact HO_22.out))) (Kd.Q_lt (by (with_reducible repeat (first | apply Kd.Q_alloc | apply Kd.Q_drewN | apply Kd.Q_drew)); exact HO_298002.out))) (Kd.Q_lt (by (with_reducible repeat (first | apply Kd.Q_alloc | apply Kd.Q_drewN | apply Kd.Q_drew)); exact HO_305002.out))) (below_size (by repeat (first | (with_reducible first | exact HB.out | apply below_alloc | apply pw_below_drewN | apply below_drew1 | refine below_set ?_ GE288.out | refine below_set ?_ GE297.out | refine below_set ?_ GE304.out) | exact HB.out)))); have n8_ := Aside0.mk (blk_below (g := gb288) (o := .cells #[.int .u32 a0_0, .int .u32 a0_1, .slice A0_2 l0_2.length c0_2] 66 (0, 0)) (by (with_reducible repeat (first | refine blk_drewN ?_ _ | refine blk_drew ?_ | refine blk_alloc ?_ _)); exact BK288.out) hb); have n9_ := Aside0.mk (blk_below (g := gb297) (o := .cells #[.int .u32 t291, .int .u32 t292, .slice Ao23 t293.length co23] 66 (0, 0)) (by (with_reducible repeat (first | refine blk_drewN ?_ _ | refine blk_drew ?_ | refine blk_alloc ?_ _)); exact BK297.out) hb); have n10_ := Aside0.mk (blk_below (g := gb304) (o := .cells #[.int .u32 t298, .int .u32 t299, .slice Ao30 t300.length co30] 66 (0, 0)) (by (with_reducible repeat (first | refine blk_drewN ?_ _ | refine blk_drew ?_ | refine blk_alloc ?_ _)); exact BK304.out) hb); have n11_ := Aside0.mk (below_step (by repeat (first | (with_reducible first | exact HB.out | apply below_alloc | apply pw_below_drewN | apply below_drew1 | refine below_set ?_ GE288.out | refine below_set ?_ GE297.out | refine below_set ?_ GE304.out) | exact HB.out)) hb); clear HO_16; clear HO_18; clear HO_20; clear HO_21; clear HO_22; clear HO_298002; clear HO_305002; clear BK288; clear BK297; clear BK304; clear HB; have HO_16 := n0_; have HO_18 := n1_; have HO_20 := n2_; have HO_21 := n3_; have HO_22 := n4_; have HO_298002 := n5_; have HO_305002 := n6_; have HO324 := n7_; have BK288 := n8_; have BK297 := n9_; have BK304 := n10_; have HB := n11_; clear n0_ n1_ n2_ n3_ n4_ n5_ n6_ n7_ n8_ n9_ n10_ n11_; (try clear hb); (try clear hb2); (try clear hk); (try clear hi); (try clear ho0)))
                          go_meet
                          case rel => exact ⟨_, (t322), H', ⟨by have := HJ12.out; have := HK2.out; have := HJ48.out; have := HJ55.out; first | omega | exact Nat.le_refl _⟩, ⟨by (with_reducible repeat (first | apply Kd.R_alloc | apply Kd.R_drewN | apply Kd.R_drew)); exact Kd.R_mono HO_16.out (fun _ hk => ⟨hk.1.1, ⟨hk.1.2.1, ⟨hk.1.2.2.1, ⟨hk.2, ⟨hk.1.2.2.2.2.1, hk.1.2.2.2.2.2⟩⟩⟩⟩⟩)⟩, ⟨by (with_reducible repeat (first | apply Kd.R_alloc | apply Kd.R_drewN | apply Kd.R_drew)); exact Kd.R_mono HO_18.out (fun _ hk => ⟨hk.1.1, ⟨hk.1.2.1, ⟨hk.1.2.2.1, ⟨hk.2, ⟨hk.1.2.2.2.2.1, hk.1.2.2.2.2.2⟩⟩⟩⟩⟩)⟩, ⟨by (with_reducible repeat (first | apply Kd.R_alloc | apply Kd.R_drewN | apply Kd.R_drew)); exact Kd.R_mono HO_20.out (fun _ hk => ⟨hk.1.1, ⟨hk.1.2.1, ⟨hk.1.2.2.1, ⟨hk.2, ⟨hk.1.2.2.2.2.1, hk.1.2.2.2.2.2⟩⟩⟩⟩⟩)⟩, ⟨by (with_reducible repeat (first | apply Kd.R_alloc | apply Kd.R_drewN | apply Kd.R_drew)); exact Kd.R_mono HO_21.out (fun _ hk => ⟨hk.1.1, ⟨hk.1.2.1, ⟨hk.1.2.2.1, ⟨hk.2, ⟨hk.1.2.2.2.2.1, hk.1.2.2.2.2.2⟩⟩⟩⟩⟩)⟩, ⟨by (with_reducible repeat (first | apply Kd.R_alloc | apply Kd.R_drewN | apply Kd.R_drew)); exact Kd.R_mono HO324.out (fun _ hk => ⟨hk.1.1.1.1.1.1.2, ⟨hk.1.1.1.1.1.2, ⟨hk.1.1.1.1.2, ⟨hk.1.1.1.2, ⟨hk.1.2, hk.2⟩⟩⟩⟩⟩)⟩, ⟨by (with_reducible repeat (first | apply Kd.Q_alloc | apply Kd.Q_drewN | apply Kd.Q_drew)); exact Kd.Q_mono HO_298002.out (fun _ hk => ⟨hk.1.1, ⟨hk.1.2.1, ⟨hk.1.2.2.1, ⟨hk.1.2.2.2.1, ⟨hk.2, hk.1.2.2.2.2.2⟩⟩⟩⟩⟩)⟩, ⟨by (with_reducible repeat (first | apply Kd.Q_alloc | apply Kd.Q_drewN | apply Kd.Q_drew)); exact Kd.Q_mono HO_305002.out (fun _ hk => ⟨hk.1.1, ⟨hk.1.2.1, ⟨hk.1.2.2.1, ⟨hk.1.2.2.2.1, ⟨hk.2, hk.1.2.2.2.2.2⟩⟩⟩⟩⟩)⟩, ⟨by (with_reducible repeat (first | refine blk_drewN ?_ _ | refine blk_drew ?_ | refine blk_alloc ?_ _)); exact BK288.out⟩, ⟨by (with_reducible repeat (first | refine blk_drewN ?_ _ | refine blk_drew ?_ | refine blk_alloc ?_ _)); exact BK297.out⟩, ⟨by (with_reducible repeat (first | refine blk_drewN ?_ _ | refine blk_drew ?_ | refine blk_alloc ?_ _)); exact BK304.out⟩, ⟨by repeat (first | (with_reducible first | exact HB.out | apply below_alloc | apply pw_below_drewN | apply below_drew1 | refine below_set ?_ GE288.out | refine below_set ?_ GE297.out | refine below_set ?_ GE304.out) | exact HB.out)⟩⟩
                        · rw [if_neg c59] at H
                          have c59b0 : (x24_55 == 0) = false := beq_eq_false_iff_ne.mpr c59
                          have c59b1 : (x24_55 != 0) = true := bne_iff_ne.mpr c59
                          (first | rw [c59b0] | (simp only [i64_w, i32_w]; rw [c59b0]) | skip)
                          have H' := Aside0.mk H
                          clear H
                          go_wp2
                          go_meet
                          case rel => exact ⟨_, (([] : List (S77))), H', ⟨by have := HJ12.out; have := HK2.out; have := HJ48.out; have := HJ55.out; first | omega | exact Nat.le_refl _⟩, ⟨by (with_reducible repeat (first | apply Kd.R_alloc | apply Kd.R_drewN | apply Kd.R_drew)); exact HO_16.out⟩, ⟨by (with_reducible repeat (first | apply Kd.R_alloc | apply Kd.R_drewN | apply Kd.R_drew)); exact HO_18.out⟩, ⟨by (with_reducible repeat (first | apply Kd.R_alloc | apply Kd.R_drewN | apply Kd.R_drew)); exact HO_20.out⟩, ⟨by (with_reducible repeat (first | apply Kd.R_alloc | apply Kd.R_drewN | apply Kd.R_drew)); exact HO_21.out⟩, ⟨by (with_reducible repeat (first | apply Kd.R_alloc | apply Kd.R_drewN | apply Kd.R_drew)); exact HO_22.out⟩, ⟨by (with_reducible repeat (first | apply Kd.Q_alloc | apply Kd.Q_drewN | apply Kd.Q_drew)); exact HO_298002.out⟩, ⟨by (with_reducible repeat (first | apply Kd.Q_alloc | apply Kd.Q_drewN | apply Kd.Q_drew)); exact HO_305002.out⟩, ⟨by (with_reducible repeat (first | refine blk_drewN ?_ _ | refine blk_drew ?_ | refine blk_alloc ?_ _)); exact BK288.out⟩, ⟨by (with_reducible repeat (first | refine blk_drewN ?_ _ | refine blk_drew ?_ | refine blk_alloc ?_ _)); exact BK297.out⟩, ⟨by (with_reducible repeat (first | refine blk_drewN ?_ _ | refine blk_drew ?_ | refine blk_alloc ?_ _)); exact BK304.out⟩, ⟨by repeat (first | (with_reducible first | exact HB.out | apply below_alloc | apply pw_below_drewN | apply below_drew1 | refine below_set ?_ GE288.out | refine below_set ?_ GE297.out | refine below_set ?_ GE304.out) | exact HB.out)⟩⟩
                      case rest =>
                        clear HC58
                        try clear c2
                        try clear p2
                        try clear c3
                        try clear p3
                        try clear q3
                        try clear hx3
                        try clear c4
                        try clear c5
                        try clear p6
                        try clear c7
                        try clear c21
                        try clear c27
                        try clear c28
                        try clear p31
                        try clear q31
                        try clear hx31
                        try clear p32
                        try clear q32
                        try clear hx32
                        try clear c35
                        try clear c35b0
                        try clear c35b1
                        try clear c37
                        try clear c37b0
                        try clear c38
                        try clear c39
                        try clear c43
                        try clear c44
                        try clear c50
                        try clear c50b0
                        try clear c51
                        try clear c52
                        try clear c52b0
                        try clear c53
                        try clear c53b0
                        try clear c55
                        try clear c55b0
                        try clear c57
                        try clear c57b0
                        try clear c57b1
                        try clear c59
                        try clear c59b0
                        try clear c59b1
                        try clear hcz16_0
                        try clear hcz16_1
                        try clear hcz16_2
                        try clear hcz18_0
                        try clear hcz18_1
                        try clear hcz18_2
                        try clear hcz22_0
                        try clear hcz22_1
                        try clear hcz22_2
                        try clear hcz24_0
                        try clear hcz24_1
                        try clear hcz24_2
                        try clear hcz29_0
                        try clear hcz29_1
                        try clear hcz29_2
                        try clear hcz31_0
                        try clear hcz31_1
                        try clear hcz31_2
                        try clear hcz33_0
                        try clear hcz33_1
                        try clear hcz33_2
                        try clear hcz40_0
                        try clear hcz40_1
                        try clear hcz40_2
                        try clear hcz45_0
                        try clear hcz45_1
                        try clear hcz45_2
                        try clear hcz47_0
                        try clear hcz47_1
                        try clear hcz47_2
                        try clear hfz16_0
                        try clear hfz16_1
                        try clear hfz16_2
                        try clear hfz18_0
                        try clear hfz18_1
                        try clear hfz18_2
                        try clear hfz22_0
                        try clear hfz22_1
                        try clear hfz22_2
                        try clear hfz24_0
                        try clear hfz24_1
                        try clear hfz24_2
                        try clear hfz29_0
                        try clear hfz29_1
                        try clear hfz29_2
                        try clear hfz31_0
                        try clear hfz31_1
                        try clear hfz31_2
                        try clear hfz33_0
                        try clear hfz33_1
                        try clear hfz33_2
                        try clear hfz40_0
                        try clear hfz40_1
                        try clear hfz40_2
                        try clear hfz45_0
                        try clear hfz45_1
                        try clear hfz45_2
                        try clear hfz47_0
                        try clear hfz47_1
                        try clear hfz47_2
                        try clear hx319_0
                        try clear hx319_1
                        try clear hx320_0
                        try clear hx320_1
                        try clear p2
                        try clear p3
                        try clear p31
                        try clear p319
                        try clear p32
                        try clear p320
                        try clear p6
                        try clear q3
                        try clear q31
                        try clear q319
                        try clear q32
                        try clear q320
                        obtain ⟨kq, x22_57, HA, HJ57, HO_16, HO_18, HO_20, HO_21, HO_22, HO_298002, HO_305002, BK288, BK297, BK304, HB⟩ := hcut
                        cases kq with
                        | zero => exact absurd HA.out (by simp [patchbaylaw3_SackSays.j4])
                        | succ kj57 =>
                          have H := HA.out
                          clear HA
                          simp only [patchbaylaw3_SackSays.j4] at H
                          replace H := Option.bind_eq_some_iff.mp H
                          obtain ⟨⟨t325, t326⟩, A620, H⟩ := H
                          replace H : ((sack_Check.f kj57 a0_0 a0_1 l0_2).bind fun t329 => (if t329 = t290 then ((patchbayref3_SameScore.f kj57 t298 t299 t300 t291 t292 t293).bind fun t330 => (if t330 = true then ((patchbayref3_SameBlocks.f kj57 t305 x20_12).bind fun t331 => (if t331 = true then (if t308 = t290 then ((patchbayref3_SameBlocks.f kj57 t309 x21_12).bind fun t332 => (if t332 = true then (if t303 = t296 then (if t312 = x23_12 then ((patchbayref3_SameBlocks.f kj57 t325 x22_57).bind fun t333 => (if t333 = true then (some (t326 == x24_55)) else (some false))) else (some false)) else (some false)) else (if t303 = t296 then (some false) else (some false)))) else (if t303 = t296 then (some false) else (some false))) else (if t303 = t296 then (some false) else (some false)))) else ((patchbayref3_SameBlocks.f kj57 t305 x20_12).bind fun t334 => (if t334 = true then (if t308 = t290 then ((patchbayref3_SameBlocks.f kj57 t309 x21_12).bind fun t335 => (if t335 = true then (some false) else (some false))) else (some false)) else (some false))))) else ((patchbayref3_SameBlocks.f kj57 t305 x20_12).bind fun t336 => (if t336 = true then (if t308 = t290 then ((patchbayref3_SameBlocks.f kj57 t309 x21_12).bind fun t337 => (if t337 = true then (some false) else (some false))) else (some false)) else (some false))))) = some r := H
                          have A62 := Aside0.mk A620
                          clear A620
                          replace H := Option.bind_eq_some_iff.mp H
                          obtain ⟨t329, A630, H⟩ := H
                          replace H : (if t329 = t290 then ((patchbayref3_SameScore.f kj57 t298 t299 t300 t291 t292 t293).bind fun t330 => (if t330 = true then ((patchbayref3_SameBlocks.f kj57 t305 x20_12).bind fun t331 => (if t331 = true then (if t308 = t290 then ((patchbayref3_SameBlocks.f kj57 t309 x21_12).bind fun t332 => (if t332 = true then (if t303 = t296 then (if t312 = x23_12 then ((patchbayref3_SameBlocks.f kj57 t325 x22_57).bind fun t333 => (if t333 = true then (some (t326 == x24_55)) else (some false))) else (some false)) else (some false)) else (if t303 = t296 then (some false) else (some false)))) else (if t303 = t296 then (some false) else (some false))) else (if t303 = t296 then (some false) else (some false)))) else ((patchbayref3_SameBlocks.f kj57 t305 x20_12).bind fun t334 => (if t334 = true then (if t308 = t290 then ((patchbayref3_SameBlocks.f kj57 t309 x21_12).bind fun t335 => (if t335 = true then (some false) else (some false))) else (some false)) else (some false))))) else ((patchbayref3_SameBlocks.f kj57 t305 x20_12).bind fun t336 => (if t336 = true then (if t308 = t290 then ((patchbayref3_SameBlocks.f kj57 t309 x21_12).bind fun t337 => (if t337 = true then (some false) else (some false))) else (some false)) else (some false)))) = some r := H
                          have A63 := Aside0.mk A630
                          clear A630
                          by_cases c64 : t329 = t290
                          · rw [if_pos c64] at H
                            have c64b0 : (t329 == t290) = true := beq_iff_eq.mpr c64
                            have c64b1 : (t329 != t290) = false := bne_eq_false_iff_eq.mpr c64
                            clear c64
                            replace H := Option.bind_eq_some_iff.mp H
                            obtain ⟨t330, A650, H⟩ := H
                            replace H : (if t330 = true then ((patchbayref3_SameBlocks.f kj57 t305 x20_12).bind fun t331 => (if t331 = true then (if t308 = t290 then ((patchbayref3_SameBlocks.f kj57 t309 x21_12).bind fun t332 => (if t332 = true then (if t303 = t296 then (if t312 = x23_12 then ((patchbayref3_SameBlocks.f kj57 t325 x22_57).bind fun t333 => (if t333 = true then (some (t326 == x24_55)) else (some false))) else (some false)) else (some false)) else (if t303 = t296 then (some false) else (some false)))) else (if t303 = t296 then (some false) else (some false))) else (if t303 = t296 then (some false) else (some false)))) else ((patchbayref3_SameBlocks.f kj57 t305 x20_12).bind fun t334 => (if t334 = true then (if t308 = t290 then ((patchbayref3_SameBlocks.f kj57 t309 x21_12).bind fun t335 => (if t335 = true then (some false) else (some false))) else (some false)) else (some false)))) = some r := H
                            have A65 := Aside0.mk A650
                            clear A650
                            by_cases c66 : t330 = true
                            · subst c66
                              have H1 : ((patchbayref3_SameBlocks.f kj57 t305 x20_12).bind fun t331 => (if t331 = true then (if t308 = t290 then ((patchbayref3_SameBlocks.f kj57 t309 x21_12).bind fun t332 => (if t332 = true then (if t303 = t296 then (if t312 = x23_12 then ((patchbayref3_SameBlocks.f kj57 t325 x22_57).bind fun t333 => (if t333 = true then (some (t326 == x24_55)) else (some false))) else (some false)) else (some false)) else (if t303 = t296 then (some false) else (some false)))) else (if t303 = t296 then (some false) else (some false))) else (if t303 = t296 then (some false) else (some false)))) = some r := by rw [if_pos rfl] at H; exact H
                              clear H
                              have H := H1
                              clear H1
                              replace H := Option.bind_eq_some_iff.mp H
                              obtain ⟨t331, A670, H⟩ := H
                              replace H : (if t331 = true then (if t308 = t290 then ((patchbayref3_SameBlocks.f kj57 t309 x21_12).bind fun t332 => (if t332 = true then (if t303 = t296 then (if t312 = x23_12 then ((patchbayref3_SameBlocks.f kj57 t325 x22_57).bind fun t333 => (if t333 = true then (some (t326 == x24_55)) else (some false))) else (some false)) else (some false)) else (if t303 = t296 then (some false) else (some false)))) else (if t303 = t296 then (some false) else (some false))) else (if t303 = t296 then (some false) else (some false))) = some r := H
                              have A67 := Aside0.mk A670
                              clear A670
                              by_cases c68 : t331 = true
                              · subst c68
                                have H1 : (if t308 = t290 then ((patchbayref3_SameBlocks.f kj57 t309 x21_12).bind fun t332 => (if t332 = true then (if t303 = t296 then (if t312 = x23_12 then ((patchbayref3_SameBlocks.f kj57 t325 x22_57).bind fun t333 => (if t333 = true then (some (t326 == x24_55)) else (some false))) else (some false)) else (some false)) else (if t303 = t296 then (some false) else (some false)))) else (if t303 = t296 then (some false) else (some false))) = some r := by rw [if_pos rfl] at H; exact H
                                clear H
                                have H := H1
                                clear H1
                                by_cases c69 : t308 = t290
                                · rw [if_pos c69] at H
                                  have c69b0 : (t308 == t290) = true := beq_iff_eq.mpr c69
                                  have c69b1 : (t308 != t290) = false := bne_eq_false_iff_eq.mpr c69
                                  clear c69
                                  replace H := Option.bind_eq_some_iff.mp H
                                  obtain ⟨t332, A700, H⟩ := H
                                  replace H : (if t332 = true then (if t303 = t296 then (if t312 = x23_12 then ((patchbayref3_SameBlocks.f kj57 t325 x22_57).bind fun t333 => (if t333 = true then (some (t326 == x24_55)) else (some false))) else (some false)) else (some false)) else (if t303 = t296 then (some false) else (some false))) = some r := H
                                  have A70 := Aside0.mk A700
                                  clear A700
                                  by_cases c71 : t332 = true
                                  · subst c71
                                    have H1 : (if t303 = t296 then (if t312 = x23_12 then ((patchbayref3_SameBlocks.f kj57 t325 x22_57).bind fun t333 => (if t333 = true then (some (t326 == x24_55)) else (some false))) else (some false)) else (some false)) = some r := by rw [if_pos rfl] at H; exact H
                                    clear H
                                    have H := H1
                                    clear H1
                                    by_cases c72 : t303 = t296
                                    · rw [if_pos c72] at H
                                      have c72b0 : (t303 == t296) = true := beq_iff_eq.mpr c72
                                      have c72b1 : (t303 != t296) = false := bne_eq_false_iff_eq.mpr c72
                                      clear c72
                                      by_cases c73 : t312 = x23_12
                                      · rw [if_pos c73] at H
                                        have c73b0 : (t312 == x23_12) = true := beq_iff_eq.mpr c73
                                        have c73b1 : (t312 != x23_12) = false := bne_eq_false_iff_eq.mpr c73
                                        clear c73
                                        replace H := Option.bind_eq_some_iff.mp H
                                        obtain ⟨t333, A740, H⟩ := H
                                        replace H : (if t333 = true then (some (t326 == x24_55)) else (some false)) = some r := H
                                        have A74 := Aside0.mk A740
                                        clear A740
                                        by_cases c75 : t333 = true
                                        · subst c75
                                          have H1 : (some (t326 == x24_55)) = some r := by rw [if_pos rfl] at H; exact H
                                          clear H
                                          have H := H1
                                          clear H1
                                          obtain rfl := Option.some.inj H
                                          go_wp2_with (first | (go_at_call 51; (with_reducible refine (sack_Choose.calls kj57 _ _ l2 a4 t325 t326 _ ?side1 ?side2 A62.out).mono ?_); (case side1 => repeat (first | exact (Kd.C_below HR2.out HB.out) | (with_reducible refine Kd.C_alloc ?_ _) | (with_reducible refine Kd.C_drewN ?_ _) | (with_reducible refine Kd.C_drew ?_))); (case side2 => exact HC2.out); rintro e w76 ⟨v327, rfl, ho0, hb⟩; have n0_ := Aside0.mk (Kd.R_elder' (by (with_reducible repeat (first | apply Kd.R_alloc | apply Kd.R_drewN | apply Kd.R_drew)); exact HO_16.out) (Kd.R_base ho0) hb); have n1_ := Aside0.mk (Kd.R_elder' (by (with_reducible repeat (first | apply Kd.R_alloc | apply Kd.R_drewN | apply Kd.R_drew)); exact HO_18.out) (Kd.R_base ho0) hb); have n2_ := Aside0.mk (Kd.R_elder' (by (with_reducible repeat (first | apply Kd.R_alloc | apply Kd.R_drewN | apply Kd.R_drew)); exact HO_20.out) (Kd.R_base ho0) hb); have n3_ := Aside0.mk (Kd.R_elder' (by (with_reducible repeat (first | apply Kd.R_alloc | apply Kd.R_drewN | apply Kd.R_drew)); exact HO_21.out) (Kd.R_base ho0) hb); have n4_ := Aside0.mk (Kd.R_elder' (by (with_reducible repeat (first | apply Kd.R_alloc | apply Kd.R_drewN | apply Kd.R_drew)); exact HO_22.out) (Kd.R_base ho0) hb); have n5_ := Aside0.mk (Kd.Q_elder' (by (with_reducible repeat (first | apply Kd.Q_alloc | apply Kd.Q_drewN | apply Kd.Q_drew)); exact HO_298002.out) (Kd.R_base ho0) hb); have n6_ := Aside0.mk (Kd.Q_elder' (by (with_reducible repeat (first | apply Kd.Q_alloc | apply Kd.Q_drewN | apply Kd.Q_drew)); exact HO_305002.out) (Kd.R_base ho0) hb); have n7_ := Aside0.mk (Kd.R_lower (Kd.R_new' (Kd.R_new' (Kd.R_new' (Kd.R_new' (Kd.R_new' (Kd.R_new' (Kd.R_new' ho0 (Kd.R_lt (by (with_reducible repeat (first | apply Kd.R_alloc | apply Kd.R_drewN | apply Kd.R_drew)); exact HO_16.out))) (Kd.R_lt (by (with_reducible repeat (first | apply Kd.R_alloc | apply Kd.R_drewN | apply Kd.R_drew)); exact HO_18.out))) (Kd.R_lt (by (with_reducible repeat (first | apply Kd.R_alloc | apply Kd.R_drewN | apply Kd.R_drew)); exact HO_20.out))) (Kd.R_lt (by (with_reducible repeat (first | apply Kd.R_alloc | apply Kd.R_drewN | apply Kd.R_drew)); exact HO_21.out))) (Kd.R_lt (by (with_reducible repeat (first | apply Kd.R_alloc | apply Kd.R_drewN | apply Kd.R_drew)); exact HO_22.out))) (Kd.Q_lt (by (with_reducible repeat (first | apply Kd.Q_alloc | apply Kd.Q_drewN | apply Kd.Q_drew)); exact HO_298002.out))) (Kd.Q_lt (by (with_reducible repeat (first | apply Kd.Q_alloc | apply Kd.Q_drewN | apply Kd.Q_drew)); exact HO_305002.out))) (below_size (by repeat (first | (with_reducible first | exact HB.out | apply below_alloc | apply pw_below_drewN | apply below_drew1 | refine below_set ?_ GE288.out | refine below_set ?_ GE297.out | refine below_set ?_ GE304.out) | exact HB.out)))); have n8_ := Aside0.mk (blk_below (g := gb288) (o := .cells #[.int .u32 a0_0, .int .u32 a0_1, .slice A0_2 l0_2.length c0_2] 66 (0, 0)) (by (with_reducible repeat (first | refine blk_drewN ?_ _ | refine blk_drew ?_ | refine blk_alloc ?_ _)); exact BK288.out) hb); have n9_ := Aside0.mk (blk_below (g := gb297) (o := .cells #[.int .u32 t291, .int .u32 t292, .slice Ao23 t293.length co23] 66 (0, 0)) (by (with_reducible repeat (first | refine blk_drewN ?_ _ | refine blk_drew ?_ | refine blk_alloc ?_ _)); exact BK297.out) hb); have n10_ := Aside0.mk (blk_below (g := gb304) (o := .cells #[.int .u32 t298, .int .u32 t299, .slice Ao30 t300.length co30] 66 (0, 0)) (by (with_reducible repeat (first | refine blk_drewN ?_ _ | refine blk_drew ?_ | refine blk_alloc ?_ _)); exact BK304.out) hb); have n11_ := Aside0.mk (below_step (by repeat (first | (with_reducible first | exact HB.out | apply below_alloc | apply pw_below_drewN | apply below_drew1 | refine below_set ?_ GE288.out | refine below_set ?_ GE297.out | refine below_set ?_ GE304.out) | exact HB.out)) hb); clear HO_16; clear HO_18; clear HO_20; clear HO_21; clear HO_22; clear HO_298002; clear HO_305002; clear BK288; clear BK297; clear BK304; clear HB; have HO_16 := n0_; have HO_18 := n1_; have HO_20 := n2_; have HO_21 := n3_; have HO_22 := n4_; have HO_298002 := n5_; have HO_305002 := n6_; have HO328 := n7_; have BK288 := n8_; have BK297 := n9_; have BK304 := n10_; have HB := n11_; clear n0_ n1_ n2_ n3_ n4_ n5_ n6_ n7_ n8_ n9_ n10_ n11_; (try clear hb); (try clear hb2); (try clear hk); (try clear hi); (try clear ho0); have hnb77 := NB288_297.out; have hnc77 := NB297_288.out; have hnb78 := NB288_304.out; have hnc78 := NB304_288.out; have hcz79_0 : w76.cell? ⟨gb288, 0, none⟩ = some (.int .u32 a0_0) := (blk_cell BK288.out 0).trans rfl; have hcz79_1 : w76.cell? ⟨gb288, 1, none⟩ = some (.int .u32 a0_1) := (blk_cell BK288.out 1).trans rfl; have hcz79_2 : w76.cell? ⟨gb288, 2, none⟩ = some (.slice A0_2 l0_2.length c0_2) := (blk_cell BK288.out 2).trans rfl; have hfz79_0 := blk_frozen BK288.out 0; have hfz79_1 := blk_frozen BK288.out 1; have hfz79_2 := blk_frozen BK288.out 2) | (go_at_call 52; (with_reducible refine (sack_Check.calls kj57 a0_0 a0_1 _ _ l0_2 t329 _ ?side1 ?side2 A63.out).mono ?_); (case side1 => repeat (first | exact (Kd.C_below HR0_2.out HB.out) | (with_reducible refine Kd.C_alloc ?_ _) | (with_reducible refine Kd.C_drewN ?_ _) | (with_reducible refine Kd.C_drew ?_))); (case side2 => exact HC0_2.out); rintro e w80 ⟨rfl, hb⟩; have n0_ := Aside0.mk (Kd.R_below (by (with_reducible repeat (first | apply Kd.R_alloc | apply Kd.R_drewN | apply Kd.R_drew)); exact HO_16.out) hb); have n1_ := Aside0.mk (Kd.R_below (by (with_reducible repeat (first | apply Kd.R_alloc | apply Kd.R_drewN | apply Kd.R_drew)); exact HO_18.out) hb); have n2_ := Aside0.mk (Kd.R_below (by (with_reducible repeat (first | apply Kd.R_alloc | apply Kd.R_drewN | apply Kd.R_drew)); exact HO_20.out) hb); have n3_ := Aside0.mk (Kd.R_below (by (with_reducible repeat (first | apply Kd.R_alloc | apply Kd.R_drewN | apply Kd.R_drew)); exact HO_21.out) hb); have n4_ := Aside0.mk (Kd.R_below (by (with_reducible repeat (first | apply Kd.R_alloc | apply Kd.R_drewN | apply Kd.R_drew)); exact HO_22.out) hb); have n5_ := Aside0.mk (Kd.Q_below (by (with_reducible repeat (first | apply Kd.Q_alloc | apply Kd.Q_drewN | apply Kd.Q_drew)); exact HO_298002.out) hb); have n6_ := Aside0.mk (Kd.Q_below (by (with_reducible repeat (first | apply Kd.Q_alloc | apply Kd.Q_drewN | apply Kd.Q_drew)); exact HO_305002.out) hb); have n7_ := Aside0.mk (Kd.R_below (by (with_reducible repeat (first | apply Kd.R_alloc | apply Kd.R_drewN | apply Kd.R_drew)); exact HO328.out) hb); have n8_ := Aside0.mk (blk_below (g := gb288) (o := .cells #[.int .u32 a0_0, .int .u32 a0_1, .slice A0_2 l0_2.length c0_2] 66 (0, 0)) (by (with_reducible repeat (first | refine blk_drewN ?_ _ | refine blk_drew ?_ | refine blk_alloc ?_ _)); exact BK288.out) hb); have n9_ := Aside0.mk (blk_below (g := gb297) (o := .cells #[.int .u32 t291, .int .u32 t292, .slice Ao23 t293.length co23] 66 (0, 0)) (by (with_reducible repeat (first | refine blk_drewN ?_ _ | refine blk_drew ?_ | refine blk_alloc ?_ _)); exact BK297.out) hb); have n10_ := Aside0.mk (blk_below (g := gb304) (o := .cells #[.int .u32 t298, .int .u32 t299, .slice Ao30 t300.length co30] 66 (0, 0)) (by (with_reducible repeat (first | refine blk_drewN ?_ _ | refine blk_drew ?_ | refine blk_alloc ?_ _)); exact BK304.out) hb); have n11_ := Aside0.mk (below_step (by repeat (first | (with_reducible first | exact HB.out | apply below_alloc | apply pw_below_drewN | apply below_drew1 | refine below_set ?_ GE288.out | refine below_set ?_ GE297.out | refine below_set ?_ GE304.out) | exact HB.out)) hb); clear HO_16; clear HO_18; clear HO_20; clear HO_21; clear HO_22; clear HO_298002; clear HO_305002; clear HO328; clear BK288; clear BK297; clear BK304; clear HB; have HO_16 := n0_; have HO_18 := n1_; have HO_20 := n2_; have HO_21 := n3_; have HO_22 := n4_; have HO_298002 := n5_; have HO_305002 := n6_; have HO328 := n7_; have BK288 := n8_; have BK297 := n9_; have BK304 := n10_; have HB := n11_; clear n0_ n1_ n2_ n3_ n4_ n5_ n6_ n7_ n8_ n9_ n10_ n11_; (try clear hb); (try clear hb2); (try clear hk); (try clear hi); have hnb81 := NB304_297.out; have hnc81 := NB297_304.out; have hcz82_0 : w80.cell? ⟨gb304, 0, none⟩ = some (.int .u32 t298) := (blk_cell BK304.out 0).trans rfl; have hcz82_1 : w80.cell? ⟨gb304, 1, none⟩ = some (.int .u32 t299) := (blk_cell BK304.out 1).trans rfl; have hcz82_2 : w80.cell? ⟨gb304, 2, none⟩ = some (.slice Ao30 t300.length co30) := (blk_cell BK304.out 2).trans rfl; have hfz82_0 := blk_frozen BK304.out 0; have hfz82_1 := blk_frozen BK304.out 1; have hfz82_2 := blk_frozen BK304.out 2; have hcz83_0 : w80.cell? ⟨gb297, 0, none⟩ = some (.int .u32 t291) := (blk_cell BK297.out 0).trans rfl; have hcz83_1 : w80.cell? ⟨gb297, 1, none⟩ = some (.int .u32 t292) := (blk_cell BK297.out 1).trans rfl; have hcz83_2 : w80.cell? ⟨gb297, 2, none⟩ = some (.slice Ao23 t293.length co23) := (blk_cell BK297.out 2).trans rfl; have hfz83_0 := blk_frozen BK297.out 0; have hfz83_1 := blk_frozen BK297.out 1; have hfz83_2 := blk_frozen BK297.out 2) | (go_at_call 53; (with_reducible refine (patchbayref3_SameScore.calls kj57 t298 t299 _ _ t300 t291 t292 _ _ t293 true _ ?side1 ?side2 ?side3 ?side4 A65.out).mono ?_); (case side1 => repeat (first | exact (Kd.Q_reads' HO_305002.out).2.2 | (with_reducible refine Kd.C_alloc ?_ _) | (with_reducible refine Kd.C_drewN ?_ _) | (with_reducible refine Kd.C_drew ?_))); (case side2 => exact (Kd.Q_reads' HO_305002.out).2.1); (case side3 => repeat (first | exact (Kd.Q_reads' HO_298002.out).2.2 | (with_reducible refine Kd.C_alloc ?_ _) | (with_reducible refine Kd.C_drewN ?_ _) | (with_reducible refine Kd.C_drew ?_))); (case side4 => exact (Kd.Q_reads' HO_298002.out).2.1); rintro e w84 ⟨rfl, hb⟩; have n0_ := Aside0.mk (Kd.R_below (by (with_reducible repeat (first | apply Kd.R_alloc | apply Kd.R_drewN | apply Kd.R_drew)); exact HO_16.out) hb); have n1_ := Aside0.mk (Kd.R_below (by (with_reducible repeat (first | apply Kd.R_alloc | apply Kd.R_drewN | apply Kd.R_drew)); exact HO_18.out) hb); have n2_ := Aside0.mk (Kd.R_below (by (with_reducible repeat (first | apply Kd.R_alloc | apply Kd.R_drewN | apply Kd.R_drew)); exact HO_20.out) hb); have n3_ := Aside0.mk (Kd.R_below (by (with_reducible repeat (first | apply Kd.R_alloc | apply Kd.R_drewN | apply Kd.R_drew)); exact HO_21.out) hb); have n4_ := Aside0.mk (Kd.R_below (by (with_reducible repeat (first | apply Kd.R_alloc | apply Kd.R_drewN | apply Kd.R_drew)); exact HO_22.out) hb); have n5_ := Aside0.mk (Kd.Q_below (by (with_reducible repeat (first | apply Kd.Q_alloc | apply Kd.Q_drewN | apply Kd.Q_drew)); exact HO_298002.out) hb); have n6_ := Aside0.mk (Kd.Q_below (by (with_reducible repeat (first | apply Kd.Q_alloc | apply Kd.Q_drewN | apply Kd.Q_drew)); exact HO_305002.out) hb); have n7_ := Aside0.mk (Kd.R_below (by (with_reducible repeat (first | apply Kd.R_alloc | apply Kd.R_drewN | apply Kd.R_drew)); exact HO328.out) hb); have n8_ := Aside0.mk (blk_below (g := gb288) (o := .cells #[.int .u32 a0_0, .int .u32 a0_1, .slice A0_2 l0_2.length c0_2] 66 (0, 0)) (by (with_reducible repeat (first | refine blk_drewN ?_ _ | refine blk_drew ?_ | refine blk_alloc ?_ _)); exact BK288.out) hb); have n9_ := Aside0.mk (blk_below (g := gb297) (o := .cells #[.int .u32 t291, .int .u32 t292, .slice Ao23 t293.length co23] 66 (0, 0)) (by (with_reducible repeat (first | refine blk_drewN ?_ _ | refine blk_drew ?_ | refine blk_alloc ?_ _)); exact BK297.out) hb); have n10_ := Aside0.mk (blk_below (g := gb304) (o := .cells #[.int .u32 t298, .int .u32 t299, .slice Ao30 t300.length co30] 66 (0, 0)) (by (with_reducible repeat (first | refine blk_drewN ?_ _ | refine blk_drew ?_ | refine blk_alloc ?_ _)); exact BK304.out) hb); have n11_ := Aside0.mk (below_step (by repeat (first | (with_reducible first | exact HB.out | apply below_alloc | apply pw_below_drewN | apply below_drew1 | refine below_set ?_ GE288.out | refine below_set ?_ GE297.out | refine below_set ?_ GE304.out) | exact HB.out)) hb); clear HO_16; clear HO_18; clear HO_20; clear HO_21; clear HO_22; clear HO_298002; clear HO_305002; clear HO328; clear BK288; clear BK297; clear BK304; clear HB; have HO_16 := n0_; have HO_18 := n1_; have HO_20 := n2_; have HO_21 := n3_; have HO_22 := n4_; have HO_298002 := n5_; have HO_305002 := n6_; have HO328 := n7_; have BK288 := n8_; have BK297 := n9_; have BK304 := n10_; have HB := n11_; clear n0_ n1_ n2_ n3_ n4_ n5_ n6_ n7_ n8_ n9_ n10_ n11_; (try clear hb); (try clear hb2); (try clear hk); (try clear hi); obtain ⟨Ao85, co85, eo85⟩ := Kd.R_slice HO_16.out; subst eo85; obtain ⟨Ao86, co86, eo86⟩ := Kd.R_slice HO_20.out; subst eo86) | (go_at_call 54; (with_reducible refine (patchbayref3_SameBlocks.calls kj57 _ _ t305 _ _ x20_12 true _ ?side1 ?side2 ?side3 ?side4 A67.out).mono ?_); (case side1 => repeat (first | exact (Kd.R_reads' HO_16.out).2.2 | (with_reducible refine Kd.C_alloc ?_ _) | (with_reducible refine Kd.C_drewN ?_ _) | (with_reducible refine Kd.C_drew ?_))); (case side2 => exact (Kd.R_reads' HO_16.out).2.1); (case side3 => repeat (first | exact (Kd.R_reads' HO_20.out).2.2 | (with_reducible refine Kd.C_alloc ?_ _) | (with_reducible refine Kd.C_drewN ?_ _) | (with_reducible refine Kd.C_drew ?_))); (case side4 => exact (Kd.R_reads' HO_20.out).2.1); rintro e w' ⟨rfl, ⟨nd, rfl⟩⟩; (try first | exact ⟨rfl, _, World.drewN_drewN _ _ _⟩ | exact ⟨rfl, _, Eq.trans (World.drewN_drewN _ _ _) (congrArg (World.drewN _) (Nat.add_assoc _ _ _))⟩); obtain ⟨Ao87, co87, eo87⟩ := Kd.R_slice HO_18.out; subst eo87; obtain ⟨Ao88, co88, eo88⟩ := Kd.R_slice HO_21.out; subst eo88) | (go_at_call 54; (with_reducible refine (patchbayref3_SameBlocks.calls kj57 _ _ t309 _ _ x21_12 true _ ?side1 ?side2 ?side3 ?side4 A70.out).mono ?_); (case side1 => repeat (first | exact (Kd.R_reads' HO_18.out).2.2 | (with_reducible refine Kd.C_alloc ?_ _) | (with_reducible refine Kd.C_drewN ?_ _) | (with_reducible refine Kd.C_drew ?_))); (case side2 => exact (Kd.R_reads' HO_18.out).2.1); (case side3 => repeat (first | exact (Kd.R_reads' HO_21.out).2.2 | (with_reducible refine Kd.C_alloc ?_ _) | (with_reducible refine Kd.C_drewN ?_ _) | (with_reducible refine Kd.C_drew ?_))); (case side4 => exact (Kd.R_reads' HO_21.out).2.1); rintro e w' ⟨rfl, ⟨nd, rfl⟩⟩; (try first | exact ⟨rfl, _, World.drewN_drewN _ _ _⟩ | exact ⟨rfl, _, Eq.trans (World.drewN_drewN _ _ _) (congrArg (World.drewN _) (Nat.add_assoc _ _ _))⟩); obtain ⟨Ao89, co89, eo89⟩ := Kd.R_slice HO328.out; subst eo89; obtain ⟨Ao90, co90, eo90⟩ := Kd.R_slice HO_22.out; subst eo90) | (go_at_call 54; (with_reducible refine (patchbayref3_SameBlocks.calls kj57 _ _ t325 _ _ x22_57 true _ ?side1 ?side2 ?side3 ?side4 A74.out).mono ?_); (case side1 => repeat (first | exact (Kd.R_reads' HO328.out).2.2 | (with_reducible refine Kd.C_alloc ?_ _) | (with_reducible refine Kd.C_drewN ?_ _) | (with_reducible refine Kd.C_drew ?_))); (case side2 => exact (Kd.R_reads' HO328.out).2.1); (case side3 => repeat (first | exact (Kd.R_reads' HO_22.out).2.2 | (with_reducible refine Kd.C_alloc ?_ _) | (with_reducible refine Kd.C_drewN ?_ _) | (with_reducible refine Kd.C_drew ?_))); (case side4 => exact (Kd.R_reads' HO_22.out).2.1); rintro e w' ⟨rfl, ⟨nd, rfl⟩⟩; (try first | exact ⟨rfl, _, World.drewN_drewN _ _ _⟩ | exact ⟨rfl, _, Eq.trans (World.drewN_drewN _ _ _) (congrArg (World.drewN _) (Nat.add_assoc _ _ _))⟩)))
                                          go_ret
                                          exact ⟨by first | rfl | (simp [errW_none, errW_some] <;> rfl) | (simp [*, errW_none, errW_some] <;> rfl), by repeat (first | (with_reducible first | exact HB.out | apply below_alloc | apply pw_below_drewN | apply below_drew1 | refine below_set ?_ GE288.out | refine below_set ?_ GE297.out | refine below_set ?_ GE304.out) | exact HB.out)⟩
                                        · replace c75 := Bool.eq_false_iff.mpr c75
                                          subst c75
                                          have H1 : (some false) = some r := by rw [if_neg (show ¬ (false = true) by decide)] at H; exact H
                                          clear H
                                          have H := H1
                                          clear H1
                                          exact absurd ((Option.some.inj H).trans HR.out) (by simp)
                                      · rw [if_neg c73] at H
                                        have c73b0 : (t312 == x23_12) = false := beq_eq_false_iff_ne.mpr c73
                                        have c73b1 : (t312 != x23_12) = true := bne_iff_ne.mpr c73
                                        exact absurd ((Option.some.inj H).trans HR.out) (by simp)
                                    · rw [if_neg c72] at H
                                      have c72b0 : (t303 == t296) = false := beq_eq_false_iff_ne.mpr c72
                                      have c72b1 : (t303 != t296) = true := bne_iff_ne.mpr c72
                                      exact absurd ((Option.some.inj H).trans HR.out) (by simp)
                                  · replace c71 := Bool.eq_false_iff.mpr c71
                                    subst c71
                                    have H1 : (if t303 = t296 then (some false) else (some false)) = some r := by rw [if_neg (show ¬ (false = true) by decide)] at H; exact H
                                    clear H
                                    have H := H1
                                    clear H1
                                    by_cases c132 : t303 = t296
                                    · rw [if_pos c132] at H
                                      have c132b0 : (t303 == t296) = true := beq_iff_eq.mpr c132
                                      have c132b1 : (t303 != t296) = false := bne_eq_false_iff_eq.mpr c132
                                      clear c132
                                      obtain rfl := Option.some.inj H
                                      go_wp2_with (first | (go_at_call 51; (with_reducible refine (sack_Choose.calls kj57 _ _ l2 a4 t325 t326 _ ?side1 ?side2 A62.out).mono ?_); (case side1 => repeat (first | exact (Kd.C_below HR2.out HB.out) | (with_reducible refine Kd.C_alloc ?_ _) | (with_reducible refine Kd.C_drewN ?_ _) | (with_reducible refine Kd.C_drew ?_))); (case side2 => exact HC2.out); rintro e w133 ⟨v327, rfl, ho0, hb⟩; have n0_ := Aside0.mk (Kd.R_elder' (by (with_reducible repeat (first | apply Kd.R_alloc | apply Kd.R_drewN | apply Kd.R_drew)); exact HO_16.out) (Kd.R_base ho0) hb); have n1_ := Aside0.mk (Kd.R_elder' (by (with_reducible repeat (first | apply Kd.R_alloc | apply Kd.R_drewN | apply Kd.R_drew)); exact HO_18.out) (Kd.R_base ho0) hb); have n2_ := Aside0.mk (Kd.R_elder' (by (with_reducible repeat (first | apply Kd.R_alloc | apply Kd.R_drewN | apply Kd.R_drew)); exact HO_20.out) (Kd.R_base ho0) hb); have n3_ := Aside0.mk (Kd.R_elder' (by (with_reducible repeat (first | apply Kd.R_alloc | apply Kd.R_drewN | apply Kd.R_drew)); exact HO_21.out) (Kd.R_base ho0) hb); have n4_ := Aside0.mk (Kd.R_elder' (by (with_reducible repeat (first | apply Kd.R_alloc | apply Kd.R_drewN | apply Kd.R_drew)); exact HO_22.out) (Kd.R_base ho0) hb); have n5_ := Aside0.mk (Kd.Q_elder' (by (with_reducible repeat (first | apply Kd.Q_alloc | apply Kd.Q_drewN | apply Kd.Q_drew)); exact HO_298002.out) (Kd.R_base ho0) hb); have n6_ := Aside0.mk (Kd.Q_elder' (by (with_reducible repeat (first | apply Kd.Q_alloc | apply Kd.Q_drewN | apply Kd.Q_drew)); exact HO_305002.out) (Kd.R_base ho0) hb); have n7_ := Aside0.mk (Kd.R_lower (Kd.R_new' (Kd.R_new' (Kd.R_new' (Kd.R_new' (Kd.R_new' (Kd.R_new' (Kd.R_new' ho0 (Kd.R_lt (by (with_reducible repeat (first | apply Kd.R_alloc | apply Kd.R_drewN | apply Kd.R_drew)); exact HO_16.out))) (Kd.R_lt (by (with_reducible repeat (first | apply Kd.R_alloc | apply Kd.R_drewN | apply Kd.R_drew)); exact HO_18.out))) (Kd.R_lt (by (with_reducible repeat (first | apply Kd.R_alloc | apply Kd.R_drewN | apply Kd.R_drew)); exact HO_20.out))) (Kd.R_lt (by (with_reducible repeat (first | apply Kd.R_alloc | apply Kd.R_drewN | apply Kd.R_drew)); exact HO_21.out))) (Kd.R_lt (by (with_reducible repeat (first | apply Kd.R_alloc | apply Kd.R_drewN | apply Kd.R_drew)); exact HO_22.out))) (Kd.Q_lt (by (with_reducible repeat (first | apply Kd.Q_alloc | apply Kd.Q_drewN | apply Kd.Q_drew)); exact HO_298002.out))) (Kd.Q_lt (by (with_reducible repeat (first | apply Kd.Q_alloc | apply Kd.Q_drewN | apply Kd.Q_drew)); exact HO_305002.out))) (below_size (by repeat (first | (with_reducible first | exact HB.out | apply below_alloc | apply pw_below_drewN | apply below_drew1 | refine below_set ?_ GE288.out | refine below_set ?_ GE297.out | refine below_set ?_ GE304.out) | exact HB.out)))); have n8_ := Aside0.mk (blk_below (g := gb288) (o := .cells #[.int .u32 a0_0, .int .u32 a0_1, .slice A0_2 l0_2.length c0_2] 66 (0, 0)) (by (with_reducible repeat (first | refine blk_drewN ?_ _ | refine blk_drew ?_ | refine blk_alloc ?_ _)); exact BK288.out) hb); have n9_ := Aside0.mk (blk_below (g := gb297) (o := .cells #[.int .u32 t291, .int .u32 t292, .slice Ao23 t293.length co23] 66 (0, 0)) (by (with_reducible repeat (first | refine blk_drewN ?_ _ | refine blk_drew ?_ | refine blk_alloc ?_ _)); exact BK297.out) hb); have n10_ := Aside0.mk (blk_below (g := gb304) (o := .cells #[.int .u32 t298, .int .u32 t299, .slice Ao30 t300.length co30] 66 (0, 0)) (by (with_reducible repeat (first | refine blk_drewN ?_ _ | refine blk_drew ?_ | refine blk_alloc ?_ _)); exact BK304.out) hb); have n11_ := Aside0.mk (below_step (by repeat (first | (with_reducible first | exact HB.out | apply below_alloc | apply pw_below_drewN | apply below_drew1 | refine below_set ?_ GE288.out | refine below_set ?_ GE297.out | refine below_set ?_ GE304.out) | exact HB.out)) hb); clear HO_16; clear HO_18; clear HO_20; clear HO_21; clear HO_22; clear HO_298002; clear HO_305002; clear BK288; clear BK297; clear BK304; clear HB; have HO_16 := n0_; have HO_18 := n1_; have HO_20 := n2_; have HO_21 := n3_; have HO_22 := n4_; have HO_298002 := n5_; have HO_305002 := n6_; have HO328 := n7_; have BK288 := n8_; have BK297 := n9_; have BK304 := n10_; have HB := n11_; clear n0_ n1_ n2_ n3_ n4_ n5_ n6_ n7_ n8_ n9_ n10_ n11_; (try clear hb); (try clear hb2); (try clear hk); (try clear hi); (try clear ho0); have hnb134 := NB288_297.out; have hnc134 := NB297_288.out; have hnb135 := NB288_304.out; have hnc135 := NB304_288.out; have hcz136_0 : w133.cell? ⟨gb288, 0, none⟩ = some (.int .u32 a0_0) := (blk_cell BK288.out 0).trans rfl; have hcz136_1 : w133.cell? ⟨gb288, 1, none⟩ = some (.int .u32 a0_1) := (blk_cell BK288.out 1).trans rfl; have hcz136_2 : w133.cell? ⟨gb288, 2, none⟩ = some (.slice A0_2 l0_2.length c0_2) := (blk_cell BK288.out 2).trans rfl; have hfz136_0 := blk_frozen BK288.out 0; have hfz136_1 := blk_frozen BK288.out 1; have hfz136_2 := blk_frozen BK288.out 2) | (go_at_call 52; (with_reducible refine (sack_Check.calls kj57 a0_0 a0_1 _ _ l0_2 t329 _ ?side1 ?side2 A63.out).mono ?_); (case side1 => repeat (first | exact (Kd.C_below HR0_2.out HB.out) | (with_reducible refine Kd.C_alloc ?_ _) | (with_reducible refine Kd.C_drewN ?_ _) | (with_reducible refine Kd.C_drew ?_))); (case side2 => exact HC0_2.out); rintro e w137 ⟨rfl, hb⟩; have n0_ := Aside0.mk (Kd.R_below (by (with_reducible repeat (first | apply Kd.R_alloc | apply Kd.R_drewN | apply Kd.R_drew)); exact HO_16.out) hb); have n1_ := Aside0.mk (Kd.R_below (by (with_reducible repeat (first | apply Kd.R_alloc | apply Kd.R_drewN | apply Kd.R_drew)); exact HO_18.out) hb); have n2_ := Aside0.mk (Kd.R_below (by (with_reducible repeat (first | apply Kd.R_alloc | apply Kd.R_drewN | apply Kd.R_drew)); exact HO_20.out) hb); have n3_ := Aside0.mk (Kd.R_below (by (with_reducible repeat (first | apply Kd.R_alloc | apply Kd.R_drewN | apply Kd.R_drew)); exact HO_21.out) hb); have n4_ := Aside0.mk (Kd.R_below (by (with_reducible repeat (first | apply Kd.R_alloc | apply Kd.R_drewN | apply Kd.R_drew)); exact HO_22.out) hb); have n5_ := Aside0.mk (Kd.Q_below (by (with_reducible repeat (first | apply Kd.Q_alloc | apply Kd.Q_drewN | apply Kd.Q_drew)); exact HO_298002.out) hb); have n6_ := Aside0.mk (Kd.Q_below (by (with_reducible repeat (first | apply Kd.Q_alloc | apply Kd.Q_drewN | apply Kd.Q_drew)); exact HO_305002.out) hb); have n7_ := Aside0.mk (Kd.R_below (by (with_reducible repeat (first | apply Kd.R_alloc | apply Kd.R_drewN | apply Kd.R_drew)); exact HO328.out) hb); have n8_ := Aside0.mk (blk_below (g := gb288) (o := .cells #[.int .u32 a0_0, .int .u32 a0_1, .slice A0_2 l0_2.length c0_2] 66 (0, 0)) (by (with_reducible repeat (first | refine blk_drewN ?_ _ | refine blk_drew ?_ | refine blk_alloc ?_ _)); exact BK288.out) hb); have n9_ := Aside0.mk (blk_below (g := gb297) (o := .cells #[.int .u32 t291, .int .u32 t292, .slice Ao23 t293.length co23] 66 (0, 0)) (by (with_reducible repeat (first | refine blk_drewN ?_ _ | refine blk_drew ?_ | refine blk_alloc ?_ _)); exact BK297.out) hb); have n10_ := Aside0.mk (blk_below (g := gb304) (o := .cells #[.int .u32 t298, .int .u32 t299, .slice Ao30 t300.length co30] 66 (0, 0)) (by (with_reducible repeat (first | refine blk_drewN ?_ _ | refine blk_drew ?_ | refine blk_alloc ?_ _)); exact BK304.out) hb); have n11_ := Aside0.mk (below_step (by repeat (first | (with_reducible first | exact HB.out | apply below_alloc | apply pw_below_drewN | apply below_drew1 | refine below_set ?_ GE288.out | refine below_set ?_ GE297.out | refine below_set ?_ GE304.out) | exact HB.out)) hb); clear HO_16; clear HO_18; clear HO_20; clear HO_21; clear HO_22; clear HO_298002; clear HO_305002; clear HO328; clear BK288; clear BK297; clear BK304; clear HB; have HO_16 := n0_; have HO_18 := n1_; have HO_20 := n2_; have HO_21 := n3_; have HO_22 := n4_; have HO_298002 := n5_; have HO_305002 := n6_; have HO328 := n7_; have BK288 := n8_; have BK297 := n9_; have BK304 := n10_; have HB := n11_; clear n0_ n1_ n2_ n3_ n4_ n5_ n6_ n7_ n8_ n9_ n10_ n11_; (try clear hb); (try clear hb2); (try clear hk); (try clear hi); have hnb138 := NB304_297.out; have hnc138 := NB297_304.out; have hcz139_0 : w137.cell? ⟨gb304, 0, none⟩ = some (.int .u32 t298) := (blk_cell BK304.out 0).trans rfl; have hcz139_1 : w137.cell? ⟨gb304, 1, none⟩ = some (.int .u32 t299) := (blk_cell BK304.out 1).trans rfl; have hcz139_2 : w137.cell? ⟨gb304, 2, none⟩ = some (.slice Ao30 t300.length co30) := (blk_cell BK304.out 2).trans rfl; have hfz139_0 := blk_frozen BK304.out 0; have hfz139_1 := blk_frozen BK304.out 1; have hfz139_2 := blk_frozen BK304.out 2; have hcz140_0 : w137.cell? ⟨gb297, 0, none⟩ = some (.int .u32 t291) := (blk_cell BK297.out 0).trans rfl; have hcz140_1 : w137.cell? ⟨gb297, 1, none⟩ = some (.int .u32 t292) := (blk_cell BK297.out 1).trans rfl; have hcz140_2 : w137.cell? ⟨gb297, 2, none⟩ = some (.slice Ao23 t293.length co23) := (blk_cell BK297.out 2).trans rfl; have hfz140_0 := blk_frozen BK297.out 0; have hfz140_1 := blk_frozen BK297.out 1; have hfz140_2 := blk_frozen BK297.out 2) | (go_at_call 53; (with_reducible refine (patchbayref3_SameScore.calls kj57 t298 t299 _ _ t300 t291 t292 _ _ t293 true _ ?side1 ?side2 ?side3 ?side4 A65.out).mono ?_); (case side1 => repeat (first | exact (Kd.Q_reads' HO_305002.out).2.2 | (with_reducible refine Kd.C_alloc ?_ _) | (with_reducible refine Kd.C_drewN ?_ _) | (with_reducible refine Kd.C_drew ?_))); (case side2 => exact (Kd.Q_reads' HO_305002.out).2.1); (case side3 => repeat (first | exact (Kd.Q_reads' HO_298002.out).2.2 | (with_reducible refine Kd.C_alloc ?_ _) | (with_reducible refine Kd.C_drewN ?_ _) | (with_reducible refine Kd.C_drew ?_))); (case side4 => exact (Kd.Q_reads' HO_298002.out).2.1); rintro e w141 ⟨rfl, hb⟩; have n0_ := Aside0.mk (Kd.R_below (by (with_reducible repeat (first | apply Kd.R_alloc | apply Kd.R_drewN | apply Kd.R_drew)); exact HO_16.out) hb); have n1_ := Aside0.mk (Kd.R_below (by (with_reducible repeat (first | apply Kd.R_alloc | apply Kd.R_drewN | apply Kd.R_drew)); exact HO_18.out) hb); have n2_ := Aside0.mk (Kd.R_below (by (with_reducible repeat (first | apply Kd.R_alloc | apply Kd.R_drewN | apply Kd.R_drew)); exact HO_20.out) hb); have n3_ := Aside0.mk (Kd.R_below (by (with_reducible repeat (first | apply Kd.R_alloc | apply Kd.R_drewN | apply Kd.R_drew)); exact HO_21.out) hb); have n4_ := Aside0.mk (Kd.R_below (by (with_reducible repeat (first | apply Kd.R_alloc | apply Kd.R_drewN | apply Kd.R_drew)); exact HO_22.out) hb); have n5_ := Aside0.mk (Kd.Q_below (by (with_reducible repeat (first | apply Kd.Q_alloc | apply Kd.Q_drewN | apply Kd.Q_drew)); exact HO_298002.out) hb); have n6_ := Aside0.mk (Kd.Q_below (by (with_reducible repeat (first | apply Kd.Q_alloc | apply Kd.Q_drewN | apply Kd.Q_drew)); exact HO_305002.out) hb); have n7_ := Aside0.mk (Kd.R_below (by (with_reducible repeat (first | apply Kd.R_alloc | apply Kd.R_drewN | apply Kd.R_drew)); exact HO328.out) hb); have n8_ := Aside0.mk (blk_below (g := gb288) (o := .cells #[.int .u32 a0_0, .int .u32 a0_1, .slice A0_2 l0_2.length c0_2] 66 (0, 0)) (by (with_reducible repeat (first | refine blk_drewN ?_ _ | refine blk_drew ?_ | refine blk_alloc ?_ _)); exact BK288.out) hb); have n9_ := Aside0.mk (blk_below (g := gb297) (o := .cells #[.int .u32 t291, .int .u32 t292, .slice Ao23 t293.length co23] 66 (0, 0)) (by (with_reducible repeat (first | refine blk_drewN ?_ _ | refine blk_drew ?_ | refine blk_alloc ?_ _)); exact BK297.out) hb); have n10_ := Aside0.mk (blk_below (g := gb304) (o := .cells #[.int .u32 t298, .int .u32 t299, .slice Ao30 t300.length co30] 66 (0, 0)) (by (with_reducible repeat (first | refine blk_drewN ?_ _ | refine blk_drew ?_ | refine blk_alloc ?_ _)); exact BK304.out) hb); have n11_ := Aside0.mk (below_step (by repeat (first | (with_reducible first | exact HB.out | apply below_alloc | apply pw_below_drewN | apply below_drew1 | refine below_set ?_ GE288.out | refine below_set ?_ GE297.out | refine below_set ?_ GE304.out) | exact HB.out)) hb); clear HO_16; clear HO_18; clear HO_20; clear HO_21; clear HO_22; clear HO_298002; clear HO_305002; clear HO328; clear BK288; clear BK297; clear BK304; clear HB; have HO_16 := n0_; have HO_18 := n1_; have HO_20 := n2_; have HO_21 := n3_; have HO_22 := n4_; have HO_298002 := n5_; have HO_305002 := n6_; have HO328 := n7_; have BK288 := n8_; have BK297 := n9_; have BK304 := n10_; have HB := n11_; clear n0_ n1_ n2_ n3_ n4_ n5_ n6_ n7_ n8_ n9_ n10_ n11_; (try clear hb); (try clear hb2); (try clear hk); (try clear hi); obtain ⟨Ao142, co142, eo142⟩ := Kd.R_slice HO_16.out; subst eo142; obtain ⟨Ao143, co143, eo143⟩ := Kd.R_slice HO_20.out; subst eo143) | (go_at_call 54; (with_reducible refine (patchbayref3_SameBlocks.calls kj57 _ _ t305 _ _ x20_12 true _ ?side1 ?side2 ?side3 ?side4 A67.out).mono ?_); (case side1 => repeat (first | exact (Kd.R_reads' HO_16.out).2.2 | (with_reducible refine Kd.C_alloc ?_ _) | (with_reducible refine Kd.C_drewN ?_ _) | (with_reducible refine Kd.C_drew ?_))); (case side2 => exact (Kd.R_reads' HO_16.out).2.1); (case side3 => repeat (first | exact (Kd.R_reads' HO_20.out).2.2 | (with_reducible refine Kd.C_alloc ?_ _) | (with_reducible refine Kd.C_drewN ?_ _) | (with_reducible refine Kd.C_drew ?_))); (case side4 => exact (Kd.R_reads' HO_20.out).2.1); rintro e w' ⟨rfl, ⟨nd, rfl⟩⟩; (try first | exact ⟨rfl, _, World.drewN_drewN _ _ _⟩ | exact ⟨rfl, _, Eq.trans (World.drewN_drewN _ _ _) (congrArg (World.drewN _) (Nat.add_assoc _ _ _))⟩); obtain ⟨Ao144, co144, eo144⟩ := Kd.R_slice HO_18.out; subst eo144; obtain ⟨Ao145, co145, eo145⟩ := Kd.R_slice HO_21.out; subst eo145) | (go_at_call 54; (with_reducible refine (patchbayref3_SameBlocks.calls kj57 _ _ t309 _ _ x21_12 false _ ?side1 ?side2 ?side3 ?side4 A70.out).mono ?_); (case side1 => repeat (first | exact (Kd.R_reads' HO_18.out).2.2 | (with_reducible refine Kd.C_alloc ?_ _) | (with_reducible refine Kd.C_drewN ?_ _) | (with_reducible refine Kd.C_drew ?_))); (case side2 => exact (Kd.R_reads' HO_18.out).2.1); (case side3 => repeat (first | exact (Kd.R_reads' HO_21.out).2.2 | (with_reducible refine Kd.C_alloc ?_ _) | (with_reducible refine Kd.C_drewN ?_ _) | (with_reducible refine Kd.C_drew ?_))); (case side4 => exact (Kd.R_reads' HO_21.out).2.1); rintro e w' ⟨rfl, ⟨nd, rfl⟩⟩; (try first | exact ⟨rfl, _, World.drewN_drewN _ _ _⟩ | exact ⟨rfl, _, Eq.trans (World.drewN_drewN _ _ _) (congrArg (World.drewN _) (Nat.add_assoc _ _ _))⟩)))
                                      go_ret
                                      exact ⟨by first | rfl | (simp [errW_none, errW_some] <;> rfl) | (simp [*, errW_none, errW_some] <;> rfl), by repeat (first | (with_reducible first | exact HB.out | apply below_alloc | apply pw_below_drewN | apply below_drew1 | refine below_set ?_ GE288.out | refine below_set ?_ GE297.out | refine below_set ?_ GE304.out) | exact HB.out)⟩
                                    · rw [if_neg c132] at H
                                      have c132b0 : (t303 == t296) = false := beq_eq_false_iff_ne.mpr c132
                                      have c132b1 : (t303 != t296) = true := bne_iff_ne.mpr c132
                                      exact absurd ((Option.some.inj H).trans HR.out) (by simp)
                                · rw [if_neg c69] at H
                                  have c69b0 : (t308 == t290) = false := beq_eq_false_iff_ne.mpr c69
                                  have c69b1 : (t308 != t290) = true := bne_iff_ne.mpr c69
                                  by_cases c159 : t303 = t296
                                  · rw [if_pos c159] at H
                                    have c159b0 : (t303 == t296) = true := beq_iff_eq.mpr c159
                                    have c159b1 : (t303 != t296) = false := bne_eq_false_iff_eq.mpr c159
                                    clear c159
                                    obtain rfl := Option.some.inj H
                                    go_wp2_with (first | (go_at_call 51; (with_reducible refine (sack_Choose.calls kj57 _ _ l2 a4 t325 t326 _ ?side1 ?side2 A62.out).mono ?_); (case side1 => repeat (first | exact (Kd.C_below HR2.out HB.out) | (with_reducible refine Kd.C_alloc ?_ _) | (with_reducible refine Kd.C_drewN ?_ _) | (with_reducible refine Kd.C_drew ?_))); (case side2 => exact HC2.out); rintro e w160 ⟨v327, rfl, ho0, hb⟩; have n0_ := Aside0.mk (Kd.R_elder' (by (with_reducible repeat (first | apply Kd.R_alloc | apply Kd.R_drewN | apply Kd.R_drew)); exact HO_16.out) (Kd.R_base ho0) hb); have n1_ := Aside0.mk (Kd.R_elder' (by (with_reducible repeat (first | apply Kd.R_alloc | apply Kd.R_drewN | apply Kd.R_drew)); exact HO_18.out) (Kd.R_base ho0) hb); have n2_ := Aside0.mk (Kd.R_elder' (by (with_reducible repeat (first | apply Kd.R_alloc | apply Kd.R_drewN | apply Kd.R_drew)); exact HO_20.out) (Kd.R_base ho0) hb); have n3_ := Aside0.mk (Kd.R_elder' (by (with_reducible repeat (first | apply Kd.R_alloc | apply Kd.R_drewN | apply Kd.R_drew)); exact HO_21.out) (Kd.R_base ho0) hb); have n4_ := Aside0.mk (Kd.R_elder' (by (with_reducible repeat (first | apply Kd.R_alloc | apply Kd.R_drewN | apply Kd.R_drew)); exact HO_22.out) (Kd.R_base ho0) hb); have n5_ := Aside0.mk (Kd.Q_elder' (by (with_reducible repeat (first | apply Kd.Q_alloc | apply Kd.Q_drewN | apply Kd.Q_drew)); exact HO_298002.out) (Kd.R_base ho0) hb); have n6_ := Aside0.mk (Kd.Q_elder' (by (with_reducible repeat (first | apply Kd.Q_alloc | apply Kd.Q_drewN | apply Kd.Q_drew)); exact HO_305002.out) (Kd.R_base ho0) hb); have n7_ := Aside0.mk (Kd.R_lower (Kd.R_new' (Kd.R_new' (Kd.R_new' (Kd.R_new' (Kd.R_new' (Kd.R_new' (Kd.R_new' ho0 (Kd.R_lt (by (with_reducible repeat (first | apply Kd.R_alloc | apply Kd.R_drewN | apply Kd.R_drew)); exact HO_16.out))) (Kd.R_lt (by (with_reducible repeat (first | apply Kd.R_alloc | apply Kd.R_drewN | apply Kd.R_drew)); exact HO_18.out))) (Kd.R_lt (by (with_reducible repeat (first | apply Kd.R_alloc | apply Kd.R_drewN | apply Kd.R_drew)); exact HO_20.out))) (Kd.R_lt (by (with_reducible repeat (first | apply Kd.R_alloc | apply Kd.R_drewN | apply Kd.R_drew)); exact HO_21.out))) (Kd.R_lt (by (with_reducible repeat (first | apply Kd.R_alloc | apply Kd.R_drewN | apply Kd.R_drew)); exact HO_22.out))) (Kd.Q_lt (by (with_reducible repeat (first | apply Kd.Q_alloc | apply Kd.Q_drewN | apply Kd.Q_drew)); exact HO_298002.out))) (Kd.Q_lt (by (with_reducible repeat (first | apply Kd.Q_alloc | apply Kd.Q_drewN | apply Kd.Q_drew)); exact HO_305002.out))) (below_size (by repeat (first | (with_reducible first | exact HB.out | apply below_alloc | apply pw_below_drewN | apply below_drew1 | refine below_set ?_ GE288.out | refine below_set ?_ GE297.out | refine below_set ?_ GE304.out) | exact HB.out)))); have n8_ := Aside0.mk (blk_below (g := gb288) (o := .cells #[.int .u32 a0_0, .int .u32 a0_1, .slice A0_2 l0_2.length c0_2] 66 (0, 0)) (by (with_reducible repeat (first | refine blk_drewN ?_ _ | refine blk_drew ?_ | refine blk_alloc ?_ _)); exact BK288.out) hb); have n9_ := Aside0.mk (blk_below (g := gb297) (o := .cells #[.int .u32 t291, .int .u32 t292, .slice Ao23 t293.length co23] 66 (0, 0)) (by (with_reducible repeat (first | refine blk_drewN ?_ _ | refine blk_drew ?_ | refine blk_alloc ?_ _)); exact BK297.out) hb); have n10_ := Aside0.mk (blk_below (g := gb304) (o := .cells #[.int .u32 t298, .int .u32 t299, .slice Ao30 t300.length co30] 66 (0, 0)) (by (with_reducible repeat (first | refine blk_drewN ?_ _ | refine blk_drew ?_ | refine blk_alloc ?_ _)); exact BK304.out) hb); have n11_ := Aside0.mk (below_step (by repeat (first | (with_reducible first | exact HB.out | apply below_alloc | apply pw_below_drewN | apply below_drew1 | refine below_set ?_ GE288.out | refine below_set ?_ GE297.out | refine below_set ?_ GE304.out) | exact HB.out)) hb); clear HO_16; clear HO_18; clear HO_20; clear HO_21; clear HO_22; clear HO_298002; clear HO_305002; clear BK288; clear BK297; clear BK304; clear HB; have HO_16 := n0_; have HO_18 := n1_; have HO_20 := n2_; have HO_21 := n3_; have HO_22 := n4_; have HO_298002 := n5_; have HO_305002 := n6_; have HO328 := n7_; have BK288 := n8_; have BK297 := n9_; have BK304 := n10_; have HB := n11_; clear n0_ n1_ n2_ n3_ n4_ n5_ n6_ n7_ n8_ n9_ n10_ n11_; (try clear hb); (try clear hb2); (try clear hk); (try clear hi); (try clear ho0); have hnb161 := NB288_297.out; have hnc161 := NB297_288.out; have hnb162 := NB288_304.out; have hnc162 := NB304_288.out; have hcz163_0 : w160.cell? ⟨gb288, 0, none⟩ = some (.int .u32 a0_0) := (blk_cell BK288.out 0).trans rfl; have hcz163_1 : w160.cell? ⟨gb288, 1, none⟩ = some (.int .u32 a0_1) := (blk_cell BK288.out 1).trans rfl; have hcz163_2 : w160.cell? ⟨gb288, 2, none⟩ = some (.slice A0_2 l0_2.length c0_2) := (blk_cell BK288.out 2).trans rfl; have hfz163_0 := blk_frozen BK288.out 0; have hfz163_1 := blk_frozen BK288.out 1; have hfz163_2 := blk_frozen BK288.out 2) | (go_at_call 52; (with_reducible refine (sack_Check.calls kj57 a0_0 a0_1 _ _ l0_2 t329 _ ?side1 ?side2 A63.out).mono ?_); (case side1 => repeat (first | exact (Kd.C_below HR0_2.out HB.out) | (with_reducible refine Kd.C_alloc ?_ _) | (with_reducible refine Kd.C_drewN ?_ _) | (with_reducible refine Kd.C_drew ?_))); (case side2 => exact HC0_2.out); rintro e w164 ⟨rfl, hb⟩; have n0_ := Aside0.mk (Kd.R_below (by (with_reducible repeat (first | apply Kd.R_alloc | apply Kd.R_drewN | apply Kd.R_drew)); exact HO_16.out) hb); have n1_ := Aside0.mk (Kd.R_below (by (with_reducible repeat (first | apply Kd.R_alloc | apply Kd.R_drewN | apply Kd.R_drew)); exact HO_18.out) hb); have n2_ := Aside0.mk (Kd.R_below (by (with_reducible repeat (first | apply Kd.R_alloc | apply Kd.R_drewN | apply Kd.R_drew)); exact HO_20.out) hb); have n3_ := Aside0.mk (Kd.R_below (by (with_reducible repeat (first | apply Kd.R_alloc | apply Kd.R_drewN | apply Kd.R_drew)); exact HO_21.out) hb); have n4_ := Aside0.mk (Kd.R_below (by (with_reducible repeat (first | apply Kd.R_alloc | apply Kd.R_drewN | apply Kd.R_drew)); exact HO_22.out) hb); have n5_ := Aside0.mk (Kd.Q_below (by (with_reducible repeat (first | apply Kd.Q_alloc | apply Kd.Q_drewN | apply Kd.Q_drew)); exact HO_298002.out) hb); have n6_ := Aside0.mk (Kd.Q_below (by (with_reducible repeat (first | apply Kd.Q_alloc | apply Kd.Q_drewN | apply Kd.Q_drew)); exact HO_305002.out) hb); have n7_ := Aside0.mk (Kd.R_below (by (with_reducible repeat (first | apply Kd.R_alloc | apply Kd.R_drewN | apply Kd.R_drew)); exact HO328.out) hb); have n8_ := Aside0.mk (blk_below (g := gb288) (o := .cells #[.int .u32 a0_0, .int .u32 a0_1, .slice A0_2 l0_2.length c0_2] 66 (0, 0)) (by (with_reducible repeat (first | refine blk_drewN ?_ _ | refine blk_drew ?_ | refine blk_alloc ?_ _)); exact BK288.out) hb); have n9_ := Aside0.mk (blk_below (g := gb297) (o := .cells #[.int .u32 t291, .int .u32 t292, .slice Ao23 t293.length co23] 66 (0, 0)) (by (with_reducible repeat (first | refine blk_drewN ?_ _ | refine blk_drew ?_ | refine blk_alloc ?_ _)); exact BK297.out) hb); have n10_ := Aside0.mk (blk_below (g := gb304) (o := .cells #[.int .u32 t298, .int .u32 t299, .slice Ao30 t300.length co30] 66 (0, 0)) (by (with_reducible repeat (first | refine blk_drewN ?_ _ | refine blk_drew ?_ | refine blk_alloc ?_ _)); exact BK304.out) hb); have n11_ := Aside0.mk (below_step (by repeat (first | (with_reducible first | exact HB.out | apply below_alloc | apply pw_below_drewN | apply below_drew1 | refine below_set ?_ GE288.out | refine below_set ?_ GE297.out | refine below_set ?_ GE304.out) | exact HB.out)) hb); clear HO_16; clear HO_18; clear HO_20; clear HO_21; clear HO_22; clear HO_298002; clear HO_305002; clear HO328; clear BK288; clear BK297; clear BK304; clear HB; have HO_16 := n0_; have HO_18 := n1_; have HO_20 := n2_; have HO_21 := n3_; have HO_22 := n4_; have HO_298002 := n5_; have HO_305002 := n6_; have HO328 := n7_; have BK288 := n8_; have BK297 := n9_; have BK304 := n10_; have HB := n11_; clear n0_ n1_ n2_ n3_ n4_ n5_ n6_ n7_ n8_ n9_ n10_ n11_; (try clear hb); (try clear hb2); (try clear hk); (try clear hi); have hnb165 := NB304_297.out; have hnc165 := NB297_304.out; have hcz166_0 : w164.cell? ⟨gb304, 0, none⟩ = some (.int .u32 t298) := (blk_cell BK304.out 0).trans rfl; have hcz166_1 : w164.cell? ⟨gb304, 1, none⟩ = some (.int .u32 t299) := (blk_cell BK304.out 1).trans rfl; have hcz166_2 : w164.cell? ⟨gb304, 2, none⟩ = some (.slice Ao30 t300.length co30) := (blk_cell BK304.out 2).trans rfl; have hfz166_0 := blk_frozen BK304.out 0; have hfz166_1 := blk_frozen BK304.out 1; have hfz166_2 := blk_frozen BK304.out 2; have hcz167_0 : w164.cell? ⟨gb297, 0, none⟩ = some (.int .u32 t291) := (blk_cell BK297.out 0).trans rfl; have hcz167_1 : w164.cell? ⟨gb297, 1, none⟩ = some (.int .u32 t292) := (blk_cell BK297.out 1).trans rfl; have hcz167_2 : w164.cell? ⟨gb297, 2, none⟩ = some (.slice Ao23 t293.length co23) := (blk_cell BK297.out 2).trans rfl; have hfz167_0 := blk_frozen BK297.out 0; have hfz167_1 := blk_frozen BK297.out 1; have hfz167_2 := blk_frozen BK297.out 2) | (go_at_call 53; (with_reducible refine (patchbayref3_SameScore.calls kj57 t298 t299 _ _ t300 t291 t292 _ _ t293 true _ ?side1 ?side2 ?side3 ?side4 A65.out).mono ?_); (case side1 => repeat (first | exact (Kd.Q_reads' HO_305002.out).2.2 | (with_reducible refine Kd.C_alloc ?_ _) | (with_reducible refine Kd.C_drewN ?_ _) | (with_reducible refine Kd.C_drew ?_))); (case side2 => exact (Kd.Q_reads' HO_305002.out).2.1); (case side3 => repeat (first | exact (Kd.Q_reads' HO_298002.out).2.2 | (with_reducible refine Kd.C_alloc ?_ _) | (with_reducible refine Kd.C_drewN ?_ _) | (with_reducible refine Kd.C_drew ?_))); (case side4 => exact (Kd.Q_reads' HO_298002.out).2.1); rintro e w168 ⟨rfl, hb⟩; have n0_ := Aside0.mk (Kd.R_below (by (with_reducible repeat (first | apply Kd.R_alloc | apply Kd.R_drewN | apply Kd.R_drew)); exact HO_16.out) hb); have n1_ := Aside0.mk (Kd.R_below (by (with_reducible repeat (first | apply Kd.R_alloc | apply Kd.R_drewN | apply Kd.R_drew)); exact HO_18.out) hb); have n2_ := Aside0.mk (Kd.R_below (by (with_reducible repeat (first | apply Kd.R_alloc | apply Kd.R_drewN | apply Kd.R_drew)); exact HO_20.out) hb); have n3_ := Aside0.mk (Kd.R_below (by (with_reducible repeat (first | apply Kd.R_alloc | apply Kd.R_drewN | apply Kd.R_drew)); exact HO_21.out) hb); have n4_ := Aside0.mk (Kd.R_below (by (with_reducible repeat (first | apply Kd.R_alloc | apply Kd.R_drewN | apply Kd.R_drew)); exact HO_22.out) hb); have n5_ := Aside0.mk (Kd.Q_below (by (with_reducible repeat (first | apply Kd.Q_alloc | apply Kd.Q_drewN | apply Kd.Q_drew)); exact HO_298002.out) hb); have n6_ := Aside0.mk (Kd.Q_below (by (with_reducible repeat (first | apply Kd.Q_alloc | apply Kd.Q_drewN | apply Kd.Q_drew)); exact HO_305002.out) hb); have n7_ := Aside0.mk (Kd.R_below (by (with_reducible repeat (first | apply Kd.R_alloc | apply Kd.R_drewN | apply Kd.R_drew)); exact HO328.out) hb); have n8_ := Aside0.mk (blk_below (g := gb288) (o := .cells #[.int .u32 a0_0, .int .u32 a0_1, .slice A0_2 l0_2.length c0_2] 66 (0, 0)) (by (with_reducible repeat (first | refine blk_drewN ?_ _ | refine blk_drew ?_ | refine blk_alloc ?_ _)); exact BK288.out) hb); have n9_ := Aside0.mk (blk_below (g := gb297) (o := .cells #[.int .u32 t291, .int .u32 t292, .slice Ao23 t293.length co23] 66 (0, 0)) (by (with_reducible repeat (first | refine blk_drewN ?_ _ | refine blk_drew ?_ | refine blk_alloc ?_ _)); exact BK297.out) hb); have n10_ := Aside0.mk (blk_below (g := gb304) (o := .cells #[.int .u32 t298, .int .u32 t299, .slice Ao30 t300.length co30] 66 (0, 0)) (by (with_reducible repeat (first | refine blk_drewN ?_ _ | refine blk_drew ?_ | refine blk_alloc ?_ _)); exact BK304.out) hb); have n11_ := Aside0.mk (below_step (by repeat (first | (with_reducible first | exact HB.out | apply below_alloc | apply pw_below_drewN | apply below_drew1 | refine below_set ?_ GE288.out | refine below_set ?_ GE297.out | refine below_set ?_ GE304.out) | exact HB.out)) hb); clear HO_16; clear HO_18; clear HO_20; clear HO_21; clear HO_22; clear HO_298002; clear HO_305002; clear HO328; clear BK288; clear BK297; clear BK304; clear HB; have HO_16 := n0_; have HO_18 := n1_; have HO_20 := n2_; have HO_21 := n3_; have HO_22 := n4_; have HO_298002 := n5_; have HO_305002 := n6_; have HO328 := n7_; have BK288 := n8_; have BK297 := n9_; have BK304 := n10_; have HB := n11_; clear n0_ n1_ n2_ n3_ n4_ n5_ n6_ n7_ n8_ n9_ n10_ n11_; (try clear hb); (try clear hb2); (try clear hk); (try clear hi); obtain ⟨Ao169, co169, eo169⟩ := Kd.R_slice HO_16.out; subst eo169; obtain ⟨Ao170, co170, eo170⟩ := Kd.R_slice HO_20.out; subst eo170) | (go_at_call 54; (with_reducible refine (patchbayref3_SameBlocks.calls kj57 _ _ t305 _ _ x20_12 true _ ?side1 ?side2 ?side3 ?side4 A67.out).mono ?_); (case side1 => repeat (first | exact (Kd.R_reads' HO_16.out).2.2 | (with_reducible refine Kd.C_alloc ?_ _) | (with_reducible refine Kd.C_drewN ?_ _) | (with_reducible refine Kd.C_drew ?_))); (case side2 => exact (Kd.R_reads' HO_16.out).2.1); (case side3 => repeat (first | exact (Kd.R_reads' HO_20.out).2.2 | (with_reducible refine Kd.C_alloc ?_ _) | (with_reducible refine Kd.C_drewN ?_ _) | (with_reducible refine Kd.C_drew ?_))); (case side4 => exact (Kd.R_reads' HO_20.out).2.1); rintro e w' ⟨rfl, ⟨nd, rfl⟩⟩; (try first | exact ⟨rfl, _, World.drewN_drewN _ _ _⟩ | exact ⟨rfl, _, Eq.trans (World.drewN_drewN _ _ _) (congrArg (World.drewN _) (Nat.add_assoc _ _ _))⟩)))
                                    go_ret
                                    exact ⟨by first | rfl | (simp [errW_none, errW_some] <;> rfl) | (simp [*, errW_none, errW_some] <;> rfl), by repeat (first | (with_reducible first | exact HB.out | apply below_alloc | apply pw_below_drewN | apply below_drew1 | refine below_set ?_ GE288.out | refine below_set ?_ GE297.out | refine below_set ?_ GE304.out) | exact HB.out)⟩
                                  · rw [if_neg c159] at H
                                    have c159b0 : (t303 == t296) = false := beq_eq_false_iff_ne.mpr c159
                                    have c159b1 : (t303 != t296) = true := bne_iff_ne.mpr c159
                                    exact absurd ((Option.some.inj H).trans HR.out) (by simp)
                              · replace c68 := Bool.eq_false_iff.mpr c68
                                subst c68
                                have H1 : (if t303 = t296 then (some false) else (some false)) = some r := by rw [if_neg (show ¬ (false = true) by decide)] at H; exact H
                                clear H
                                have H := H1
                                clear H1
                                by_cases c182 : t303 = t296
                                · rw [if_pos c182] at H
                                  have c182b0 : (t303 == t296) = true := beq_iff_eq.mpr c182
                                  have c182b1 : (t303 != t296) = false := bne_eq_false_iff_eq.mpr c182
                                  clear c182
                                  obtain rfl := Option.some.inj H
                                  go_wp2_with (first | (go_at_call 51; (with_reducible refine (sack_Choose.calls kj57 _ _ l2 a4 t325 t326 _ ?side1 ?side2 A62.out).mono ?_); (case side1 => repeat (first | exact (Kd.C_below HR2.out HB.out) | (with_reducible refine Kd.C_alloc ?_ _) | (with_reducible refine Kd.C_drewN ?_ _) | (with_reducible refine Kd.C_drew ?_))); (case side2 => exact HC2.out); rintro e w183 ⟨v327, rfl, ho0, hb⟩; have n0_ := Aside0.mk (Kd.R_elder' (by (with_reducible repeat (first | apply Kd.R_alloc | apply Kd.R_drewN | apply Kd.R_drew)); exact HO_16.out) (Kd.R_base ho0) hb); have n1_ := Aside0.mk (Kd.R_elder' (by (with_reducible repeat (first | apply Kd.R_alloc | apply Kd.R_drewN | apply Kd.R_drew)); exact HO_18.out) (Kd.R_base ho0) hb); have n2_ := Aside0.mk (Kd.R_elder' (by (with_reducible repeat (first | apply Kd.R_alloc | apply Kd.R_drewN | apply Kd.R_drew)); exact HO_20.out) (Kd.R_base ho0) hb); have n3_ := Aside0.mk (Kd.R_elder' (by (with_reducible repeat (first | apply Kd.R_alloc | apply Kd.R_drewN | apply Kd.R_drew)); exact HO_21.out) (Kd.R_base ho0) hb); have n4_ := Aside0.mk (Kd.R_elder' (by (with_reducible repeat (first | apply Kd.R_alloc | apply Kd.R_drewN | apply Kd.R_drew)); exact HO_22.out) (Kd.R_base ho0) hb); have n5_ := Aside0.mk (Kd.Q_elder' (by (with_reducible repeat (first | apply Kd.Q_alloc | apply Kd.Q_drewN | apply Kd.Q_drew)); exact HO_298002.out) (Kd.R_base ho0) hb); have n6_ := Aside0.mk (Kd.Q_elder' (by (with_reducible repeat (first | apply Kd.Q_alloc | apply Kd.Q_drewN | apply Kd.Q_drew)); exact HO_305002.out) (Kd.R_base ho0) hb); have n7_ := Aside0.mk (Kd.R_lower (Kd.R_new' (Kd.R_new' (Kd.R_new' (Kd.R_new' (Kd.R_new' (Kd.R_new' (Kd.R_new' ho0 (Kd.R_lt (by (with_reducible repeat (first | apply Kd.R_alloc | apply Kd.R_drewN | apply Kd.R_drew)); exact HO_16.out))) (Kd.R_lt (by (with_reducible repeat (first | apply Kd.R_alloc | apply Kd.R_drewN | apply Kd.R_drew)); exact HO_18.out))) (Kd.R_lt (by (with_reducible repeat (first | apply Kd.R_alloc | apply Kd.R_drewN | apply Kd.R_drew)); exact HO_20.out))) (Kd.R_lt (by (with_reducible repeat (first | apply Kd.R_alloc | apply Kd.R_drewN | apply Kd.R_drew)); exact HO_21.out))) (Kd.R_lt (by (with_reducible repeat (first | apply Kd.R_alloc | apply Kd.R_drewN | apply Kd.R_drew)); exact HO_22.out))) (Kd.Q_lt (by (with_reducible repeat (first | apply Kd.Q_alloc | apply Kd.Q_drewN | apply Kd.Q_drew)); exact HO_298002.out))) (Kd.Q_lt (by (with_reducible repeat (first | apply Kd.Q_alloc | apply Kd.Q_drewN | apply Kd.Q_drew)); exact HO_305002.out))) (below_size (by repeat (first | (with_reducible first | exact HB.out | apply below_alloc | apply pw_below_drewN | apply below_drew1 | refine below_set ?_ GE288.out | refine below_set ?_ GE297.out | refine below_set ?_ GE304.out) | exact HB.out)))); have n8_ := Aside0.mk (blk_below (g := gb288) (o := .cells #[.int .u32 a0_0, .int .u32 a0_1, .slice A0_2 l0_2.length c0_2] 66 (0, 0)) (by (with_reducible repeat (first | refine blk_drewN ?_ _ | refine blk_drew ?_ | refine blk_alloc ?_ _)); exact BK288.out) hb); have n9_ := Aside0.mk (blk_below (g := gb297) (o := .cells #[.int .u32 t291, .int .u32 t292, .slice Ao23 t293.length co23] 66 (0, 0)) (by (with_reducible repeat (first | refine blk_drewN ?_ _ | refine blk_drew ?_ | refine blk_alloc ?_ _)); exact BK297.out) hb); have n10_ := Aside0.mk (blk_below (g := gb304) (o := .cells #[.int .u32 t298, .int .u32 t299, .slice Ao30 t300.length co30] 66 (0, 0)) (by (with_reducible repeat (first | refine blk_drewN ?_ _ | refine blk_drew ?_ | refine blk_alloc ?_ _)); exact BK304.out) hb); have n11_ := Aside0.mk (below_step (by repeat (first | (with_reducible first | exact HB.out | apply below_alloc | apply pw_below_drewN | apply below_drew1 | refine below_set ?_ GE288.out | refine below_set ?_ GE297.out | refine below_set ?_ GE304.out) | exact HB.out)) hb); clear HO_16; clear HO_18; clear HO_20; clear HO_21; clear HO_22; clear HO_298002; clear HO_305002; clear BK288; clear BK297; clear BK304; clear HB; have HO_16 := n0_; have HO_18 := n1_; have HO_20 := n2_; have HO_21 := n3_; have HO_22 := n4_; have HO_298002 := n5_; have HO_305002 := n6_; have HO328 := n7_; have BK288 := n8_; have BK297 := n9_; have BK304 := n10_; have HB := n11_; clear n0_ n1_ n2_ n3_ n4_ n5_ n6_ n7_ n8_ n9_ n10_ n11_; (try clear hb); (try clear hb2); (try clear hk); (try clear hi); (try clear ho0); have hnb184 := NB288_297.out; have hnc184 := NB297_288.out; have hnb185 := NB288_304.out; have hnc185 := NB304_288.out; have hcz186_0 : w183.cell? ⟨gb288, 0, none⟩ = some (.int .u32 a0_0) := (blk_cell BK288.out 0).trans rfl; have hcz186_1 : w183.cell? ⟨gb288, 1, none⟩ = some (.int .u32 a0_1) := (blk_cell BK288.out 1).trans rfl; have hcz186_2 : w183.cell? ⟨gb288, 2, none⟩ = some (.slice A0_2 l0_2.length c0_2) := (blk_cell BK288.out 2).trans rfl; have hfz186_0 := blk_frozen BK288.out 0; have hfz186_1 := blk_frozen BK288.out 1; have hfz186_2 := blk_frozen BK288.out 2) | (go_at_call 52; (with_reducible refine (sack_Check.calls kj57 a0_0 a0_1 _ _ l0_2 t329 _ ?side1 ?side2 A63.out).mono ?_); (case side1 => repeat (first | exact (Kd.C_below HR0_2.out HB.out) | (with_reducible refine Kd.C_alloc ?_ _) | (with_reducible refine Kd.C_drewN ?_ _) | (with_reducible refine Kd.C_drew ?_))); (case side2 => exact HC0_2.out); rintro e w187 ⟨rfl, hb⟩; have n0_ := Aside0.mk (Kd.R_below (by (with_reducible repeat (first | apply Kd.R_alloc | apply Kd.R_drewN | apply Kd.R_drew)); exact HO_16.out) hb); have n1_ := Aside0.mk (Kd.R_below (by (with_reducible repeat (first | apply Kd.R_alloc | apply Kd.R_drewN | apply Kd.R_drew)); exact HO_18.out) hb); have n2_ := Aside0.mk (Kd.R_below (by (with_reducible repeat (first | apply Kd.R_alloc | apply Kd.R_drewN | apply Kd.R_drew)); exact HO_20.out) hb); have n3_ := Aside0.mk (Kd.R_below (by (with_reducible repeat (first | apply Kd.R_alloc | apply Kd.R_drewN | apply Kd.R_drew)); exact HO_21.out) hb); have n4_ := Aside0.mk (Kd.R_below (by (with_reducible repeat (first | apply Kd.R_alloc | apply Kd.R_drewN | apply Kd.R_drew)); exact HO_22.out) hb); have n5_ := Aside0.mk (Kd.Q_below (by (with_reducible repeat (first | apply Kd.Q_alloc | apply Kd.Q_drewN | apply Kd.Q_drew)); exact HO_298002.out) hb); have n6_ := Aside0.mk (Kd.Q_below (by (with_reducible repeat (first | apply Kd.Q_alloc | apply Kd.Q_drewN | apply Kd.Q_drew)); exact HO_305002.out) hb); have n7_ := Aside0.mk (Kd.R_below (by (with_reducible repeat (first | apply Kd.R_alloc | apply Kd.R_drewN | apply Kd.R_drew)); exact HO328.out) hb); have n8_ := Aside0.mk (blk_below (g := gb288) (o := .cells #[.int .u32 a0_0, .int .u32 a0_1, .slice A0_2 l0_2.length c0_2] 66 (0, 0)) (by (with_reducible repeat (first | refine blk_drewN ?_ _ | refine blk_drew ?_ | refine blk_alloc ?_ _)); exact BK288.out) hb); have n9_ := Aside0.mk (blk_below (g := gb297) (o := .cells #[.int .u32 t291, .int .u32 t292, .slice Ao23 t293.length co23] 66 (0, 0)) (by (with_reducible repeat (first | refine blk_drewN ?_ _ | refine blk_drew ?_ | refine blk_alloc ?_ _)); exact BK297.out) hb); have n10_ := Aside0.mk (blk_below (g := gb304) (o := .cells #[.int .u32 t298, .int .u32 t299, .slice Ao30 t300.length co30] 66 (0, 0)) (by (with_reducible repeat (first | refine blk_drewN ?_ _ | refine blk_drew ?_ | refine blk_alloc ?_ _)); exact BK304.out) hb); have n11_ := Aside0.mk (below_step (by repeat (first | (with_reducible first | exact HB.out | apply below_alloc | apply pw_below_drewN | apply below_drew1 | refine below_set ?_ GE288.out | refine below_set ?_ GE297.out | refine below_set ?_ GE304.out) | exact HB.out)) hb); clear HO_16; clear HO_18; clear HO_20; clear HO_21; clear HO_22; clear HO_298002; clear HO_305002; clear HO328; clear BK288; clear BK297; clear BK304; clear HB; have HO_16 := n0_; have HO_18 := n1_; have HO_20 := n2_; have HO_21 := n3_; have HO_22 := n4_; have HO_298002 := n5_; have HO_305002 := n6_; have HO328 := n7_; have BK288 := n8_; have BK297 := n9_; have BK304 := n10_; have HB := n11_; clear n0_ n1_ n2_ n3_ n4_ n5_ n6_ n7_ n8_ n9_ n10_ n11_; (try clear hb); (try clear hb2); (try clear hk); (try clear hi); have hnb188 := NB304_297.out; have hnc188 := NB297_304.out; have hcz189_0 : w187.cell? ⟨gb304, 0, none⟩ = some (.int .u32 t298) := (blk_cell BK304.out 0).trans rfl; have hcz189_1 : w187.cell? ⟨gb304, 1, none⟩ = some (.int .u32 t299) := (blk_cell BK304.out 1).trans rfl; have hcz189_2 : w187.cell? ⟨gb304, 2, none⟩ = some (.slice Ao30 t300.length co30) := (blk_cell BK304.out 2).trans rfl; have hfz189_0 := blk_frozen BK304.out 0; have hfz189_1 := blk_frozen BK304.out 1; have hfz189_2 := blk_frozen BK304.out 2; have hcz190_0 : w187.cell? ⟨gb297, 0, none⟩ = some (.int .u32 t291) := (blk_cell BK297.out 0).trans rfl; have hcz190_1 : w187.cell? ⟨gb297, 1, none⟩ = some (.int .u32 t292) := (blk_cell BK297.out 1).trans rfl; have hcz190_2 : w187.cell? ⟨gb297, 2, none⟩ = some (.slice Ao23 t293.length co23) := (blk_cell BK297.out 2).trans rfl; have hfz190_0 := blk_frozen BK297.out 0; have hfz190_1 := blk_frozen BK297.out 1; have hfz190_2 := blk_frozen BK297.out 2) | (go_at_call 53; (with_reducible refine (patchbayref3_SameScore.calls kj57 t298 t299 _ _ t300 t291 t292 _ _ t293 true _ ?side1 ?side2 ?side3 ?side4 A65.out).mono ?_); (case side1 => repeat (first | exact (Kd.Q_reads' HO_305002.out).2.2 | (with_reducible refine Kd.C_alloc ?_ _) | (with_reducible refine Kd.C_drewN ?_ _) | (with_reducible refine Kd.C_drew ?_))); (case side2 => exact (Kd.Q_reads' HO_305002.out).2.1); (case side3 => repeat (first | exact (Kd.Q_reads' HO_298002.out).2.2 | (with_reducible refine Kd.C_alloc ?_ _) | (with_reducible refine Kd.C_drewN ?_ _) | (with_reducible refine Kd.C_drew ?_))); (case side4 => exact (Kd.Q_reads' HO_298002.out).2.1); rintro e w191 ⟨rfl, hb⟩; have n0_ := Aside0.mk (Kd.R_below (by (with_reducible repeat (first | apply Kd.R_alloc | apply Kd.R_drewN | apply Kd.R_drew)); exact HO_16.out) hb); have n1_ := Aside0.mk (Kd.R_below (by (with_reducible repeat (first | apply Kd.R_alloc | apply Kd.R_drewN | apply Kd.R_drew)); exact HO_18.out) hb); have n2_ := Aside0.mk (Kd.R_below (by (with_reducible repeat (first | apply Kd.R_alloc | apply Kd.R_drewN | apply Kd.R_drew)); exact HO_20.out) hb); have n3_ := Aside0.mk (Kd.R_below (by (with_reducible repeat (first | apply Kd.R_alloc | apply Kd.R_drewN | apply Kd.R_drew)); exact HO_21.out) hb); have n4_ := Aside0.mk (Kd.R_below (by (with_reducible repeat (first | apply Kd.R_alloc | apply Kd.R_drewN | apply Kd.R_drew)); exact HO_22.out) hb); have n5_ := Aside0.mk (Kd.Q_below (by (with_reducible repeat (first | apply Kd.Q_alloc | apply Kd.Q_drewN | apply Kd.Q_drew)); exact HO_298002.out) hb); have n6_ := Aside0.mk (Kd.Q_below (by (with_reducible repeat (first | apply Kd.Q_alloc | apply Kd.Q_drewN | apply Kd.Q_drew)); exact HO_305002.out) hb); have n7_ := Aside0.mk (Kd.R_below (by (with_reducible repeat (first | apply Kd.R_alloc | apply Kd.R_drewN | apply Kd.R_drew)); exact HO328.out) hb); have n8_ := Aside0.mk (blk_below (g := gb288) (o := .cells #[.int .u32 a0_0, .int .u32 a0_1, .slice A0_2 l0_2.length c0_2] 66 (0, 0)) (by (with_reducible repeat (first | refine blk_drewN ?_ _ | refine blk_drew ?_ | refine blk_alloc ?_ _)); exact BK288.out) hb); have n9_ := Aside0.mk (blk_below (g := gb297) (o := .cells #[.int .u32 t291, .int .u32 t292, .slice Ao23 t293.length co23] 66 (0, 0)) (by (with_reducible repeat (first | refine blk_drewN ?_ _ | refine blk_drew ?_ | refine blk_alloc ?_ _)); exact BK297.out) hb); have n10_ := Aside0.mk (blk_below (g := gb304) (o := .cells #[.int .u32 t298, .int .u32 t299, .slice Ao30 t300.length co30] 66 (0, 0)) (by (with_reducible repeat (first | refine blk_drewN ?_ _ | refine blk_drew ?_ | refine blk_alloc ?_ _)); exact BK304.out) hb); have n11_ := Aside0.mk (below_step (by repeat (first | (with_reducible first | exact HB.out | apply below_alloc | apply pw_below_drewN | apply below_drew1 | refine below_set ?_ GE288.out | refine below_set ?_ GE297.out | refine below_set ?_ GE304.out) | exact HB.out)) hb); clear HO_16; clear HO_18; clear HO_20; clear HO_21; clear HO_22; clear HO_298002; clear HO_305002; clear HO328; clear BK288; clear BK297; clear BK304; clear HB; have HO_16 := n0_; have HO_18 := n1_; have HO_20 := n2_; have HO_21 := n3_; have HO_22 := n4_; have HO_298002 := n5_; have HO_305002 := n6_; have HO328 := n7_; have BK288 := n8_; have BK297 := n9_; have BK304 := n10_; have HB := n11_; clear n0_ n1_ n2_ n3_ n4_ n5_ n6_ n7_ n8_ n9_ n10_ n11_; (try clear hb); (try clear hb2); (try clear hk); (try clear hi); obtain ⟨Ao192, co192, eo192⟩ := Kd.R_slice HO_16.out; subst eo192; obtain ⟨Ao193, co193, eo193⟩ := Kd.R_slice HO_20.out; subst eo193) | (go_at_call 54; (with_reducible refine (patchbayref3_SameBlocks.calls kj57 _ _ t305 _ _ x20_12 false _ ?side1 ?side2 ?side3 ?side4 A67.out).mono ?_); (case side1 => repeat (first | exact (Kd.R_reads' HO_16.out).2.2 | (with_reducible refine Kd.C_alloc ?_ _) | (with_reducible refine Kd.C_drewN ?_ _) | (with_reducible refine Kd.C_drew ?_))); (case side2 => exact (Kd.R_reads' HO_16.out).2.1); (case side3 => repeat (first | exact (Kd.R_reads' HO_20.out).2.2 | (with_reducible refine Kd.C_alloc ?_ _) | (with_reducible refine Kd.C_drewN ?_ _) | (with_reducible refine Kd.C_drew ?_))); (case side4 => exact (Kd.R_reads' HO_20.out).2.1); rintro e w' ⟨rfl, ⟨nd, rfl⟩⟩; (try first | exact ⟨rfl, _, World.drewN_drewN _ _ _⟩ | exact ⟨rfl, _, Eq.trans (World.drewN_drewN _ _ _) (congrArg (World.drewN _) (Nat.add_assoc _ _ _))⟩)))
                                  go_ret
                                  exact ⟨by first | rfl | (simp [errW_none, errW_some] <;> rfl) | (simp [*, errW_none, errW_some] <;> rfl), by repeat (first | (with_reducible first | exact HB.out | apply below_alloc | apply pw_below_drewN | apply below_drew1 | refine below_set ?_ GE288.out | refine below_set ?_ GE297.out | refine below_set ?_ GE304.out) | exact HB.out)⟩
                                · rw [if_neg c182] at H
                                  have c182b0 : (t303 == t296) = false := beq_eq_false_iff_ne.mpr c182
                                  have c182b1 : (t303 != t296) = true := bne_iff_ne.mpr c182
                                  exact absurd ((Option.some.inj H).trans HR.out) (by simp)
                            · replace c66 := Bool.eq_false_iff.mpr c66
                              subst c66
                              have H1 : ((patchbayref3_SameBlocks.f kj57 t305 x20_12).bind fun t334 => (if t334 = true then (if t308 = t290 then ((patchbayref3_SameBlocks.f kj57 t309 x21_12).bind fun t335 => (if t335 = true then (some false) else (some false))) else (some false)) else (some false))) = some r := by rw [if_neg (show ¬ (false = true) by decide)] at H; exact H
                              clear H
                              have H := H1
                              clear H1
                              replace H := Option.bind_eq_some_iff.mp H
                              obtain ⟨t334, A2050, H⟩ := H
                              replace H : (if t334 = true then (if t308 = t290 then ((patchbayref3_SameBlocks.f kj57 t309 x21_12).bind fun t335 => (if t335 = true then (some false) else (some false))) else (some false)) else (some false)) = some r := H
                              have A205 := Aside0.mk A2050
                              clear A2050
                              by_cases c206 : t334 = true
                              · subst c206
                                have H1 : (if t308 = t290 then ((patchbayref3_SameBlocks.f kj57 t309 x21_12).bind fun t335 => (if t335 = true then (some false) else (some false))) else (some false)) = some r := by rw [if_pos rfl] at H; exact H
                                clear H
                                have H := H1
                                clear H1
                                by_cases c207 : t308 = t290
                                · rw [if_pos c207] at H
                                  have c207b0 : (t308 == t290) = true := beq_iff_eq.mpr c207
                                  have c207b1 : (t308 != t290) = false := bne_eq_false_iff_eq.mpr c207
                                  clear c207
                                  replace H := Option.bind_eq_some_iff.mp H
                                  obtain ⟨t335, A2080, H⟩ := H
                                  replace H : (if t335 = true then (some false) else (some false)) = some r := H
                                  have A208 := Aside0.mk A2080
                                  clear A2080
                                  by_cases c209 : t335 = true
                                  · subst c209
                                    have H1 : (some false) = some r := by rw [if_pos rfl] at H; exact H
                                    clear H
                                    have H := H1
                                    clear H1
                                    exact absurd ((Option.some.inj H).trans HR.out) (by simp)
                                  · replace c209 := Bool.eq_false_iff.mpr c209
                                    subst c209
                                    have H1 : (some false) = some r := by rw [if_neg (show ¬ (false = true) by decide)] at H; exact H
                                    clear H
                                    have H := H1
                                    clear H1
                                    exact absurd ((Option.some.inj H).trans HR.out) (by simp)
                                · rw [if_neg c207] at H
                                  have c207b0 : (t308 == t290) = false := beq_eq_false_iff_ne.mpr c207
                                  have c207b1 : (t308 != t290) = true := bne_iff_ne.mpr c207
                                  exact absurd ((Option.some.inj H).trans HR.out) (by simp)
                              · replace c206 := Bool.eq_false_iff.mpr c206
                                subst c206
                                have H1 : (some false) = some r := by rw [if_neg (show ¬ (false = true) by decide)] at H; exact H
                                clear H
                                have H := H1
                                clear H1
                                exact absurd ((Option.some.inj H).trans HR.out) (by simp)
                          · rw [if_neg c64] at H
                            have c64b0 : (t329 == t290) = false := beq_eq_false_iff_ne.mpr c64
                            have c64b1 : (t329 != t290) = true := bne_iff_ne.mpr c64
                            replace H := Option.bind_eq_some_iff.mp H
                            obtain ⟨t336, A2580, H⟩ := H
                            replace H : (if t336 = true then (if t308 = t290 then ((patchbayref3_SameBlocks.f kj57 t309 x21_12).bind fun t337 => (if t337 = true then (some false) else (some false))) else (some false)) else (some false)) = some r := H
                            have A258 := Aside0.mk A2580
                            clear A2580
                            by_cases c259 : t336 = true
                            · subst c259
                              have H1 : (if t308 = t290 then ((patchbayref3_SameBlocks.f kj57 t309 x21_12).bind fun t337 => (if t337 = true then (some false) else (some false))) else (some false)) = some r := by rw [if_pos rfl] at H; exact H
                              clear H
                              have H := H1
                              clear H1
                              by_cases c260 : t308 = t290
                              · rw [if_pos c260] at H
                                have c260b0 : (t308 == t290) = true := beq_iff_eq.mpr c260
                                have c260b1 : (t308 != t290) = false := bne_eq_false_iff_eq.mpr c260
                                clear c260
                                replace H := Option.bind_eq_some_iff.mp H
                                obtain ⟨t337, A2610, H⟩ := H
                                replace H : (if t337 = true then (some false) else (some false)) = some r := H
                                have A261 := Aside0.mk A2610
                                clear A2610
                                by_cases c262 : t337 = true
                                · subst c262
                                  have H1 : (some false) = some r := by rw [if_pos rfl] at H; exact H
                                  clear H
                                  have H := H1
                                  clear H1
                                  exact absurd ((Option.some.inj H).trans HR.out) (by simp)
                                · replace c262 := Bool.eq_false_iff.mpr c262
                                  subst c262
                                  have H1 : (some false) = some r := by rw [if_neg (show ¬ (false = true) by decide)] at H; exact H
                                  clear H
                                  have H := H1
                                  clear H1
                                  exact absurd ((Option.some.inj H).trans HR.out) (by simp)
                              · rw [if_neg c260] at H
                                have c260b0 : (t308 == t290) = false := beq_eq_false_iff_ne.mpr c260
                                have c260b1 : (t308 != t290) = true := bne_iff_ne.mpr c260
                                exact absurd ((Option.some.inj H).trans HR.out) (by simp)
                            · replace c259 := Bool.eq_false_iff.mpr c259
                              subst c259
                              have H1 : (some false) = some r := by rw [if_neg (show ¬ (false = true) by decide)] at H; exact H
                              clear H
                              have H := H1
                              clear H1
                              exact absurd ((Option.some.inj H).trans HR.out) (by simp)
  · replace c7 := Bool.eq_false_iff.mpr c7
    subst c7
    have H1 : (some false) = some r := by rw [if_neg (show ¬ (false = true) by decide)] at H; exact H
    clear H
    have H := H1
    clear H1
    exact absurd ((Option.some.inj H).trans HR.out) (by simp)
end Go.Proofs.Ytjiiejeldgkdiaa.PSackSays
