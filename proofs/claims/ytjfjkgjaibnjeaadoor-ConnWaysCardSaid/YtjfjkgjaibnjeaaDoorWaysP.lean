/- Proved: what the reference's search by length returns, as a table that is filled length by length; the first length at which it finds a way gives the way that conn.Way's search finds. No condition. -/
import Derived.Test.YtjfjkgjaibnjeaaDoorWayM
import Derived.Test.YtjfjkgjaibnjeaaDoorPConnWaysx1
namespace Go.Proofs.YtjfjkgjaibnjeaaDoor.PConnWays
open Go.RowKit Go.Proofs.YtjfjkgjaibnjeaaDoorW.PrintWords Go.Proofs.YtjfjkgjaibnjeaaDoorW.PrintLast Go.Proofs.YtjfjkgjaibnjeaaDoorW.PrintMore
set_option linter.unusedVariables false
set_option linter.unusedSimpArgs false
theorem w64 {n : Int} (h : -9223372036854775808 ≤ n ∧ n ≤ 9223372036854775807) : wrap64 n = n := by unfold wrap64; omega
def stp (s e : Nat) : Option (Nat) := match patchbayref3_ConnStep.f 5 s e with
  | some (x, _, true) => some x.toNat
  | _ => none
def stpOk (s e : Nat) : Bool := match patchbayref3_ConnStep.f 5 s e with
  | some (x, _, true) => decide (0 ≤ x ∧ x ≤ 10)
  | some (_, _, false) => true
  | none => false
theorem stpOk_all : ∀ s : Fin 11, ∀ e : Fin 10, stpOk s.val e.val = true := by decide +kernel
theorem step_up {a0 a1 : Int} {r : Int × Int × Bool} (h : patchbayref3_ConnStep.f 5 a0 a1 = some r) : ∀ d, patchbayref3_ConnStep.f (5 + d) a0 a1 = some r
  | 0 => h
  | d + 1 => patchbayref3_ConnStep.mono a0 a1 (5 + d) r (step_up h d)
def scn (prev : List (List Int × Bool)) (s : Nat) : Nat → Nat → List Int × Bool
  | _, 0 => ([], false)
  | e, d + 1 => match stp s e with
    | some x => if (prev.getD x ([], false)).2 = true then ((e : Int) :: (prev.getD x ([], false)).1, true) else scn prev s (e + 1) d
    | none => scn prev s (e + 1) d
def dp (t : Nat) : Nat → List (List Int × Bool)
  | 0 => (List.range 11).map fun s => ([], decide (s = t))
  | m + 1 => (List.range 11).map fun s => scn (dp t m) s 0 10
theorem scn_len (prev : List (List Int × Bool)) (s B : Nat) (h : ∀ x, (prev.getD x ([], false)).1.length ≤ B) : ∀ d e, (scn prev s e d).1.length ≤ B + 1
  | 0, e => by rw [scn]; simp
  | d + 1, e => by
    rw [scn]
    split
    · rename_i x hx
      split
      · have := h x
        simp only [List.length_cons]
        omega
      · exact scn_len prev s B h d (e + 1)
    · exact scn_len prev s B h d (e + 1)
theorem dp_at (t m s : Nat) (h : s < 11) : (dp t (m + 1)).getD s ([], false) = scn (dp t m) s 0 10 := by
  rw [dp]; simp [List.getD, h]
theorem dp_len (t : Nat) : ∀ m x, ((dp t m).getD x ([], false)).1.length ≤ m
  | 0, x => by
    rw [dp]
    by_cases h : x < 11
    · simp [List.getD, h]
    · simp [List.getD, h]
  | m + 1, x => by
    by_cases h : x < 11
    · rw [dp_at t m x h]; exact scn_len _ x m (dp_len t m) 10 0
    · rw [dp]; simp [List.getD, h]
theorem way_l (t m : Nat) (hm : m ≤ 20) (K : Nat) (ih : ∀ k x : Nat, K ≤ k → x < 11 → patchbayref3_ConnWay.f k x t m = some ((dp t m).getD x ([], false))) (s : Nat) (hs : s < 11) :
    ∀ (d e k : Nat), e + d = 10 → K + d + 10 ≤ k → patchbayref3_ConnWay.l0 k s t ((m + 1 : Nat) : Int) e = some (scn (dp t m) s e d) := by
  intro d
  induction d with
  | zero =>
    intro e k he hk
    obtain ⟨k, rfl⟩ : ∃ q, k = q + 1 := ⟨k - 1, by omega⟩
    rw [patchbayref3_ConnWay.l0, if_neg (by omega), scn]
  | succ d ihd =>
    intro e k he hk
    obtain ⟨k, rfl⟩ : ∃ q, k = q + 6 := ⟨k - 6, by omega⟩
    have hnext := ihd (e + 1) (k + 5) (by omega) (by omega)
    have e1 : wrap64 ((e : Int) + 1) = ((e + 1 : Nat) : Int) := by rw [w64 (by omega)]; omega
    have e2 : wrap64 (((m + 1 : Nat) : Int) - 1) = (m : Int) := by rw [w64 (by omega)]; omega
    have hok := stpOk_all ⟨s, hs⟩ ⟨e, by omega⟩
    unfold stpOk at hok
    simp only at hok
    rw [patchbayref3_ConnWay.l0, if_pos (by omega), scn]
    unfold stp
    split at hok
    · rename_i x y hq
      have hx := of_decide_eq_true hok
      obtain ⟨x, rfl⟩ : ∃ n : Nat, x = n := ⟨x.toNat, by omega⟩
      have hup := step_up hq k
      rw [show 5 + k = k + 5 from by omega] at hup
      rw [hup, Option.bind_some, if_pos rfl, e2, ih (k + 5) x (by omega) (by omega), Option.bind_some, hq]
      simp only [Int.toNat_natCast]
      by_cases hb : ((dp t m).getD x ([], false)).2 = true
      · have hlen := dp_len t m x
        rw [if_pos hb, if_pos hb, Option.bind_some, if_pos (by simp only [List.length_singleton]; omega)]
        rfl
      · rw [if_neg hb, if_neg hb, e1]
        exact hnext
    · rename_i x y hq
      have hup := step_up hq k
      rw [show 5 + k = k + 5 from by omega] at hup
      rw [hup, Option.bind_some, if_neg (by simp), e1, hq]
      exact hnext
    · cases hok
theorem way_v (t : Nat) (ht : t < 11) : ∀ m k s : Nat, m ≤ 20 → 30 * m + 5 ≤ k → s < 11 → patchbayref3_ConnWay.f k s t m = some ((dp t m).getD s ([], false))
  | 0, k, s, _, hk, hs => by
    obtain ⟨k, rfl⟩ : ∃ q, k = q + 1 := ⟨k - 1, by omega⟩
    rw [patchbayref3_ConnWay.f, if_pos (show ((0 : Nat) : Int) = 0 from rfl), dp]
    by_cases h : s = t
    · subst h; simp [List.getD, hs]
    · have : ¬ (s : Int) = (t : Int) := by omega
      simp [List.getD, hs, h, this]
  | m + 1, k, s, hm, hk, hs => by
    obtain ⟨k, rfl⟩ : ∃ q, k = q + 1 := ⟨k - 1, by omega⟩
    rw [patchbayref3_ConnWay.f, if_neg (by omega), dp_at t m s hs]
    exact way_l t m (by omega) (30 * m + 5) (fun k x hk hx => way_v t ht m k x (by omega) hk hx) s hs 10 0 k rfl (by omega)
/-- The first length, up to 7, at which the table holds a way, and that way. -/
def fst7 (f t : Nat) : Nat → Nat → Option (Nat × List Int)
  | _, 0 => none
  | m, d + 1 => if ((dp t m).getD f ([], false)).2 = true then some (m, ((dp t m).getD f ([], false)).1) else fst7 f t (m + 1) d
def same (f t : Nat) : Bool := match fst7 f t 0 8, PConnSays.wayV f t with
  | some (_, l), some l' => decide (l = l') && decide (l.length ≤ 20)
  | _, _ => false
theorem same_all : ∀ t f : Fin 11, same f.val t.val = true := by decide +kernel
end Go.Proofs.YtjfjkgjaibnjeaaDoor.PConnWays
