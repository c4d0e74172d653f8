/- Proved: a world in which the listed table reads as the row says holds the table's cells. No further condition. -/
import Derived.Test.YtjfjkgjaibnjeaaDoorRows
import Derived.Test.YtjfjkgjaibnjeaaDoorTabs
import Derived.Lib.LaidTab
import Derived.ChangeArms
namespace Go.Proofs.YtjfjkgjaibnjeaaDoor.PConnSays
open Go.RowKit Go.ChangeShapes Go.WideShapes Go.Lib
set_option linter.unusedVariables false
set_option linter.unusedSimpArgs false
def dat {H : Type} (r : Int × Int × Int × Int) : DataW H := .agg [.lit (.int .i64 r.1), .lit (.int .i64 r.2.1), .lit (.int .i64 r.2.2.1), .lit (.int .i64 r.2.2.2)]
def fld (j : Nat) : Int := if j % 4 = 0 then (rv (j / 4)).1 else if j % 4 = 1 then (rv (j / 4)).2.1 else if j % 4 = 2 then (rv (j / 4)).2.2.1 else (rv (j / 4)).2.2.2
theorem tabL_eq : tabL = (List.range 156).map fun j => Value.int .i64 (fld j) := by kernel_rfl
theorem cells38 : Tryd.prog.cellsOf 38 = 4 := by kernel_rfl
theorem cells39 : Tryd.prog.cellsOf 39 = 156 := by kernel_rfl
theorem cells3 : Tryd.prog.cellsOf 3 = 1 := by kernel_rfl
theorem fld_cell {H : Type} {enc : TypeId × Value → H} {w : World} {base : Nat} {sp : Nat → Bool} {held : Bool} {n o : Nat} {cs : List Value} {y : DataW H × List MemPlace} {z : Int}
    (h : DataW.trod enc Tryd.prog w base sp held n 3 ((cs.drop o).take (Tryd.prog.cellsOf 3)) = some y) (hz : (DataW.lit (.int .i64 z) : DataW H) = y.1) : cs[o]? = some (.int .i64 z) := by
  rw [cells3] at h
  obtain ⟨a, hc, rfl, _⟩ := DataW.trod_int Tryd.underlying3 h
  injection hz with hz
  injection hz with _ hz
  subst hz
  have := congrArg (·[0]?) hc
  simpa [List.getElem?_take, List.getElem?_drop] using this
theorem rule_cells {H : Type} {enc : TypeId × Value → H} {w : World} {base : Nat} {sp : Nat → Bool} {held : Bool} {fuel : Nat} {cs : List Value} {r : Int × Int × Int × Int} {p : List MemPlace}
    (h : DataW.trod enc Tryd.prog w base sp held fuel 38 cs = some (dat r, p)) : cs[0]? = some (.int .i64 r.1) ∧ cs[1]? = some (.int .i64 r.2.1) ∧ cs[2]? = some (.int .i64 r.2.2.1) ∧ cs[3]? = some (.int .i64 r.2.2.2) := by
  obtain ⟨ys, n, _, hx, hl, hyl, hf⟩ := DataW.trod_struct Tryd.underlying38 h
  have e1 : (dat r : DataW H) = .agg (ys.map (·.1)) := congrArg Prod.fst hx
  unfold dat at e1
  injection e1 with e1
  match ys, hyl, e1 with
  | [y0, y1, y2, y3], _, e1 =>
    simp only [List.map_cons, List.map_nil, List.cons.injEq, and_true] at e1
    obtain ⟨z0, z1, z2, z3⟩ := e1
    exact ⟨fld_cell (hf 0 _ rfl) z0, fld_cell (hf 1 _ rfl) z1, fld_cell (hf 2 _ rfl) z2, fld_cell (hf 3 _ rfl) z3⟩
theorem rules_cells {H : Type} {enc : TypeId × Value → H} {w : World} {base : Nat} {sp : Nat → Bool} {held : Bool} {fuel : Nat} {cs : List Value} {p : List MemPlace}
    (h : DataW.trod enc Tryd.prog w base sp held fuel 39 cs = some (.agg (R.map dat), p)) : ∀ j, j < 156 → cs[j]? = some (.int .i64 (fld j)) := by
  cases fuel with
  | zero => simp [DataW.trod] at h
  | succ fuel =>
    simp only [DataW.trod, Tryd.underlying39, cells38] at h
    split at h
    · rename_i hl
      obtain ⟨xs, hm, hx⟩ := Option.map_eq_some_iff.1 h
      have hxs : xs.map (·.1) = R.map dat := by
        have := congrArg Prod.fst hx
        simpa using this
      intro j hj
      obtain ⟨b, hb, hf⟩ := mapM_at hm (j / 4) (j / 4) (by rw [List.getElem?_range (by omega)])
      have h2 : (xs.map (·.1))[j / 4]? = some b.1 := by simp [hb]
      rw [hxs] at h2
      have h3 : (R.map (dat (H := H)))[j / 4]? = some (dat (rv (j / 4))) := by
        unfold rv
        simp [List.getD, show j / 4 < R.length from by rw [show R.length = 39 from by decide]; omega]
      have h4 : b = (dat (rv (j / 4)), b.2) := by rw [h3] at h2; injection h2 with h2; rw [h2]
      rw [h4] at hf
      obtain ⟨c0, c1, c2, c3⟩ := rule_cells hf
      have key : ∀ (r : Nat) (v : Value), r < 4 → ((cs.drop (j / 4 * 4)).take 4)[r]? = some v → cs[j / 4 * 4 + r]? = some v := by
        intro r v hr hv
        rw [List.getElem?_take, if_pos hr, List.getElem?_drop] at hv
        exact hv
      unfold fld
      by_cases m0 : j % 4 = 0
      · rw [if_pos m0]
        have := key 0 _ (by omega) c0
        rwa [show j / 4 * 4 + 0 = j from by omega] at this
      · rw [if_neg m0]
        by_cases m1 : j % 4 = 1
        · rw [if_pos m1]
          have := key 1 _ (by omega) c1
          rwa [show j / 4 * 4 + 1 = j from by omega] at this
        · rw [if_neg m1]
          by_cases m2 : j % 4 = 2
          · rw [if_pos m2]
            have := key 2 _ (by omega) c2
            rwa [show j / 4 * 4 + 2 = j from by omega] at this
          · rw [if_neg m2]
            have := key 3 _ (by omega) c3
            rwa [show j / 4 * 4 + 3 = j from by omega] at this
    · cases h
theorem gRules : Tryd.prog.globalNamed "patchbay/conn.rules" = some 0 := by kernel_rfl
theorem gRulesType : (Tryd.prog.globals[0]?).map (·.type) = some 39 := by kernel_rfl
theorem laid_eq {H : Type} : (Rows.laid_patchbay_conn_rules : DataW H) = .agg (R.map dat) := rfl
theorem tab_of_laid {W : World} (h : laidMet Tryd.prog [("patchbay/conn.rules", Rows.laid_patchbay_conn_rules)] W) : Tab W := by
  obtain ⟨ps, ⟨g', t', cs, fuel, p, q, hg', ht', hvar, hd, _, _⟩, _⟩ := h
  obtain rfl := Option.some.inj (gRules.symm.trans hg')
  obtain rfl := Option.some.inj (gRulesType.symm.trans ht')
  rw [laid_eq] at hd
  have hc := rules_cells hd
  intro j v hv
  rw [tabL_eq] at hv
  by_cases hj : j < 156
  · rw [List.getElem?_map, List.getElem?_range hj] at hv
    have := World.var?_cell gRules hvar j
    rw [this, List.getElem?_toArray, hc j hj]
    exact hv
  · rw [List.getElem?_eq_none (by simpa using hj)] at hv
    cases hv
theorem tab_of_says {W : World} (h : laidMetH Tryd.prog Rows.connSaysRow.laid W) : Tab W := tab_of_laid h
theorem tab_of_ways {W : World} (h : laidMetH Tryd.prog Rows.connWaysRow.laid W) : Tab W := tab_of_laid h
end Go.Proofs.YtjfjkgjaibnjeaaDoor.PConnSays
