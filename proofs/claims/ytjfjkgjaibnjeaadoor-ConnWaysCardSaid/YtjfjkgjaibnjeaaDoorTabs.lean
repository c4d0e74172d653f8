/- Proved: what conn.Step does in any world that holds the table of transitions. The table's cells are the one condition. -/
import Derived.Test.YtjfjkgjaibnjeaaDoorPConnSaysx1
namespace Go.Proofs.YtjfjkgjaibnjeaaDoor.PConnSays
open Go.RowKit Go.Proofs.YtjfjkgjaibnjeaaDoorW.PrintWords Go.Proofs.YtjfjkgjaibnjeaaDoorW.PrintLast Go.Proofs.YtjfjkgjaibnjeaaDoorW.PrintMore
set_option linter.unusedVariables false
set_option linter.unusedSimpArgs false
def R : List (Int × Int × Int × Int) := [(0, 0, 1, 0), (0, 1, 2, 2), (1, 2, 0, 0), (1, 3, 0, 0), (1, 1, 2, 2), (1, 4, 3, 18), (2, 2, 0, 0), (2, 3, 0, 0), (2, 4, 3, 18), (2, 5, 4, 16), (2, 8, 0, 0), (3, 2, 5, 17), (3, 3, 0, 4), (3, 6, 4, 0), (3, 8, 0, 0), (4, 2, 5, 17), (4, 3, 0, 4), (4, 7, 7, 16), (4, 8, 0, 0), (5, 3, 0, 4), (5, 6, 6, 0), (5, 7, 8, 16), (5, 8, 0, 0), (6, 3, 0, 4), (6, 7, 10, 16), (6, 8, 0, 0), (7, 2, 9, 17), (7, 3, 0, 4), (7, 8, 0, 0), (8, 3, 0, 0), (8, 6, 10, 0), (8, 8, 0, 0), (9, 3, 0, 0), (9, 6, 0, 0), (9, 8, 0, 0), (10, 3, 0, 0), (10, 7, 10, 16), (10, 8, 0, 0), (10, 9, 0, 0)]
def rv (k : Nat) : Int × Int × Int × Int := R.getD k (0, 0, 0, 0)
def tabL : List Value := R.flatMap fun r => [.int .i64 r.1, .int .i64 r.2.1, .int .i64 r.2.2.1, .int .i64 r.2.2.2]
def Tab (w : World) : Prop := ∀ j v, tabL[j]? = some v → w.cell? ⟨0, j, none⟩ = some v
theorem info39 : (Tryd.prog.info? 39).map (·.size) = some 156 := by kernel_rfl
theorem tabL_len : tabL.length = 156 := by kernel_rfl
theorem load_tab {w : World} (h : Tab w) : (loadVar 39 ⟨0, 0, none⟩).run Tryd.prog w = .ok (.agg tabL.toArray) w := by
  have hl : (loadCells ⟨0, 0, none⟩ tabL.length).run Tryd.prog w = .ok tabL.toArray w :=
    run_loadCells_list (P := Tryd.prog) w ⟨0, 0, none⟩ tabL (fun j v hv => by
      have hadd : (⟨0, 0, none⟩ : Addr).add j = ⟨0, j, none⟩ := by unfold Addr.add; split <;> simp_all
      rw [hadd]
      exact h j v hv)
  rw [tabL_len] at hl
  have hagg : (isAgg 39).run Tryd.prog w = .ok true w := by
    unfold isAgg
    rw [Sem.run_bind, run_underlying Tryd.underlying39 w]
    rfl
  have hi := info39
  cases hq : Tryd.prog.info? 39 with
  | none => simp [hq] at hi
  | some i =>
    have hs : i.size = 156 := by simpa [hq] using hi
    simp [loadVar, Sem.run_bind, hagg, sizeOf, typeInfo, hq, hs, hl]
theorem wpList_load_tab {ops : Array Oper} {rest : List Oper} {o : Oper} {a : Act} {w : World} {Q : Exit → Act → World → Prop} (hgd : o.guard = none) (x : Operand) (ho : o.op = .load 39 x) (hx : a.eval x = .pointer (some ⟨0, 0, none⟩)) (hT : Tab w)
    (h : wpList Tryd.prog ops Q rest (a.put o.dst (.agg tabL.toArray)) w) : wpList Tryd.prog ops Q (o :: rest) a w := by
  refine wpList_plain hgd fun _ hK => ?_
  unfold Oper.wp execOp
  simp only [ho, hx, Instr.loadAt, Instr.sureAddr, Sem.run_bind, Sem.run_pure, Result.andThen_ok, load_tab hT]
  exact hK _ _ h
theorem ix0 (w : World) : (Instr.index 39 (.agg tabL.toArray) (.int .i64 0)).run Tryd.prog w = .ok (.agg #[.int .i64 (rv 0).1, .int .i64 (rv 0).2.1, .int .i64 (rv 0).2.2.1, .int .i64 (rv 0).2.2.2]) w := by kernel_rfl
theorem ix1 (w : World) : (Instr.index 39 (.agg tabL.toArray) (.int .i64 1)).run Tryd.prog w = .ok (.agg #[.int .i64 (rv 1).1, .int .i64 (rv 1).2.1, .int .i64 (rv 1).2.2.1, .int .i64 (rv 1).2.2.2]) w := by kernel_rfl
theorem ix2 (w : World) : (Instr.index 39 (.agg tabL.toArray) (.int .i64 2)).run Tryd.prog w = .ok (.agg #[.int .i64 (rv 2).1, .int .i64 (rv 2).2.1, .int .i64 (rv 2).2.2.1, .int .i64 (rv 2).2.2.2]) w := by kernel_rfl
theorem ix3 (w : World) : (Instr.index 39 (.agg tabL.toArray) (.int .i64 3)).run Tryd.prog w = .ok (.agg #[.int .i64 (rv 3).1, .int .i64 (rv 3).2.1, .int .i64 (rv 3).2.2.1, .int .i64 (rv 3).2.2.2]) w := by kernel_rfl
theorem ix4 (w : World) : (Instr.index 39 (.agg tabL.toArray) (.int .i64 4)).run Tryd.prog w = .ok (.agg #[.int .i64 (rv 4).1, .int .i64 (rv 4).2.1, .int .i64 (rv 4).2.2.1, .int .i64 (rv 4).2.2.2]) w := by kernel_rfl
theorem ix5 (w : World) : (Instr.index 39 (.agg tabL.toArray) (.int .i64 5)).run Tryd.prog w = .ok (.agg #[.int .i64 (rv 5).1, .int .i64 (rv 5).2.1, .int .i64 (rv 5).2.2.1, .int .i64 (rv 5).2.2.2]) w := by kernel_rfl
theorem ix6 (w : World) : (Instr.index 39 (.agg tabL.toArray) (.int .i64 6)).run Tryd.prog w = .ok (.agg #[.int .i64 (rv 6).1, .int .i64 (rv 6).2.1, .int .i64 (rv 6).2.2.1, .int .i64 (rv 6).2.2.2]) w := by kernel_rfl
theorem ix7 (w : World) : (Instr.index 39 (.agg tabL.toArray) (.int .i64 7)).run Tryd.prog w = .ok (.agg #[.int .i64 (rv 7).1, .int .i64 (rv 7).2.1, .int .i64 (rv 7).2.2.1, .int .i64 (rv 7).2.2.2]) w := by kernel_rfl
theorem ix8 (w : World) : (Instr.index 39 (.agg tabL.toArray) (.int .i64 8)).run Tryd.prog w = .ok (.agg #[.int .i64 (rv 8).1, .int .i64 (rv 8).2.1, .int .i64 (rv 8).2.2.1, .int .i64 (rv 8).2.2.2]) w := by kernel_rfl
theorem ix9 (w : World) : (Instr.index 39 (.agg tabL.toArray) (.int .i64 9)).run Tryd.prog w = .ok (.agg #[.int .i64 (rv 9).1, .int .i64 (rv 9).2.1, .int .i64 (rv 9).2.2.1, .int .i64 (rv 9).2.2.2]) w := by kernel_rfl
theorem ix10 (w : World) : (Instr.index 39 (.agg tabL.toArray) (.int .i64 10)).run Tryd.prog w = .ok (.agg #[.int .i64 (rv 10).1, .int .i64 (rv 10).2.1, .int .i64 (rv 10).2.2.1, .int .i64 (rv 10).2.2.2]) w := by kernel_rfl
theorem ix11 (w : World) : (Instr.index 39 (.agg tabL.toArray) (.int .i64 11)).run Tryd.prog w = .ok (.agg #[.int .i64 (rv 11).1, .int .i64 (rv 11).2.1, .int .i64 (rv 11).2.2.1, .int .i64 (rv 11).2.2.2]) w := by kernel_rfl
theorem ix12 (w : World) : (Instr.index 39 (.agg tabL.toArray) (.int .i64 12)).run Tryd.prog w = .ok (.agg #[.int .i64 (rv 12).1, .int .i64 (rv 12).2.1, .int .i64 (rv 12).2.2.1, .int .i64 (rv 12).2.2.2]) w := by kernel_rfl
theorem ix13 (w : World) : (Instr.index 39 (.agg tabL.toArray) (.int .i64 13)).run Tryd.prog w = .ok (.agg #[.int .i64 (rv 13).1, .int .i64 (rv 13).2.1, .int .i64 (rv 13).2.2.1, .int .i64 (rv 13).2.2.2]) w := by kernel_rfl
theorem ix14 (w : World) : (Instr.index 39 (.agg tabL.toArray) (.int .i64 14)).run Tryd.prog w = .ok (.agg #[.int .i64 (rv 14).1, .int .i64 (rv 14).2.1, .int .i64 (rv 14).2.2.1, .int .i64 (rv 14).2.2.2]) w := by kernel_rfl
theorem ix15 (w : World) : (Instr.index 39 (.agg tabL.toArray) (.int .i64 15)).run Tryd.prog w = .ok (.agg #[.int .i64 (rv 15).1, .int .i64 (rv 15).2.1, .int .i64 (rv 15).2.2.1, .int .i64 (rv 15).2.2.2]) w := by kernel_rfl
theorem ix16 (w : World) : (Instr.index 39 (.agg tabL.toArray) (.int .i64 16)).run Tryd.prog w = .ok (.agg #[.int .i64 (rv 16).1, .int .i64 (rv 16).2.1, .int .i64 (rv 16).2.2.1, .int .i64 (rv 16).2.2.2]) w := by kernel_rfl
theorem ix17 (w : World) : (Instr.index 39 (.agg tabL.toArray) (.int .i64 17)).run Tryd.prog w = .ok (.agg #[.int .i64 (rv 17).1, .int .i64 (rv 17).2.1, .int .i64 (rv 17).2.2.1, .int .i64 (rv 17).2.2.2]) w := by kernel_rfl
theorem ix18 (w : World) : (Instr.index 39 (.agg tabL.toArray) (.int .i64 18)).run Tryd.prog w = .ok (.agg #[.int .i64 (rv 18).1, .int .i64 (rv 18).2.1, .int .i64 (rv 18).2.2.1, .int .i64 (rv 18).2.2.2]) w := by kernel_rfl
theorem ix19 (w : World) : (Instr.index 39 (.agg tabL.toArray) (.int .i64 19)).run Tryd.prog w = .ok (.agg #[.int .i64 (rv 19).1, .int .i64 (rv 19).2.1, .int .i64 (rv 19).2.2.1, .int .i64 (rv 19).2.2.2]) w := by kernel_rfl
theorem ix20 (w : World) : (Instr.index 39 (.agg tabL.toArray) (.int .i64 20)).run Tryd.prog w = .ok (.agg #[.int .i64 (rv 20).1, .int .i64 (rv 20).2.1, .int .i64 (rv 20).2.2.1, .int .i64 (rv 20).2.2.2]) w := by kernel_rfl
theorem ix21 (w : World) : (Instr.index 39 (.agg tabL.toArray) (.int .i64 21)).run Tryd.prog w = .ok (.agg #[.int .i64 (rv 21).1, .int .i64 (rv 21).2.1, .int .i64 (rv 21).2.2.1, .int .i64 (rv 21).2.2.2]) w := by kernel_rfl
theorem ix22 (w : World) : (Instr.index 39 (.agg tabL.toArray) (.int .i64 22)).run Tryd.prog w = .ok (.agg #[.int .i64 (rv 22).1, .int .i64 (rv 22).2.1, .int .i64 (rv 22).2.2.1, .int .i64 (rv 22).2.2.2]) w := by kernel_rfl
theorem ix23 (w : World) : (Instr.index 39 (.agg tabL.toArray) (.int .i64 23)).run Tryd.prog w = .ok (.agg #[.int .i64 (rv 23).1, .int .i64 (rv 23).2.1, .int .i64 (rv 23).2.2.1, .int .i64 (rv 23).2.2.2]) w := by kernel_rfl
theorem ix24 (w : World) : (Instr.index 39 (.agg tabL.toArray) (.int .i64 24)).run Tryd.prog w = .ok (.agg #[.int .i64 (rv 24).1, .int .i64 (rv 24).2.1, .int .i64 (rv 24).2.2.1, .int .i64 (rv 24).2.2.2]) w := by kernel_rfl
theorem ix25 (w : World) : (Instr.index 39 (.agg tabL.toArray) (.int .i64 25)).run Tryd.prog w = .ok (.agg #[.int .i64 (rv 25).1, .int .i64 (rv 25).2.1, .int .i64 (rv 25).2.2.1, .int .i64 (rv 25).2.2.2]) w := by kernel_rfl
theorem ix26 (w : World) : (Instr.index 39 (.agg tabL.toArray) (.int .i64 26)).run Tryd.prog w = .ok (.agg #[.int .i64 (rv 26).1, .int .i64 (rv 26).2.1, .int .i64 (rv 26).2.2.1, .int .i64 (rv 26).2.2.2]) w := by kernel_rfl
theorem ix27 (w : World) : (Instr.index 39 (.agg tabL.toArray) (.int .i64 27)).run Tryd.prog w = .ok (.agg #[.int .i64 (rv 27).1, .int .i64 (rv 27).2.1, .int .i64 (rv 27).2.2.1, .int .i64 (rv 27).2.2.2]) w := by kernel_rfl
theorem ix28 (w : World) : (Instr.index 39 (.agg tabL.toArray) (.int .i64 28)).run Tryd.prog w = .ok (.agg #[.int .i64 (rv 28).1, .int .i64 (rv 28).2.1, .int .i64 (rv 28).2.2.1, .int .i64 (rv 28).2.2.2]) w := by kernel_rfl
theorem ix29 (w : World) : (Instr.index 39 (.agg tabL.toArray) (.int .i64 29)).run Tryd.prog w = .ok (.agg #[.int .i64 (rv 29).1, .int .i64 (rv 29).2.1, .int .i64 (rv 29).2.2.1, .int .i64 (rv 29).2.2.2]) w := by kernel_rfl
theorem ix30 (w : World) : (Instr.index 39 (.agg tabL.toArray) (.int .i64 30)).run Tryd.prog w = .ok (.agg #[.int .i64 (rv 30).1, .int .i64 (rv 30).2.1, .int .i64 (rv 30).2.2.1, .int .i64 (rv 30).2.2.2]) w := by kernel_rfl
theorem ix31 (w : World) : (Instr.index 39 (.agg tabL.toArray) (.int .i64 31)).run Tryd.prog w = .ok (.agg #[.int .i64 (rv 31).1, .int .i64 (rv 31).2.1, .int .i64 (rv 31).2.2.1, .int .i64 (rv 31).2.2.2]) w := by kernel_rfl
theorem ix32 (w : World) : (Instr.index 39 (.agg tabL.toArray) (.int .i64 32)).run Tryd.prog w = .ok (.agg #[.int .i64 (rv 32).1, .int .i64 (rv 32).2.1, .int .i64 (rv 32).2.2.1, .int .i64 (rv 32).2.2.2]) w := by kernel_rfl
theorem ix33 (w : World) : (Instr.index 39 (.agg tabL.toArray) (.int .i64 33)).run Tryd.prog w = .ok (.agg #[.int .i64 (rv 33).1, .int .i64 (rv 33).2.1, .int .i64 (rv 33).2.2.1, .int .i64 (rv 33).2.2.2]) w := by kernel_rfl
theorem ix34 (w : World) : (Instr.index 39 (.agg tabL.toArray) (.int .i64 34)).run Tryd.prog w = .ok (.agg #[.int .i64 (rv 34).1, .int .i64 (rv 34).2.1, .int .i64 (rv 34).2.2.1, .int .i64 (rv 34).2.2.2]) w := by kernel_rfl
theorem ix35 (w : World) : (Instr.index 39 (.agg tabL.toArray) (.int .i64 35)).run Tryd.prog w = .ok (.agg #[.int .i64 (rv 35).1, .int .i64 (rv 35).2.1, .int .i64 (rv 35).2.2.1, .int .i64 (rv 35).2.2.2]) w := by kernel_rfl
theorem ix36 (w : World) : (Instr.index 39 (.agg tabL.toArray) (.int .i64 36)).run Tryd.prog w = .ok (.agg #[.int .i64 (rv 36).1, .int .i64 (rv 36).2.1, .int .i64 (rv 36).2.2.1, .int .i64 (rv 36).2.2.2]) w := by kernel_rfl
theorem ix37 (w : World) : (Instr.index 39 (.agg tabL.toArray) (.int .i64 37)).run Tryd.prog w = .ok (.agg #[.int .i64 (rv 37).1, .int .i64 (rv 37).2.1, .int .i64 (rv 37).2.2.1, .int .i64 (rv 37).2.2.2]) w := by kernel_rfl
theorem ix38 (w : World) : (Instr.index 39 (.agg tabL.toArray) (.int .i64 38)).run Tryd.prog w = .ok (.agg #[.int .i64 (rv 38).1, .int .i64 (rv 38).2.1, .int .i64 (rv 38).2.2.1, .int .i64 (rv 38).2.2.2]) w := by kernel_rfl
theorem ix : ∀ (k : Nat), k < 39 → ∀ w : World, (Instr.index 39 (.agg tabL.toArray) (.int .i64 (k : Int))).run Tryd.prog w = .ok (.agg #[.int .i64 (rv k).1, .int .i64 (rv k).2.1, .int .i64 (rv k).2.2.1, .int .i64 (rv k).2.2.2]) w
  | 0, _ => ix0
  | 1, _ => ix1
  | 2, _ => ix2
  | 3, _ => ix3
  | 4, _ => ix4
  | 5, _ => ix5
  | 6, _ => ix6
  | 7, _ => ix7
  | 8, _ => ix8
  | 9, _ => ix9
  | 10, _ => ix10
  | 11, _ => ix11
  | 12, _ => ix12
  | 13, _ => ix13
  | 14, _ => ix14
  | 15, _ => ix15
  | 16, _ => ix16
  | 17, _ => ix17
  | 18, _ => ix18
  | 19, _ => ix19
  | 20, _ => ix20
  | 21, _ => ix21
  | 22, _ => ix22
  | 23, _ => ix23
  | 24, _ => ix24
  | 25, _ => ix25
  | 26, _ => ix26
  | 27, _ => ix27
  | 28, _ => ix28
  | 29, _ => ix29
  | 30, _ => ix30
  | 31, _ => ix31
  | 32, _ => ix32
  | 33, _ => ix33
  | 34, _ => ix34
  | 35, _ => ix35
  | 36, _ => ix36
  | 37, _ => ix37
  | 38, _ => ix38
  | k + 39, h => absurd h (by omega)
end Go.Proofs.YtjfjkgjaibnjeaaDoor.PConnSays
