/- Proved: how the two appends of one zero turn the memory of a receive buffer. No condition. -/
import Derived.Test.YtcllcjflgeiehaaRecvMove
namespace Go.Proofs.Ytcllcjflgeiehaa.PRecvPlays
open Go.RowKit Go.Proofs.YtcllcjflgeiehaaW.PrintWords Go.Proofs.YtcllcjflgeiehaaW.PrintLast Go.Proofs.YtcllcjflgeiehaaW.PrintMore
set_option linter.unusedVariables false
set_option linter.unusedSimpArgs false
theorem exec_append {P : Program} {o : Oper} {a : Act} {w w' : World} {s x : Operand} {t : TypeId} {vs vx v' : Value} (hop : o.op = Op.call { callee := Callee.builtin Builtin.append, args := #[s, x], argTypes := #[t, t] }) (hs : a.eval s = vs) (hx : a.eval x = vx)
    (hr : (Builtin.append_ #[t, t] o.type #[vs, vx]).run P w = .ok v' w') : (execOp a.eval o).run P w = .ok (.value v') w' := by
  simp [execOp, hop, resolve, invoke, builtin, hs, hx, hr, Result.andThen]
theorem q_al {w : World} {B e n size : Nat} {v : Value} {xs : List Value} (h : QRow w B e size v n xs) (o : Obj) : QRow (w.alloc o) B e size v n xs := q_move h (fun k hk => heap_alloc_old w o (q_lt h k hk))
theorem q_set {w : World} {B e n size g o : Nat} {t : TypeId} {v u : Value} {xs : List Value} {cs : Array Value} (h : QRow w B e size v n xs) (hg : w.heap[g]? = some (.cells cs t (0, 0))) (hne : e ≠ t) : QRow (w.setCell ⟨g, o, none⟩ u) B e size v n xs :=
  q_move h (fun k hk => Below.heap_setCell w ⟨g, o, none⟩ u k (row_ne h hg hne k hk))
theorem keep_al (w : World) (o : Obj) : Keep w (w.alloc o) := Keep.below ((Below.refl _ _).alloc (Nat.le_refl _) _)
theorem grown_far {w w1 : World} {B e n size : Nat} {v : Value} {xs : List Value} (hg : w.grownBy w1 v.ownBlock) (h : QRow w B e size v n xs) (k : Nat) (cs : Array Value) (t : TypeId) (hk : w.heap[k]? = some (Obj.cells cs t (0, 0))) (ht : t ≠ e) : w1.heap[k]? = some (Obj.cells cs t (0, 0)) := by
  refine (hg.block k (blk_lt hk) (fun he => ?_)).trans hk
  obtain ⟨_, c, hc⟩ := q_typed h k he.symm
  exact blk_ne hk hc ht rfl
theorem grow5 {w0 w : World} {Ad : Option Addr} {cd z : Nat} {vr : Value} {da rd : List Int} (hd : QRow w w0.heap.size 5 1 (.slice Ad da.length cd) da.length (u8s da)) (hb : Below w0.heap.size w0 w) (hz : w.heap[z]? = some (.cells #[.int .u8 0] 5 (0, 0))) (hr : QRow w w0.heap.size 5 1 vr rd.length (u8s rd)) (hap : ∀ k, vr.ownBlock = some k → (Value.slice Ad da.length cd).ownBlock ≠ some k) (h2 : da.length ≤ 1000000) :
    ∃ A1 c1 w1, (Builtin.append_ #[69, 69] 69 #[.slice Ad da.length cd, .slice (some ⟨z, 0, none⟩) 1 1]).run Try.prog w = .ok (.slice A1 (da.length + 1) c1) w1 ∧ QRow w1 w0.heap.size 5 1 (.slice A1 (da.length + 1) c1) (da.length + 1) (u8s (da ++ [0])) ∧ QRow w1 w0.heap.size 5 1 vr rd.length (u8s rd) ∧ (∀ k, vr.ownBlock = some k → (Value.slice A1 (da.length + 1) c1).ownBlock ≠ some k) ∧ Below w0.heap.size w0 w1 ∧ Keep w w1 ∧
      ∀ (k : Nat) (cs : Array Value) (t : TypeId), w.heap[k]? = some (Obj.cells cs t (0, 0)) → t ≠ 5 → w1.heap[k]? = some (Obj.cells cs t (0, 0)) := by
  obtain ⟨v1, w1, hr1, hq1, hg1, hat1⟩ := app_any (t := 69) Try.underlying69 info5 rfl hd hb.size (A := some ⟨z, 0, none⟩) (m := 1) (c := 1) (news := [.int .u8 0]) rfl
    (fun ad ha j u hu => by injection ha with ha; subst ha; exact World.news_of_block (cs := #[.int .u8 0]) hz j u hu) (fun _ => ⟨_, rfl⟩) (fun u hu => by rw [List.mem_singleton.1 hu]; rfl) (Nat.le_refl _) (by omega)
  obtain ⟨A1, c1, rfl, _⟩ := q_slice hq1
  have e1 : u8s da ++ [.int .u8 0] = u8s (da ++ [0]) := by unfold u8s; rw [List.map_append]; rfl
  rw [e1] at hq1
  refine ⟨A1, c1, w1, hr1, hq1, q_move hr (fun j hj => hg1.block j (q_lt hr j hj) (fun he => hap j hj he.symm)), fun j hj hj2 => ?_, hb.grown hg1 hb.size (fun j hj => (q_typed hd j hj).1), Keep.grown hg1 hd (.inr rfl), fun k cs t hk ht => grown_far hg1 hd k cs t hk ht⟩
  rcases hat1 with hat | ⟨b, hb1, hle⟩
  · rw [hat] at hj2
    exact hap j hj hj2
  · rw [hb1] at hj2
    injection hj2 with hj2
    have := q_lt hr j hj
    omega
theorem grow4 {w0 w : World} {At : Option Addr} {ct z : Nat} {th : List Bool} (hd : QRow w w0.heap.size 4 1 (.slice At th.length ct) th.length (bls th)) (hb : Below w0.heap.size w0 w) (hz : w.heap[z]? = some (.cells #[.bool false] 4 (0, 0))) (h2 : th.length ≤ 1000000) :
    ∃ A1 c1 w1, (Builtin.append_ #[52, 52] 52 #[.slice At th.length ct, .slice (some ⟨z, 0, none⟩) 1 1]).run Try.prog w = .ok (.slice A1 (th.length + 1) c1) w1 ∧ QRow w1 w0.heap.size 4 1 (.slice A1 (th.length + 1) c1) (th.length + 1) (bls (th ++ [false])) ∧ Below w0.heap.size w0 w1 ∧ Keep w w1 ∧
      ∀ (k : Nat) (cs : Array Value) (t : TypeId), w.heap[k]? = some (Obj.cells cs t (0, 0)) → t ≠ 4 → w1.heap[k]? = some (Obj.cells cs t (0, 0)) := by
  obtain ⟨v1, w1, hr1, hq1, hg1, hat1⟩ := app_any (t := 52) Try.underlying52 info4 rfl hd hb.size (A := some ⟨z, 0, none⟩) (m := 1) (c := 1) (news := [.bool false]) rfl
    (fun ad ha j u hu => by injection ha with ha; subst ha; exact World.news_of_block (cs := #[.bool false]) hz j u hu) (fun _ => ⟨_, rfl⟩) (fun u hu => by rw [List.mem_singleton.1 hu]; rfl) (Nat.le_refl _) (by omega)
  obtain ⟨A1, c1, rfl, _⟩ := q_slice hq1
  have e1 : bls th ++ [.bool false] = bls (th ++ [false]) := by unfold bls; rw [List.map_append]; rfl
  rw [e1] at hq1
  exact ⟨A1, c1, w1, hr1, hq1, hb.grown hg1 hb.size (fun j hj => (q_typed hd j hj).1), Keep.grown hg1 hd (.inl rfl), fun k cs t hk ht => grown_far hg1 hd k cs t hk ht⟩
theorem q_far5 {w w1 : World} {B n size : Nat} {e : TypeId} {v : Value} {xs : List Value} (h : QRow w B e size v n xs) (he : e ≠ 5) (hf : ∀ (k : Nat) (cs : Array Value) (t : TypeId), w.heap[k]? = some (Obj.cells cs t (0, 0)) → t ≠ 5 → w1.heap[k]? = some (Obj.cells cs t (0, 0))) : QRow w1 B e size v n xs :=
  q_move h (fun k hk => by obtain ⟨_, c, hc⟩ := q_typed h k hk; rw [hc]; exact hf k c e hc he)
theorem q_far4 {w w1 : World} {B n size : Nat} {e : TypeId} {v : Value} {xs : List Value} (h : QRow w B e size v n xs) (he : e ≠ 4) (hf : ∀ (k : Nat) (cs : Array Value) (t : TypeId), w.heap[k]? = some (Obj.cells cs t (0, 0)) → t ≠ 4 → w1.heap[k]? = some (Obj.cells cs t (0, 0))) : QRow w1 B e size v n xs :=
  q_move h (fun k hk => by obtain ⟨_, c, hc⟩ := q_typed h k hk; rw [hc]; exact hf k c e hc he)
end Go.Proofs.Ytcllcjflgeiehaa.PRecvPlays
