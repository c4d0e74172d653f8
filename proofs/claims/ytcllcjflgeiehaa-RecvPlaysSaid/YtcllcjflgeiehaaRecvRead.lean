/- Proved: what the method Read returns and leaves of a receive buffer. -/
import Derived.Test.YtcllcjflgeiehaaRecvG
import Derived.BigRegion
namespace Go.Proofs.Ytcllcjflgeiehaa.PRecvPlays
open Go.RowKit Go.Proofs.YtcllcjflgeiehaaW.PrintWords Go.Proofs.YtcllcjflgeiehaaW.PrintLast Go.Proofs.YtcllcjflgeiehaaW.PrintMore
set_option linter.unusedVariables false
set_option linter.unusedSimpArgs false
theorem read_no {w : World} {g : Nat} {m : Int} (h : m < 0) : Calls Try.prog 11 #[.pointer (some ⟨g, 0, none⟩), .int .i64 m] w fun e w' => e = .returned (.tuple #[.string ⟨#[]⟩, .int .i64 1]) ∧ Below w.heap.size w w' := by
  have d1 : decide (m < 0) = true := decide_eq_true h
  clear h
  go_enter Try.func11, Try.ntmps11
  go_wp2
  go_ret2
  exact ⟨rfl, Below.refl _ _⟩
theorem wpList_append_run {P : Program} {ops : Array Oper} {rest : List Oper} {o : Oper} {a : Act} {w w' : World} {Q : Exit → Act → World → Prop} (hgd : o.guard = none) (s x : Operand) (t : TypeId)
    (ho : o.op = .call { callee := .builtin .append, args := #[s, x], argTypes := #[t, t] }) (vs vx v' : Value) (hs : a.eval s = vs) (hx : a.eval x = vx) (hr : (Builtin.append_ #[t, t] o.type #[vs, vx]).run P w = .ok v' w')
    (h : wpList P ops Q rest (a.put o.dst v') w') : wpList P ops Q (o :: rest) a w := by
  refine wpList_plain hgd fun K hK => ?_
  unfold Oper.wp execOp
  simp only [ho, resolve, invoke, builtin, Sem.run_bind, Sem.run_pure, Result.andThen_ok, List.map_toArray, List.map_cons, List.map_nil, hs, hx, hr]
  exact hK _ _ h
theorem q_C5 {w : World} {B c : Nat} {A : Option Addr} {l : List Int} (h : QRow w B 5 1 (.slice A l.length c) l.length (u8s l)) (n : Nat) (hn : n ≤ l.length) : Kd.C (Kd.int .u8) w A n (l.take n) := by
  have hl := q_max h
  refine ⟨by rw [List.length_take]; omega, by omega, fun h0 => ?_⟩
  obtain ⟨ad, rfl, hc⟩ := q_cells h (by omega)
  refine ⟨ad, rfl, fun j p hp => ⟨[.int .u8 p], rfl, rfl, fun i u hu => ?_⟩⟩
  cases i with
  | zero =>
    simp only [List.getElem?_cons_zero, Option.some.injEq] at hu
    subst hu
    rw [List.getElem?_take] at hp
    split at hp
    · have := hc j (.int .u8 p) (by unfold u8s; rw [List.getElem?_map, hp]; rfl)
      have e : j * (Kd.int .u8).sz + 0 = j := by show j * 1 + 0 = j; omega
      rw [e]
      exact this
    · cases hp
  | succ i => simp at hu
theorem read_app {w0 w : World} {g n : Nat} {nx room : Int} {vr vd vt : Value} {A5 : Option Addr} {c5 : Nat} {rd da : List Int} {th : List Bool} (h : Rows w0.heap.size w g vr vd vt rd da th) (hbox : Box w g nx room vr vd vt) (hb : Below w0.heap.size w0 w) (hq : QRow w w0.heap.size 5 1 (.slice A5 (rd.length - n) c5) (rd.length - n) ((u8s rd).drop n)) (hn : n ≤ rd.length) (h1 : rd.length ≤ 1000000) :
    ∃ A1 c1 w1, (Builtin.append_ #[69, 69] 69 #[.slice none 0 0, .slice A5 (rd.length - n) c5]).run Try.prog w = .ok (.slice A1 (rd.length - n) c1) w1 ∧ Box w1 g nx room vr vd vt ∧ Rows w0.heap.size w1 g (.slice A1 (rd.length - n) c1) vd vt (rd.drop n) da th ∧ Below w0.heap.size w0 w1 ∧ Keep w w1 := by
  have q0 : QRow w w0.heap.size 5 1 (.slice none 0 0) 0 [] := ⟨rfl, .inl ⟨rfl, none, rfl, fun a ha => by cases ha⟩⟩
  have hl : ((u8s rd).drop n).length = rd.length - n := by rw [List.length_drop, u8s_len]
  obtain ⟨A5', c5', he5, hc5⟩ := q_slice hq
  injection he5 with _ _ hcc
  subst hcc
  obtain ⟨v1, w1, hr1, hq1, hg1, hat1⟩ := app_any (t := 69) Try.underlying69 info5 rfl q0 hb.size (A := A5) (m := rd.length - n) (c := c5) (news := (u8s rd).drop n) hl
    (fun ad ha j u hu => by
      have hj := (List.getElem?_eq_some_iff.1 hu).1
      obtain ⟨ad2, ha2, hc⟩ := q_cells hq (by omega)
      rw [ha] at ha2
      injection ha2 with ha2
      subst ha2
      exact hc j u hu)
    (fun h0 => by obtain ⟨ad, ha, _⟩ := q_cells hq h0; exact ⟨ad, ha⟩) (fun u hu => u8s_one rd u (List.mem_of_mem_drop hu)) hc5 (by omega)
  obtain ⟨A1, c1, rfl, _⟩ := q_slice hq1
  rw [Nat.zero_add] at hr1 hq1 hat1
  have hkeep : ∀ k, k < w.heap.size → w1.heap[k]? = w.heap[k]? := fun k hk => hg1.block k hk (by simp [Value.ownBlock])
  have hb1 : Below w.heap.size w w1 := ⟨hg1.os, hg1.tape, hg1.output, hg1.size, hkeep⟩
  have e1 : [] ++ (u8s rd).drop n = u8s (rd.drop n) := by unfold u8s; rw [List.map_drop, List.nil_append]
  rw [e1] at hq1
  refine ⟨A1, c1, w1, hr1, blk_below hbox hb1, ⟨by rw [List.length_drop]; exact hq1, q_move h.d (fun k hk => hkeep k (q_lt h.d k hk)), q_move h.t (fun k hk => hkeep k (q_lt h.t k hk)), fun j hj hj2 => ?_⟩, hb.trans (hb1.mono hb.size), Keep.below hb1⟩
  rcases hat1 with hat | ⟨b, hb2, hle⟩
  · rw [hat] at hj; simp [Value.ownBlock] at hj
  · rw [hb2] at hj
    injection hj with hj
    have := q_lt h.d j hj2
    omega
def ReadPost (w0 w : World) (g : Nat) (nx room : Int) (rd da : List Int) (th : List Bool) (n : Nat) (e : Ending) (w' : World) : Prop :=
  e = .returned (.tuple #[.string (strOfNums (rd.take n)), .int .i64 0]) ∧ Buf w0.heap.size w' g nx room (rd.drop n) da th ∧ Below w0.heap.size w0 w' ∧ Keep w w'
theorem read_done {w0 w w1 : World} {g n : Nat} {nx room : Int} {vr v1 vd vt : Value} {rd da : List Int} {th : List Bool} (hbox : Box w1 g nx room vr vd vt) (hr : Rows w0.heap.size w1 g v1 vd vt (rd.drop n) da th) (hb : Below w0.heap.size w0 w1) (hk : Keep w w1) (hg : w0.heap.size ≤ g) : ReadPost w0 w g nx room rd da th n (.returned (.tuple #[.string (strOfNums (rd.take n)), .int .i64 0])) (w1.setCell ⟨g, 2, none⟩ v1) :=
  ⟨rfl, ⟨v1, vd, vt, box_set2 hbox v1, hg, hr.set (o := 2) (v := v1) hbox⟩, hb.setCell (p := ⟨g, 2, none⟩) hg v1, hk.trans (Keep.set (o := 2) (v := v1) hbox (.inr (.inr rfl)))⟩
set_option maxHeartbeats 4000000 in
set_option maxRecDepth 100000 in
theorem read_yes {w0 w : World} {g n : Nat} {nx room m : Int} {rd da : List Int} {th : List Bool} (h : Buf w0.heap.size w g nx room rd da th) (hb : Below w0.heap.size w0 w) (h1 : rd.length ≤ 1000000) (hn : n ≤ rd.length) (hmn : m = (n : Int) ∨ ((rd.length : Int) < m ∧ n = rd.length)) :
    Calls Try.prog 11 #[.pointer (some ⟨g, 0, none⟩), .int .i64 m] w (ReadPost w0 w g nx room rd da th n) := by
  obtain ⟨Ar, cr, Ad, cd, At, ct, hbox, hg, hr, hrc, hdc, htc⟩ := h.open
  have HR := Aside0.mk hr
  have HB := Aside0.mk hb
  have HG := Aside0.mk hg
  have HBOX := Aside0.mk hbox
  clear hr h hb hg
  have d1 : decide (m < 0) = false := decide_eq_false (by omega)
  have c2 := blk_cell hbox 2
  clear hbox
  have hnc : n ≤ cr := by omega
  rcases hmn with hmn | ⟨hmn, hnl⟩
  · subst hmn
    have d2 : decide ((rd.length : Int) < (n : Int)) = false := decide_eq_false (by omega)
    go_enter Try.func11, Try.ntmps11
    have hconv := Kd.C_string (P := Try.prog) (src := 69) (dst := 9) (c := cr) Try.underlying69 Try.underlying5 Try.underlying9 (q_C5 HR.out.r n hn)
    obtain ⟨A5, c5, hcut5, hq5, _⟩ := cut5 HR.out.r hn
    have HQ5 := Aside0.mk hq5
    clear hq5
    obtain ⟨A1, c1, w1, hr1, hbox1, hrow1, hb1, hk1⟩ := read_app HR.out HBOX.out HB.out HQ5.out hn h1
    have HBOX1 := Aside0.mk hbox1
    have HR1 := Aside0.mk hrow1
    have HB1 := Aside0.mk hb1
    have HK1 := Aside0.mk hk1
    have d2 := blk_cell hbox1 2
    have f2 := blk_frozen hbox1 2
    clear hbox1 hrow1 hb1 hk1
    go_wp2_with (at_builtin; refine wpList_append_run rfl (.const (.slice none 0 0)) (.tmp 30) 69 rfl _ _ _ rfl rfl hr1 ?_)
    go_ret2
    exact read_done HBOX1.out HR1.out HB1.out HK1.out HG.out
  · have d2 : decide ((rd.length : Int) < m) = true := decide_eq_true hmn
    have HNL := Aside0.mk hnl
    clear hnl
    go_enter Try.func11, Try.ntmps11
    go_upto_region 4 with (fail)
    rw [← HNL.out]
    have hconv := Kd.C_string (P := Try.prog) (src := 69) (dst := 9) (c := cr) Try.underlying69 Try.underlying5 Try.underlying9 (q_C5 HR.out.r n hn)
    obtain ⟨A5, c5, hcut5, hq5, _⟩ := cut5 HR.out.r hn
    have HQ5 := Aside0.mk hq5
    clear hq5
    obtain ⟨A1, c1, w1, hr1, hbox1, hrow1, hb1, hk1⟩ := read_app HR.out HBOX.out HB.out HQ5.out hn h1
    have HBOX1 := Aside0.mk hbox1
    have HR1 := Aside0.mk hrow1
    have HB1 := Aside0.mk hb1
    have HK1 := Aside0.mk hk1
    have d2 := blk_cell hbox1 2
    have f2 := blk_frozen hbox1 2
    clear hbox1 hrow1 hb1 hk1
    go_wp2_with (at_builtin; refine wpList_append_run rfl (.const (.slice none 0 0)) (.tmp 30) 69 rfl _ _ _ rfl rfl hr1 ?_)
    go_ret2
    exact read_done HBOX1.out HR1.out HB1.out HK1.out HG.out
end Go.Proofs.Ytcllcjflgeiehaa.PRecvPlays
