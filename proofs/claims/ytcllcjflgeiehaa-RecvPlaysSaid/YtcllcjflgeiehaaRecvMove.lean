/- Proved: what the method move does to a receive buffer: it makes the bytes readable that follow without a gap. -/
import Derived.Test.YtcllcjflgeiehaaRecvM
import Derived.Deep.RegionLaw
import Derived.BigRegion
namespace Go.Proofs.Ytcllcjflgeiehaa.PRecvPlays
open Go.RowKit Go.Proofs.YtcllcjflgeiehaaW.PrintWords Go.Proofs.YtcllcjflgeiehaaW.PrintLast Go.Proofs.YtcllcjflgeiehaaW.PrintMore
set_option linter.unusedVariables false
set_option linter.unusedSimpArgs false
def lead : List Bool → Nat
  | true :: r => lead r + 1
  | _ => 0
theorem lead_drop (th : List Bool) (k : Nat) (h : k < th.length) : lead (th.drop k) = if th.getD k false = true then lead (th.drop (k + 1)) + 1 else 0 := by
  rw [List.drop_eq_getElem_cons h]
  have e : th.getD k false = th[k] := by simp [List.getD, h]
  rw [e]
  cases th[k] <;> rfl
theorem lead_end (th : List Bool) (k : Nat) (h : th.length ≤ k) : lead (th.drop k) = 0 := by rw [List.drop_eq_nil_of_le h]; rfl
theorem lead_le : ∀ th : List Bool, lead th ≤ th.length
  | [] => Nat.le_refl _
  | true :: r => by have := lead_le r; simp only [lead, List.length_cons]; omega
  | false :: r => by simp [lead]
/-- Blocks of other types than the buffer's stay. -/
def Keep (w w' : World) : Prop := w.heap.size ≤ w'.heap.size ∧ ∀ (k : Nat) (cs : Array Value) (t : TypeId), w.heap[k]? = some (Obj.cells cs t (0, 0)) → t ≠ 4 → t ≠ 5 → t ≠ 71 → w'.heap[k]? = some (Obj.cells cs t (0, 0))
theorem Keep.refl (w : World) : Keep w w := ⟨Nat.le_refl _, fun _ _ _ h _ _ _ => h⟩
theorem Keep.trans {a b c : World} (h : Keep a b) (h2 : Keep b c) : Keep a c := ⟨Nat.le_trans h.1 h2.1, fun k cs t hk h4 h5 h7 => h2.2 k cs t (h.2 k cs t hk h4 h5 h7) h4 h5 h7⟩
theorem Keep.below {w w1 : World} (h : Below w.heap.size w w1) : Keep w w1 := ⟨h.size, fun k cs t hk _ _ _ => (h.block k (blk_lt hk)).trans hk⟩
theorem Keep.set {w : World} {g o : Nat} {v : Value} {cs : Array Value} {t : TypeId} (hg : w.heap[g]? = some (.cells cs t (0, 0))) (ht : t = 4 ∨ t = 5 ∨ t = 71) : Keep w (w.setCell ⟨g, o, none⟩ v) :=
  ⟨by simp, fun k cs' t' hk h4 h5 h7 => by
    refine (Below.heap_setCell w ⟨g, o, none⟩ v k ?_).trans hk
    intro e
    have e2 : k = g := e
    rw [← e2, hk] at hg
    injection hg with hg1
    injection hg1 with _ ht2 _
    subst ht2
    rcases ht with h | h | h
    · exact h4 h
    · exact h5 h
    · exact h7 h⟩
theorem Keep.grown {w w1 : World} {v : Value} {B n size : Nat} {e : TypeId} {xs : List Value} (hg : w.grownBy w1 v.ownBlock) (h : QRow w B e size v n xs) (ht : e = 4 ∨ e = 5) : Keep w w1 :=
  ⟨hg.size, fun k cs t hk h4 h5 h7 => by
    refine (hg.block k (blk_lt hk) ?_).trans hk
    intro he
    obtain ⟨_, cells, hc⟩ := q_typed h k he.symm
    rw [hk] at hc
    injection hc with hc1
    injection hc1 with _ ht2 _
    subst ht2
    rcases ht with h | h
    · exact h4 h
    · exact h5 h⟩
theorem step_append_run {P : Program} {ops : Array Oper} {o : Oper} {a : Act} {w w' : World} {K : Act → World → Prop} {Q : Exit → Act → World → Prop} {E : Prop} (hg : o.guard = none) (s x : Operand) (t : TypeId)
    (hop : o.op = Op.call { callee := Callee.builtin Builtin.append, args := #[s, x], argTypes := #[t, t] }) (vs vx v' : Value) (hs : a.eval s = vs) (hx : a.eval x = vx) (hr : (Builtin.append_ #[t, t] o.type #[vs, vx]).run P w = .ok v' w') (hK : K (a.put o.dst v') w') :
    if Region.wanted o (yielded ops a.tmps) = true then Oper.wp P o a w K Q else E := by
  have hw : Region.wanted o (yielded ops a.tmps) = true := by simp [Region.wanted, hg]
  rw [if_pos hw]
  unfold Oper.wp
  simp [execOp, hop, resolve, invoke, builtin, hs, hx, hr, Result.andThen]
  exact hK
theorem box_set0 {w : World} {g : Nat} {nx room : Int} {vr vd vt : Value} (h : Box w g nx room vr vd vt) (n : Int) : Box (w.setCell ⟨g, 0, none⟩ (.int .u32 n)) g n room vr vd vt := by
  unfold Box at h ⊢
  rw [blk_set h]
  rfl
theorem box_set2 {w : World} {g : Nat} {nx room : Int} {vr vd vt : Value} (h : Box w g nx room vr vd vt) (v : Value) : Box (w.setCell ⟨g, 2, none⟩ v) g nx room v vd vt := by
  unfold Box at h ⊢
  rw [blk_set h]
  rfl
theorem box_set3 {w : World} {g : Nat} {nx room : Int} {vr vd vt : Value} (h : Box w g nx room vr vd vt) (v : Value) : Box (w.setCell ⟨g, 3, none⟩ v) g nx room vr v vt := by
  unfold Box at h ⊢
  rw [blk_set h]
  rfl
theorem box_set4 {w : World} {g : Nat} {nx room : Int} {vr vd vt : Value} (h : Box w g nx room vr vd vt) (v : Value) : Box (w.setCell ⟨g, 4, none⟩ v) g nx room vr vd v := by
  unfold Box at h ⊢
  rw [blk_set h]
  rfl
theorem Rows.set {B : Nat} {w : World} {g o : Nat} {vr vd vt v : Value} {rd da : List Int} {th : List Bool} (h : Rows B w g vr vd vt rd da th) {cs : Array Value} (hg : w.heap[g]? = some (.cells cs 71 (0, 0))) : Rows B (w.setCell ⟨g, o, none⟩ v) g vr vd vt rd da th :=
  h.move (fun k _ hk => Below.heap_setCell w ⟨g, o, none⟩ v k hk) hg
theorem move_app {w0 w : World} {g : Nat} {nx room : Int} {Ar Ad : Option Addr} {cr cd : Nat} {vt : Value} {rd da : List Int} {th : List Bool} (h : Rows w0.heap.size w g (.slice Ar rd.length cr) (.slice Ad da.length cd) vt rd da th) (hbox : Box w g nx room (.slice Ar rd.length cr) (.slice Ad da.length cd) vt) (hb : Below w0.heap.size w0 w) (k : Nat) (hk : k ≤ da.length) (hdc : da.length ≤ cd) (h1 : rd.length ≤ 1000000) (h2 : da.length ≤ 1000000) :
    ∃ A1 c1 w1, (Builtin.append_ #[69, 69] 69 #[.slice Ar rd.length cr, .slice Ad k cd]).run Try.prog w = .ok (.slice A1 (rd.length + k) c1) w1 ∧ Box w1 g nx room (.slice Ar rd.length cr) (.slice Ad da.length cd) vt ∧ Rows w0.heap.size w1 g (.slice A1 (rd.length + k) c1) (.slice Ad da.length cd) vt (rd ++ da.take k) da th ∧ Below w0.heap.size w0 w1 ∧ Keep w w1 := by
  have hcell : 0 < da.length → ∃ ad, Ad = some ad ∧ ∀ (j : Nat) (u : Value), (u8s da)[j]? = some u → w.cell? (ad.add j) = some u := fun h0 => q_cells h.d h0
  have htk : (u8s (da.take k)).length = k := by rw [u8s_len, List.length_take]; omega
  have hsub : ∀ (j : Nat) (u : Value), (u8s (da.take k))[j]? = some u → (u8s da)[j]? = some u := by
    intro j u hu
    unfold u8s at hu ⊢
    rw [List.map_take, List.getElem?_take] at hu
    split at hu
    · exact hu
    · cases hu
  obtain ⟨v1, w1, hr1, hq1, hg1, hat1⟩ := app_any (t := 69) Try.underlying69 info5 rfl h.r hb.size (A := Ad) (m := k) (c := cd) (news := u8s (da.take k)) htk
    (fun ad ha j u hu => by
      have hj := (List.getElem?_eq_some_iff.1 hu).1
      obtain ⟨ad2, ha2, hc⟩ := hcell (by omega)
      rw [ha] at ha2
      injection ha2 with ha2
      subst ha2
      exact hc j u (hsub j u hu))
    (fun h0 => by obtain ⟨ad, ha, _⟩ := hcell (by omega); exact ⟨ad, ha⟩) (u8s_one _) (by omega) (by omega)
  obtain ⟨A1, c1, rfl, _⟩ := q_slice hq1
  have hbg : Box w1 g nx room (.slice Ar rd.length cr) (.slice Ad da.length cd) vt := blk_grown hbox hg1 (fun he => row_ne h.r hbox (by decide) g he.symm rfl)
  have e1 : u8s rd ++ u8s (da.take k) = u8s (rd ++ da.take k) := by unfold u8s; rw [List.map_append]
  have e2 : rd.length + k = (rd ++ da.take k).length := by rw [List.length_append, List.length_take]; omega
  have hd1 : QRow w1 w0.heap.size 5 1 (.slice Ad da.length cd) da.length (u8s da) := q_move h.d (fun j hj => hg1.block j (q_lt h.d j hj) (fun he => h.ap j he.symm hj))
  have ht1 : QRow w1 w0.heap.size 4 1 vt th.length (bls th) := q_move h.t (fun j hj => hg1.block j (q_lt h.t j hj) (fun he => by
    obtain ⟨_, c5, hc5⟩ := q_typed h.r j he.symm
    exact row_ne h.t hc5 (by decide) j hj rfl))
  refine ⟨A1, c1, w1, hr1, hbg, ⟨?_, hd1, ht1, fun j hj hj2 => ?_⟩, hb.grown hg1 hb.size (fun j hj => (q_typed h.r j hj).1), Keep.grown hg1 h.r (.inr rfl)⟩
  · rw [← e2, ← e1]; exact hq1
  · rcases hat1 with hat | ⟨b, hb1, hle⟩
    · rw [hat] at hj
      exact h.ap j hj hj2
    · rw [hb1] at hj
      injection hj with hj
      have := q_lt h.d j hj2
      omega
theorem cut5 {w : World} {B : Nat} {v : Value} {n k : Nat} {xs : List Value} (h : QRow w B 5 1 v n xs) (hk : k ≤ n) : ∃ A' c', (∀ W : World, (Instr.slice 69 v (some (.int .i64 (k : Int))) none none).run Try.prog W = .ok (.slice A' (n - k) c') W) ∧ QRow w B 5 1 (.slice A' (n - k) c') (n - k) (xs.drop k) ∧ ((Value.slice A' (n - k) c').ownBlock = v.ownBlock ∨ (Value.slice A' (n - k) c').ownBlock = none) := by
  obtain ⟨A, c, rfl, hnc⟩ := q_slice h
  obtain ⟨i0, hi, hz⟩ := Option.map_eq_some_iff.1 info5
  simp only [Prod.mk.injEq] at hz
  have hrun := cut_from (P := Try.prog) 69 5 .i64 Try.underlying69 hi 1 hz.2.1 A n c (k : Int) (by omega) (by omega)
  have hq := q_drop h hk
  rw [Int.toNat_natCast] at hrun
  rw [Nat.mul_one] at hrun hq
  refine ⟨_, _, hrun, hq, ?_⟩
  cases A with
  | none => exact .inr (by split <;> rfl)
  | some ad => exact .inl (by split <;> simp [Value.ownBlock, add_block])
theorem Rows.drew {B : Nat} {w : World} {g : Nat} {vr vd vt : Value} {rd da : List Int} {th : List Bool} (h : Rows B w g vr vd vt rd da th) : Rows B w.drew g vr vd vt rd da th := ⟨q_move h.r (fun _ _ => rfl), q_move h.d (fun _ _ => rfl), q_move h.t (fun _ _ => rfl), h.ap⟩
theorem Rows.drewN {B : Nat} {w : World} {g : Nat} {vr vd vt : Value} {rd da : List Int} {th : List Bool} (h : Rows B w g vr vd vt rd da th) (n : Nat) : Rows B (w.drewN n) g vr vd vt rd da th := ⟨q_move h.r (fun _ _ => rfl), q_move h.d (fun _ _ => rfl), q_move h.t (fun _ _ => rfl), h.ap⟩
theorem move_rows {B : Nat} {w : World} {g k : Nat} {nx room : Int} {vr vd vt v3 v4 : Value} {rd da : List Int} {th : List Bool} (hbox : Box w g nx room vr vd vt) (h : Rows B w g vr vd vt rd da th) (h3 : QRow w B 5 1 v3 (da.length - k) ((u8s da).drop k)) (h4 : QRow w B 4 1 v4 (th.length - k) ((bls th).drop k)) (ho : v3.ownBlock = vd.ownBlock ∨ v3.ownBlock = none) :
    Rows B ((w.setCell ⟨g, 3, none⟩ v3).setCell ⟨g, 4, none⟩ v4).drew g vr v3 v4 rd (da.drop k) (th.drop k) := by
  have e3 : (u8s da).drop k = u8s (da.drop k) := by unfold u8s; rw [List.map_drop]
  have e4 : (bls th).drop k = bls (th.drop k) := by unfold bls; rw [List.map_drop]
  rw [e3, show da.length - k = (da.drop k).length from by rw [List.length_drop]] at h3
  rw [e4, show th.length - k = (th.drop k).length from by rw [List.length_drop]] at h4
  have hR : Rows B w g vr v3 v4 rd (da.drop k) (th.drop k) := ⟨h.r, h3, h4, fun j hj hj2 => by
    rcases ho with ho | ho
    · rw [ho] at hj2; exact h.ap j hj hj2
    · rw [ho] at hj2; cases hj2⟩
  exact ((hR.set (o := 3) (v := v3) hbox).set (o := 4) (v := v4) (box_set3 hbox v3)).drew
theorem cut4 {w : World} {B : Nat} {v : Value} {n k : Nat} {xs : List Value} (h : QRow w B 4 1 v n xs) (hk : k ≤ n) : ∃ A' c', (∀ W : World, (Instr.slice 52 v (some (.int .i64 (k : Int))) none none).run Try.prog W = .ok (.slice A' (n - k) c') W) ∧ QRow w B 4 1 (.slice A' (n - k) c') (n - k) (xs.drop k) := by
  obtain ⟨A, c, rfl, hnc⟩ := q_slice h
  obtain ⟨i0, hi, hz⟩ := Option.map_eq_some_iff.1 info4
  simp only [Prod.mk.injEq] at hz
  have hrun := cut_from (P := Try.prog) 52 4 .i64 Try.underlying52 hi 1 hz.2.1 A n c (k : Int) (by omega) (by omega)
  have hq := q_drop h hk
  rw [Int.toNat_natCast] at hrun
  rw [Nat.mul_one] at hrun hq
  exact ⟨_, _, hrun, hq⟩
def MoveRel (th : List Bool) (v : Value) : Prop := ∃ k : Nat, k ≤ th.length ∧ v = .int .i64 k ∧ lead th = k + lead (th.drop k)
def MovePost (w0 w : World) (g : Nat) (nx room : Int) (rd da : List Int) (th : List Bool) (e : Ending) (w' : World) : Prop :=
  e = .returned (.tuple #[]) ∧ Buf w0.heap.size w' g ((nx + lead th) % 4294967296) room (rd ++ da.take (lead th)) (da.drop (lead th)) (th.drop (lead th)) ∧ Below w0.heap.size w0 w' ∧ Keep w w'
theorem move_done {w0 w w5 : World} {g k : Nat} {nx room : Int} {vr vd vt : Value} {rd da : List Int} {th : List Bool} (hbox : Box w5 g nx room vr vd vt) (hr : Rows w0.heap.size w5 g vr vd vt (rd ++ da.take k) (da.drop k) (th.drop k)) (hb : Below w0.heap.size w0 w5) (hk : Keep w w5) (hg : w0.heap.size ≤ g) (hkl : k = lead th) (nd : Nat) :
    MovePost w0 w g nx room rd da th (.returned (.tuple #[])) ((w5.drewN nd).setCell ⟨g, 0, none⟩ (.int .u32 ((nx + (k : Int)) % 4294967296))) := by
  have hb5 : Box (w5.drewN nd) g nx room vr vd vt := hbox
  refine ⟨rfl, ⟨vr, vd, vt, ?_, hg, ?_⟩, (pw_below_drewN hb nd).setCell (p := ⟨g, 0, none⟩) hg _, hk.trans (Keep.trans (b := w5.drewN nd) ⟨Nat.le_refl _, fun _ _ _ h _ _ _ => h⟩ (Keep.set (o := 0) hb5 (.inr (.inr rfl))))⟩
  · rw [← hkl]; exact box_set0 hb5 _
  · rw [← hkl]; exact (hr.drewN nd).set (o := 0) hb5
set_option maxHeartbeats 4000000 in
set_option maxRecDepth 100000 in
theorem move_calls {w0 w : World} {g : Nat} {nx room : Int} {rd da : List Int} {th : List Bool} (h : Buf w0.heap.size w g nx room rd da th) (hb : Below w0.heap.size w0 w) (hl : da.length = th.length) (h1 : rd.length ≤ 1000000) (h2 : da.length ≤ 1000000) (hn : 0 ≤ nx ∧ nx < 4294967296) :
    Calls Try.prog 34 #[.pointer (some ⟨g, 0, none⟩)] w (MovePost w0 w g nx room rd da th) := by
  obtain ⟨Ar, cr, Ad, cd, At, ct, hbox, hg, hr, hrc, hdc, htc⟩ := h.open
  have HR := Aside0.mk hr
  have HB := Aside0.mk hb
  have HG := Aside0.mk hg
  have HBOX := Aside0.mk hbox
  have HLL := Aside0.mk hl
  have hth : th.length ≤ 1000000 := by omega
  clear hr h hb hg hl
  have c2 := blk_cell hbox 2
  have c3 := blk_cell hbox 3
  have c4 := blk_cell hbox 4
  clear hbox
  go_enter Try.func34, Try.ntmps34
  go_wp2
  go_loop [2] (fun v => MoveRel th v) (fun v => th.length - (intOf v).toNat)
  case atStart => exact ⟨0, Nat.zero_le _, rfl, by rw [List.drop_zero, Nat.zero_add]⟩
  case round =>
    obtain ⟨k, hk, rfl, hld⟩ := hrel
    have HLD := Aside0.mk hld
    clear hld
    by_cases hlt : k < th.length
    · obtain ⟨ad, hA, hcell⟩ := q_cells HR.out.t (by omega)
      subst hA
      have ck := hcell k (.bool (th.getD k false)) (bls_at th k hlt)
      obtain ⟨gt, ot, rfl⟩ : ∃ gt ot, ad = ⟨gt, ot, none⟩ := by
        rcases HR.out.t.2 with ⟨h0, _⟩ | ⟨g2, off, cap, cur, he, _⟩
        · omega
        · injection he with he; injection he with he; exact ⟨g2, off * 1, he⟩
      rw [add_at] at ck
      obtain ⟨b, hbv⟩ : ∃ b, th.getD k false = b := ⟨_, rfl⟩
      rw [hbv] at ck
      have HBV := Aside0.mk hbv
      clear hbv hcell
      cases b
      · go_wp2
        have HKL := Aside0.mk (show k = lead th from by have h3 := HLD.out; rw [lead_drop th k hlt, HBV.out, if_neg (by decide)] at h3; omega)
        have hkd : k ≤ da.length := by have := HLL.out; omega
        obtain ⟨A1, c1, w1, hr1, hbox1, hrow1, hb1, hk1⟩ := move_app (w := w.drew) ⟨q_move HR.out.r (fun _ _ => rfl), q_move HR.out.d (fun _ _ => rfl), q_move HR.out.t (fun _ _ => rfl), HR.out.ap⟩ HBOX.out (below_drew HB.out) k hkd hdc h1 h2
        have HBOX1 := Aside0.mk hbox1
        have HR1 := Aside0.mk hrow1
        have HB1 := Aside0.mk hb1
        have HK1 := Aside0.mk hk1
        have d2 := blk_cell hbox1 2
        have f2 := blk_frozen hbox1 2
        clear hbox1 hrow1 hb1 hk1
        have hkc : k ≤ cd := by omega
        go_region_law (refine step_append_run rfl (.tmp 25) (.tmp 31) 69 rfl _ _ _ (by simp [Act.eval, Act.put]) (by simp [Act.eval, Act.put]) hr1 ?_)
        all_goals
          have HBX2 := Aside0.mk (box_set2 HBOX1.out (.slice A1 (rd.length + k) c1))
          have HR2 := Aside0.mk (HR1.out.set (o := 2) (v := .slice A1 (rd.length + k) c1) HBOX1.out)
          have HB2 := Aside0.mk (HB1.out.setCell (p := ⟨g, 2, none⟩) HG.out (.slice A1 (rd.length + k) c1))
          have HK2 := Aside0.mk (HK1.out.trans (Keep.set (o := 2) (v := .slice A1 (rd.length + k) c1) HBOX1.out (.inr (.inr rfl))))
          clear d2 f2 hr1
          generalize World.setCell w1 ⟨g, 2, none⟩ (.slice A1 (rd.length + k) c1) = w2 at HBX2 HR2 HB2 HK2 ⊢
          obtain ⟨A3, c3_, hcut3, hq3, hown3⟩ := cut5 HR2.out.d hkd
          obtain ⟨A4, c4_, hcut4, hq4⟩ := cut4 HR2.out.t hk
          have HQ3 := Aside0.mk hq3
          have HQ4 := Aside0.mk hq4
          have HO3 := Aside0.mk hown3
          clear hq3 hq4 hown3
          clear c2 c3 c4
          have e3 := blk_cell HBX2.out 3
          have e4 := blk_cell HBX2.out 4
          have g3 := blk_frozen HBX2.out 3
          have g4 := blk_frozen HBX2.out 4
          go_wp2
          go_region
          all_goals
            (try simp only [Act.put, List.setIfInBounds_toArray, List.set_cons_zero, List.set_cons_succ])
            have hq_ : ∃ w5, ((w2.setCell ⟨g, 3, none⟩ (.slice A3 (da.length - k) c3_)).setCell ⟨g, 4, none⟩ (.slice A4 (th.length - k) c4_)).drew = w5 := ⟨_, rfl⟩
            obtain ⟨w5, hw5⟩ := hq_
            have HBX5 := Aside0.mk (show Box w5 g nx room (.slice A1 (rd.length + k) c1) (.slice A3 (da.length - k) c3_) (.slice A4 (th.length - k) c4_) from by rw [← hw5]; exact box_set4 (box_set3 HBX2.out _) _)
            have HR5 := Aside0.mk (show Rows w0.heap.size w5 g (.slice A1 (rd.length + k) c1) (.slice A3 (da.length - k) c3_) (.slice A4 (th.length - k) c4_) (rd ++ da.take k) (da.drop k) (th.drop k) from by rw [← hw5]; exact move_rows HBX2.out HR2.out HQ3.out HQ4.out HO3.out)
            have HB5 := Aside0.mk (show Below w0.heap.size w0 w5 from by rw [← hw5]; exact below_drew ((HB2.out.setCell (p := ⟨g, 3, none⟩) HG.out _).setCell (p := ⟨g, 4, none⟩) HG.out _))
            have HK5 := Aside0.mk (show Keep w w5 from by rw [← hw5]; exact (HK2.out.trans (Keep.set (o := 3) HBX2.out (.inr (.inr rfl)))).trans (Keep.set (o := 4) (box_set3 HBX2.out _) (.inr (.inr rfl))))
            (try rw [hw5])
            clear hw5 e3 e4 g3 g4
            have e0 := blk_cell HBX5.out 0
            have g0 := blk_frozen HBX5.out 0
            have HAD := Aside0.mk (show seq_Add.f nx (k : Int) = some ((nx + (k : Int)) % 4294967296) from by unfold seq_Add.f; rw [Int.emod_eq_of_lt (a := (k : Int)) (by omega) (by omega)])
            go_wp2_with (go_at_call 36; (with_reducible refine (seq_Add.calls nx (k : Int) _ _ HAD.out).mono ?_); rintro e' w6 ⟨rfl, hd6⟩; obtain ⟨nd6, rfl⟩ := hd6.out; clear hd6)
            go_end0
            exact move_done HBX5.out HR5.out HB5.out HK5.out HG.out HKL.out nd6
      · go_wp2
        go_round
        case rel => exact ⟨k + 1, by omega, by go_num, by have h3 := HLD.out; rw [lead_drop th k hlt, HBV.out, if_pos rfl] at h3; omega⟩
        case measure => simp [intOf]; omega
    · go_wp2
      have HKL := Aside0.mk (show k = lead th from by have h3 := HLD.out; rw [lead_end th k (by omega)] at h3; omega)
      have hkd : k ≤ da.length := by have := HLL.out; omega
      obtain ⟨A1, c1, w1, hr1, hbox1, hrow1, hb1, hk1⟩ := move_app (w := w.drew) ⟨q_move HR.out.r (fun _ _ => rfl), q_move HR.out.d (fun _ _ => rfl), q_move HR.out.t (fun _ _ => rfl), HR.out.ap⟩ HBOX.out (below_drew HB.out) k hkd hdc h1 h2
      have HBOX1 := Aside0.mk hbox1
      have HR1 := Aside0.mk hrow1
      have HB1 := Aside0.mk hb1
      have HK1 := Aside0.mk hk1
      have d2 := blk_cell hbox1 2
      have f2 := blk_frozen hbox1 2
      clear hbox1 hrow1 hb1 hk1
      have hkc : k ≤ cd := by omega
      go_region_law (refine step_append_run rfl (.tmp 25) (.tmp 31) 69 rfl _ _ _ (by simp [Act.eval, Act.put]) (by simp [Act.eval, Act.put]) hr1 ?_)
      all_goals
        have HBX2 := Aside0.mk (box_set2 HBOX1.out (.slice A1 (rd.length + k) c1))
        have HR2 := Aside0.mk (HR1.out.set (o := 2) (v := .slice A1 (rd.length + k) c1) HBOX1.out)
        have HB2 := Aside0.mk (HB1.out.setCell (p := ⟨g, 2, none⟩) HG.out (.slice A1 (rd.length + k) c1))
        have HK2 := Aside0.mk (HK1.out.trans (Keep.set (o := 2) (v := .slice A1 (rd.length + k) c1) HBOX1.out (.inr (.inr rfl))))
        clear d2 f2 hr1
        generalize World.setCell w1 ⟨g, 2, none⟩ (.slice A1 (rd.length + k) c1) = w2 at HBX2 HR2 HB2 HK2 ⊢
        obtain ⟨A3, c3_, hcut3, hq3, hown3⟩ := cut5 HR2.out.d hkd
        obtain ⟨A4, c4_, hcut4, hq4⟩ := cut4 HR2.out.t hk
        have HQ3 := Aside0.mk hq3
        have HQ4 := Aside0.mk hq4
        have HO3 := Aside0.mk hown3
        clear hq3 hq4 hown3
        clear c2 c3 c4
        have e3 := blk_cell HBX2.out 3
        have e4 := blk_cell HBX2.out 4
        have g3 := blk_frozen HBX2.out 3
        have g4 := blk_frozen HBX2.out 4
        go_wp2
        go_region
        all_goals
          (try simp only [Act.put, List.setIfInBounds_toArray, List.set_cons_zero, List.set_cons_succ])
          have hq_ : ∃ w5, ((w2.setCell ⟨g, 3, none⟩ (.slice A3 (da.length - k) c3_)).setCell ⟨g, 4, none⟩ (.slice A4 (th.length - k) c4_)).drew = w5 := ⟨_, rfl⟩
          obtain ⟨w5, hw5⟩ := hq_
          have HBX5 := Aside0.mk (show Box w5 g nx room (.slice A1 (rd.length + k) c1) (.slice A3 (da.length - k) c3_) (.slice A4 (th.length - k) c4_) from by rw [← hw5]; exact box_set4 (box_set3 HBX2.out _) _)
          have HR5 := Aside0.mk (show Rows w0.heap.size w5 g (.slice A1 (rd.length + k) c1) (.slice A3 (da.length - k) c3_) (.slice A4 (th.length - k) c4_) (rd ++ da.take k) (da.drop k) (th.drop k) from by rw [← hw5]; exact move_rows HBX2.out HR2.out HQ3.out HQ4.out HO3.out)
          have HB5 := Aside0.mk (show Below w0.heap.size w0 w5 from by rw [← hw5]; exact below_drew ((HB2.out.setCell (p := ⟨g, 3, none⟩) HG.out _).setCell (p := ⟨g, 4, none⟩) HG.out _))
          have HK5 := Aside0.mk (show Keep w w5 from by rw [← hw5]; exact (HK2.out.trans (Keep.set (o := 3) HBX2.out (.inr (.inr rfl)))).trans (Keep.set (o := 4) (box_set3 HBX2.out _) (.inr (.inr rfl))))
          (try rw [hw5])
          clear hw5 e3 e4 g3 g4
          have e0 := blk_cell HBX5.out 0
          have g0 := blk_frozen HBX5.out 0
          have HAD := Aside0.mk (show seq_Add.f nx (k : Int) = some ((nx + (k : Int)) % 4294967296) from by unfold seq_Add.f; rw [Int.emod_eq_of_lt (a := (k : Int)) (by omega) (by omega)])
          go_wp2_with (go_at_call 36; (with_reducible refine (seq_Add.calls nx (k : Int) _ _ HAD.out).mono ?_); rintro e' w6 ⟨rfl, hd6⟩; obtain ⟨nd6, rfl⟩ := hd6.out; clear hd6)
          go_end0
          exact move_done HBX5.out HR5.out HB5.out HK5.out HG.out HKL.out nd6
end Go.Proofs.Ytcllcjflgeiehaa.PRecvPlays
