/- Proved: what the method Blocks returns of a receive buffer: the ranges behind its first gap. -/
import Derived.Test.YtcllcjflgeiehaaRecvIn
import Derived.BigRegion
import Derived.StillTailTactics
namespace Go.Proofs.Ytcllcjflgeiehaa.PRecvPlays
open Go.RowKit Go.Proofs.YtcllcjflgeiehaaW.PrintWords Go.Proofs.YtcllcjflgeiehaaW.PrintLast Go.Proofs.YtcllcjflgeiehaaW.PrintMore
set_option linter.unusedVariables false
set_option linter.unusedSimpArgs false
def pbl (nx : Int) (th : List Bool) : Nat → Nat → List S74
  | 0, _ => []
  | d + 1, i => if i < th.length then (if th.getD i false = true then ⟨(nx + i) % 4294967296, (nx + ((i + lead (th.drop i) : Nat) : Int)) % 4294967296⟩ :: pbl nx th d (i + lead (th.drop i) + 1) else pbl nx th d (i + 1)) else []
def bcells (l : List S74) : List Value := l.flatMap fun b => [.int .u32 b.f0, .int .u32 b.f1]
theorem bcells_len (l : List S74) : (bcells l).length = l.length * 2 := by
  unfold bcells
  induction l with
  | nil => rfl
  | cons p r ih => rw [List.flatMap_cons, List.length_append, ih, List.length_cons]; simp; omega
theorem grow74 {w0 w : World} {v : Value} {z : Nat} {l : List S74} {x y : Int} (hd : QRow w w0.heap.size 74 2 v l.length (bcells l)) (hb : Below w0.heap.size w0 w) (hz : w.heap[z]? = some (Obj.cells #[.int .u32 x, .int .u32 y] 74 (0, 0))) (h2 : l.length ≤ 1000000) :
    ∃ A1 c1 w1, (Builtin.append_ #[45, 45] 45 #[v, .slice (some ⟨z, 0, none⟩) 1 1]).run Try.prog w = .ok (.slice A1 (l.length + 1) c1) w1 ∧ QRow w1 w0.heap.size 74 2 (.slice A1 (l.length + 1) c1) (l.length + 1) (bcells (l ++ [⟨x, y⟩])) ∧ Below w0.heap.size w0 w1 ∧
      ∀ (k : Nat) (cs : Array Value) (t : TypeId), w.heap[k]? = some (Obj.cells cs t (0, 0)) → t ≠ 74 → w1.heap[k]? = some (Obj.cells cs t (0, 0)) := by
  obtain ⟨i0, hi, hzz⟩ := Option.map_eq_some_iff.1 info74
  simp only [Prod.mk.injEq] at hzz
  obtain ⟨hz0, hz1, hz2⟩ := hzz
  have hm : maxLen = 9223372036854775807 := rfl
  obtain ⟨v1, w1, hr1, hq1, hg1, hat1⟩ := q_append (P := Try.prog) w w0.heap.size 45 45 74 i0 _ 2 8 Try.underlying45 hi hz0 hz1 hz2 rfl (by decide) v l.length (bcells l) hd ⟨z, 0, none⟩ 1 1 [.int .u32 x, .int .u32 y] rfl (World.news_of_block (cs := #[.int .u32 x, .int .u32 y]) hz)
    (fun u hu => by
      simp only [List.mem_cons, List.not_mem_nil, or_false] at hu
      rcases hu with h1 | h1
      · rw [h1]; rfl
      · rw [h1]; rfl) (by decide) (by rw [hm]; omega) (by omega) hb.size
  obtain ⟨A1, c1, rfl, _⟩ := q_slice hq1
  have e1 : bcells l ++ [.int .u32 x, .int .u32 y] = bcells (l ++ [⟨x, y⟩]) := by unfold bcells; simp
  rw [e1] at hq1
  exact ⟨A1, c1, w1, hr1, hq1, hb.grown hg1 hb.size (fun j hj => (q_typed hd j hj).1), fun k cs t hk ht => grown_far hg1 hd k cs t hk ht⟩
theorem pbl_fuel (nx : Int) (th : List Bool) : ∀ (a b i : Nat), th.length < i + a → th.length < i + b → pbl nx th b i = pbl nx th a i
  | 0, 0, i, _, _ => rfl
  | 0, b + 1, i, h, _ => by rw [pbl, pbl, if_neg (by omega)]
  | a + 1, 0, i, _, h => by rw [pbl, pbl, if_neg (by omega)]
  | a + 1, b + 1, i, h1, h2 => by
    rw [pbl, pbl]
    by_cases hi : i < th.length
    · rw [if_pos hi, if_pos hi, pbl_fuel nx th a b (i + lead (th.drop i) + 1) (by omega) (by omega), pbl_fuel nx th a b (i + 1) (by omega) (by omega)]
    · rw [if_neg hi, if_neg hi]
def recv_Blocks.T9 : Bool × List (List Nat × List Nat) := (true, [([], []), ([], []), ([1], [1]), ([2], [2]), ([3], [3]), ([], []), ([4, 5], [4, 5]), ([], []), ([7], [7]), ([8], [8]), ([9], [9]), ([], []), ([10, 11, 6], [10, 11]), ([6, 12], [6, 12]), ([13], [13]), ([0, 14, 12], [0, 14]), ([15, 15, 0, 1, 2, 3, 4, 5, 6, 7, 8, 9, 10, 11, 12, 13, 14, 15], [0, 15])])
def recv_Blocks.B9 : List Nat := [0, 0, 2, 6, 14, 0, 62, 0, 128, 384, 896, 0, 4094, 8190, 16382, 32767, 65535]
theorem recv_Blocks.tab9 : rtab .any (opsOf Try.f20 9) = recv_Blocks.T9 := by kernel_rfl
theorem recv_Blocks.bits9 : waitsOk recv_Blocks.T9.2 recv_Blocks.B9 = true := by kernel_rfl
def BlkRel (w : World) (nx : Int) (th : List Bool) (n : Nat) (v i : Value) (wr : World) : Prop := ∃ (k : Nat) (l : List S74), k + n = th.length + 1 ∧ i = .int .i64 k ∧ l ++ pbl nx th n k = pbl nx th (th.length + 1) 0 ∧ l.length ≤ k ∧ QRow wr w.heap.size 74 2 v l.length (bcells l) ∧ Below w.heap.size w wr
def BlkPost (w : World) (nx : Int) (th : List Bool) (e : Ending) (w' : World) : Prop := ∃ v, e = .returned v ∧ QRow w' w.heap.size 74 2 v (pbl nx th (th.length + 1) 0).length (bcells (pbl nx th (th.length + 1) 0)) ∧ Below w.heap.size w w'
set_option maxHeartbeats 4000000 in
set_option maxRecDepth 100000 in
theorem blocks_calls {w0 w : World} {g : Nat} {nx room : Int} {rd da : List Int} {th : List Bool} (h : Buf w0.heap.size w g nx room rd da th) (h2 : th.length ≤ 100000) (hn : 0 ≤ nx ∧ nx < 4294967296) :
    Calls Try.prog 20 #[.pointer (some ⟨g, 0, none⟩)] w (BlkPost w nx th) := by
  have HBUF := Aside0.mk h
  clear h
  go_enter Try.func20, Try.ntmps20
  go_wp2
  go_loopg [3, 4] (th.length + 1) (fun n v i wr => BlkRel w nx th n v i wr)
  case atStart => exact ⟨0, [], by omega, rfl, rfl, Nat.le_refl _, ⟨rfl, .inl ⟨rfl, none, rfl, fun a ha => by cases ha⟩⟩, Below.refl _ _⟩
  case round =>
    obtain ⟨k, l, hk, rfl, hpb, hlk, hrow, hb⟩ := hrel
    have HPB := Aside0.mk hpb
    have HROW := Aside0.mk hrow
    have HB := Aside0.mk hb
    clear hpb hrow hb
    obtain ⟨Ar, cr, Ad, cd, At, ct, hbox, hg, hrows, hrc, hdc, htc⟩ := (HBUF.out.below HB.out).open
    have HROWS := Aside0.mk hrows
    have HBOX := Aside0.mk hbox
    clear hrows
    have c0 := blk_cell hbox 0
    have c4 := blk_cell hbox 4
    clear hbox
    by_cases hlt : k < th.length
    · obtain ⟨n, rfl⟩ : ∃ n, gk = n + 1 := ⟨gk - 1, by omega⟩
      have dlt : decide (k < th.length) = true := decide_eq_true hlt
      obtain ⟨gt, ot, cst, hAt, hbt, hbt0, hct⟩ := q_form HROWS.out.t (by omega)
      subst hAt
      obtain ⟨b, hbv⟩ : ∃ b, th.getD k false = b := ⟨_, rfl⟩
      have ck := hct k (.bool b) (by rw [bls_at th k hlt, hbv])
      have HCT := Aside0.mk hct
      have HBV := Aside0.mk hbv
      clear hct hbt hbv
      cases b
      · go_wp2
        go_roundg n
        case measure => omega
        case rel => exact ⟨k + 1, l, by omega, rfl, by have h3 := HPB.out; rw [pbl, if_pos hlt, HBV.out, if_neg (by decide)] at h3; exact h3, by omega, HROW.out, HB.out⟩
      · go_wp2
        go_loop [5] (fun v => ∃ j : Nat, k ≤ j ∧ j ≤ th.length ∧ v = .int .i64 j ∧ k + lead (th.drop k) = j + lead (th.drop j)) (fun v => th.length - (intOf v).toNat)
        case atStart => exact ⟨k, Nat.le_refl _, by omega, rfl, rfl⟩
        case round =>
          obtain ⟨j, hkj, hjl, rfl, hld⟩ := hrel
          have HLD := Aside0.mk hld
          clear hld ck
          by_cases hjt : j < th.length
          · have djt : decide (j < th.length) = true := decide_eq_true hjt
            obtain ⟨b, hbv⟩ : ∃ b, th.getD j false = b := ⟨_, rfl⟩
            have cj := HCT.out j (.bool b) (by rw [bls_at th j hjt, hbv])
            have HBJ := Aside0.mk hbv
            clear hbv
            cases b
            · have HJ := Aside0.mk (show k + lead (th.drop k) = j from by have h3 := HLD.out; rw [lead_drop th j hjt, HBJ.out, if_neg (by decide)] at h3; omega)
              go_wp2
              have HA1 := Aside0.mk (show seq_Add.f nx (k : Int) = some ((nx + (k : Int)) % 4294967296) from by unfold seq_Add.f; rw [Int.emod_eq_of_lt (a := (k : Int)) (by omega) (by omega)])
              have HA2 := Aside0.mk (show seq_Add.f nx (j : Int) = some ((nx + (j : Int)) % 4294967296) from by unfold seq_Add.f; rw [Int.emod_eq_of_lt (a := (j : Int)) (by omega) (by omega)])
              have hl6 : l.length ≤ 1000000 := by omega
              have B0 := Aside0.mk (show Box wr.drew g nx room (.slice Ar rd.length cr) (.slice Ad da.length cd) (.slice (some ⟨gt, ot, none⟩) th.length ct) from HBOX.out)
              have R0 := Aside0.mk (show QRow wr.drew w.heap.size 74 2 u3 l.length (bcells l) from q_move HROW.out (fun _ _ => rfl))
              replace HB := Aside0.mk (below_drew HB.out)
              refine start_ (n := 17) (S := fun w' => True) (ds := []) #[false, false, false, false, false, false, false, false, false, false, false, false, false, false, false, false, false] (by kernel_rfl) rfl rfl trivial (fun hHeld => ?_); refine with_tabW recv_Blocks.tab9 recv_Blocks.bits9 (fun HT_ HW_ => ?_)
              generalize wr.drew = wS at HB B0 R0 ⊢
              refine pure_ (i := 0) (N := some 42) (v := ?_) (a' := ?_) #[true, false, false, false, false, false, false, false, false, false, false, false, false, false, false, false, false] rfl rfl (any_of HT_.out (by kernel_rfl)) (fun _ _ _ h => h) (Or.inl ⟨by rfl, ?_⟩) ?_ ?_
              rotate_left
              · intro w'
                go_simp
                with_reducible rfl
              rotate_left
              · simp only [Act.put, List.setIfInBounds_toArray, List.set_cons_zero, List.set_cons_succ, i64_w, i32_w]
                rfl
              refine pure_ (i := 1) (N := some 43) (v := ?_) (a' := ?_) #[true, true, false, false, false, false, false, false, false, false, false, false, false, false, false, false, false] rfl rfl (any_of HT_.out (by kernel_rfl)) (fun _ _ _ h => h) (Or.inl ⟨by rfl, ?_⟩) ?_ ?_
              rotate_left
              · intro w'
                go_simp
                with_reducible rfl
              rotate_left
              · simp only [Act.put, List.setIfInBounds_toArray, List.set_cons_zero, List.set_cons_succ, i64_w, i32_w]
                rfl
              refine pure_ (i := 2) (N := some 44) (v := ?_) (a' := ?_) #[true, true, true, false, false, false, false, false, false, false, false, false, false, false, false, false, false] rfl rfl (any_of HT_.out (by kernel_rfl)) (fun _ _ _ h => h) (Or.inl ⟨by rfl, ?_⟩) ?_ ?_
              rotate_left
              · intro w'
                go_simp
                with_reducible rfl
              rotate_left
              · simp only [Act.put, List.setIfInBounds_toArray, List.set_cons_zero, List.set_cons_succ, i64_w, i32_w]
                rfl
              refine pure_ (i := 3) (N := some 45) (v := ?_) (a' := ?_) #[true, true, true, true, false, false, false, false, false, false, false, false, false, false, false, false, false] rfl rfl (any_of HT_.out (by kernel_rfl)) (fun _ _ _ h => h) (Or.inl ⟨by rfl, ?_⟩) ?_ ?_
              rotate_left
              · intro w'
                go_simp
                with_reducible rfl
              rotate_left
              · simp only [Act.put, List.setIfInBounds_toArray, List.set_cons_zero, List.set_cons_succ, i64_w, i32_w]
                rfl
              refine pure_ (i := 5) (N := some 47) (v := ?_) (a' := ?_) #[true, true, true, true, false, true, false, false, false, false, false, false, false, false, false, false, false] rfl rfl (any_of HT_.out (by kernel_rfl)) (fun _ _ _ h => h) (Or.inl ⟨by rfl, ?_⟩) ?_ ?_
              rotate_left
              · intro w'
                go_simp
                with_reducible rfl
              rotate_left
              · simp only [Act.put, List.setIfInBounds_toArray, List.set_cons_zero, List.set_cons_succ, i64_w, i32_w]
                rfl
              refine pure_ (i := 7) (N := some 49) (v := ?_) (a' := ?_) #[true, true, true, true, false, true, false, true, false, false, false, false, false, false, false, false, false] rfl rfl (any_of HT_.out (by kernel_rfl)) (fun _ _ _ h => h) (Or.inl ⟨by rfl, ?_⟩) ?_ ?_
              rotate_left
              · intro w'
                go_simp
                with_reducible rfl
              rotate_left
              · simp only [Act.put, List.setIfInBounds_toArray, List.set_cons_zero, List.set_cons_succ, i64_w, i32_w]
                rfl
              refine pure_ (i := 8) (N := some 50) (v := ?_) (a' := ?_) #[true, true, true, true, false, true, false, true, true, false, false, false, false, false, false, false, false] rfl rfl (any_of HT_.out (by kernel_rfl)) (fun _ _ _ h => h) (Or.inl ⟨by rfl, ?_⟩) ?_ ?_
              rotate_left
              · intro w'
                go_simp
                with_reducible rfl
              rotate_left
              · simp only [Act.put, List.setIfInBounds_toArray, List.set_cons_zero, List.set_cons_succ, i64_w, i32_w]
                rfl
              refine pure_ (i := 9) (N := some 51) (v := ?_) (a' := ?_) #[true, true, true, true, false, true, false, true, true, true, false, false, false, false, false, false, false] rfl rfl (any_of HT_.out (by kernel_rfl)) (fun _ _ _ h => h) (Or.inl ⟨by rfl, ?_⟩) ?_ ?_
              rotate_left
              · intro w'
                go_simp
                with_reducible rfl
              rotate_left
              · simp only [Act.put, List.setIfInBounds_toArray, List.set_cons_zero, List.set_cons_succ, i64_w, i32_w]
                rfl
              refine pure_ (i := 11) (N := some 53) (v := ?_) (a' := ?_) #[true, true, true, true, false, true, false, true, true, true, false, true, false, false, false, false, false] rfl rfl (any_of HT_.out (by kernel_rfl)) (fun _ _ _ h => h) (Or.inl ⟨by rfl, ?_⟩) ?_ ?_
              rotate_left
              · intro w'
                go_simp
                with_reducible rfl
              rotate_left
              · simp only [Act.put, List.setIfInBounds_toArray, List.set_cons_zero, List.set_cons_succ, i64_w, i32_w]
                rfl
              refine inv_at [4, 6, 10, 12, 13, 14, 15, 16] (fun a0_ b a w' => ∃ (z14_ : Nat) (A15_ : Option Addr) (c15_ : Nat) (m14_ : Value) (m15_ : Value) (m16_ : Value), a = putSel a0_ b [(4, 46, .int .u32 nx), (6, 48, .int .u32 ((nx + (k : Int)) % 4294967296)), (10, 52, .int .u32 nx), (12, 54, .int .u32 ((nx + (j : Int)) % 4294967296)), (13, 55, .agg #[.int .u32 ((nx + (k : Int)) % 4294967296), .int .u32 ((nx + (j : Int)) % 4294967296)]), (14, 56, m14_), (15, 57, m15_), (16, 3, m16_)] ∧ (Below w.heap.size w w') ∧ (Box w' g nx room (.slice Ar rd.length cr) (.slice Ad da.length cd) (.slice (some ⟨gt, ot, none⟩) th.length ct)) ∧ (b 15 = false → QRow w' w.heap.size 74 2 u3 l.length (bcells l)) ∧ (b 15 = true → QRow w' w.heap.size 74 2 (.slice A15_ (l.length + 1) c15_) (l.length + 1) (bcells (l ++ [⟨(nx + (k : Int)) % 4294967296, (nx + (j : Int)) % 4294967296⟩]))) ∧ (b 14 = true → b 15 = false → w'.heap[z14_]? = some (Obj.cells #[.int .u32 ((nx + (k : Int)) % 4294967296), .int .u32 ((nx + (j : Int)) % 4294967296)] 74 (0, 0))) ∧ (b 14 = true → (m14_ : Value) = .slice (some ⟨z14_, 0, none⟩) 1 1) ∧ (b 15 = true → (m15_ : Value) = .slice A15_ (l.length + 1) c15_) ∧ (b 16 = true → (m16_ : Value) = .slice A15_ (l.length + 1) c15_)) HT_.out HW_.out (by kernel_rfl) (by kernel_rfl) ?_ ?_ ?_
              · exact ⟨0, none, 0, .bool false, .bool false, .bool false, by simp only [putSel, Bool.false_eq_true, if_false], HB.out, B0.out, fun _ => R0.out, fun h_ => absurd h_ (by decide), fun h_ => absurd h_ (by decide), fun h_ => absurd h_ (by decide), fun h_ => absurd h_ (by decide), fun h_ => absurd h_ (by decide)⟩
              · skip
                clear B0 HB R0
                refine steps_cons ?_ ?_
                · rintro b a w' ⟨z14_, A15_, c15_, m14_, m15_, m16_, ha, Q_HB, Q_B0, Q_R0, Q_R1, Q_Z14, Q_X14_, Q_X15_, Q_X16_⟩ hb_ hon hoff
                  refine ⟨_, rfl, fun K hK => ?_⟩
                  have e45 : a.tmps[45]? = some (.pointer (some ⟨g, 0, none⟩)) := by rw [ha]; exact (putSel_off rfl).trans rfl
                  replace ha := Aside0.mk ha
                  have HB := Aside0.mk Q_HB
                  have B0 := Aside0.mk Q_B0
                  have R0 := Aside0.mk (Q_R0 (hoff 15 (by kernel_rfl)))
                  have hc_ : w'.cell? ⟨g, 0, none⟩ = some (.int .u32 nx) := (blk_cell B0.out 0).trans rfl
                  refine value_ (w1 := w') (v := .int .u32 nx) (by rfl) rfl ?_ ?_
                  · go_simp
                    (try simp only [i64_w])
                    try rfl
                  refine hK.out _ _ ⟨z14_, A15_, c15_, m14_, m15_, m16_, (by rw [ha.out]; exact putSel_upk 0 hb_ rfl rfl rfl), Q_HB, Q_B0, Q_R0, fun h0_ => absurd ((hoff 15 (by kernel_rfl)).symm.trans h0_) (by decide), fun h0_ _ => absurd ((hoff 14 (by kernel_rfl)).symm.trans h0_) (by decide), fun h0_ => absurd ((hoff 14 (by kernel_rfl)).symm.trans h0_) (by decide), fun h0_ => absurd ((hoff 15 (by kernel_rfl)).symm.trans h0_) (by decide), fun h0_ => absurd ((hoff 16 (by kernel_rfl)).symm.trans h0_) (by decide)⟩
                refine steps_cons ?_ ?_
                · rintro b a w' ⟨z14_, A15_, c15_, m14_, m15_, m16_, ha, Q_HB, Q_B0, Q_R0, Q_R1, Q_Z14, Q_X14_, Q_X15_, Q_X16_⟩ hb_ hon hoff
                  refine ⟨_, rfl, fun K hK => ?_⟩
                  have e46 : a.tmps[46]? = some (.int .u32 nx) := by rw [ha]; exact putSel_on (e := (4, 46, .int .u32 nx)) 0 rfl rfl (hon 4 (by kernel_rfl)) rfl
                  have e47 : a.tmps[47]? = some (.int .i64 (k : Int)) := by rw [ha]; exact (putSel_off rfl).trans rfl
                  replace ha := Aside0.mk ha
                  have HB := Aside0.mk Q_HB
                  have B0 := Aside0.mk Q_B0
                  have R0 := Aside0.mk (Q_R0 (hoff 15 (by kernel_rfl)))
                  refine goes_ Try.func36 (by kernel_rfl) rfl #[.int .u32 nx, .int .i64 (k : Int)] (by rfl) rfl rfl (by first | (simp only [List.map_toArray, List.map_cons, List.map_nil, Act.eval, Array.getD_eq_getD_getElem?, Option.getD_some, e46, e47]; done) | (simp only [List.map_toArray, List.map_cons, List.map_nil, Act.eval, Array.getD_eq_getD_getElem?, Option.getD_some, e46, e47]; rfl)) ?_
                  with_reducible refine (seq_Add.calls nx (k : Int) _ _ HA1.out).mono ?_
                  rintro e w1n ⟨rfl, ⟨ndn, rfl⟩⟩
                  refine ⟨_, rfl, ?_⟩
                  refine hK.out _ _ ⟨z14_, A15_, c15_, m14_, m15_, m16_, (by rw [ha.out]; exact putSel_upk 1 hb_ rfl rfl rfl), (pw_below_drewN HB.out _), B0.out, fun _ => (q_move R0.out (fun _ _ => rfl)), fun h0_ => absurd ((hoff 15 (by kernel_rfl)).symm.trans h0_) (by decide), fun h0_ _ => absurd ((hoff 14 (by kernel_rfl)).symm.trans h0_) (by decide), fun h0_ => absurd ((hoff 14 (by kernel_rfl)).symm.trans h0_) (by decide), fun h0_ => absurd ((hoff 15 (by kernel_rfl)).symm.trans h0_) (by decide), fun h0_ => absurd ((hoff 16 (by kernel_rfl)).symm.trans h0_) (by decide)⟩
                refine steps_cons ?_ ?_
                · rintro b a w' ⟨z14_, A15_, c15_, m14_, m15_, m16_, ha, Q_HB, Q_B0, Q_R0, Q_R1, Q_Z14, Q_X14_, Q_X15_, Q_X16_⟩ hb_ hon hoff
                  refine ⟨_, rfl, fun K hK => ?_⟩
                  have e51 : a.tmps[51]? = some (.pointer (some ⟨g, 0, none⟩)) := by rw [ha]; exact (putSel_off rfl).trans rfl
                  replace ha := Aside0.mk ha
                  have HB := Aside0.mk Q_HB
                  have B0 := Aside0.mk Q_B0
                  have R0 := Aside0.mk (Q_R0 (hoff 15 (by kernel_rfl)))
                  have hc_ : w'.cell? ⟨g, 0, none⟩ = some (.int .u32 nx) := (blk_cell B0.out 0).trans rfl
                  refine value_ (w1 := w') (v := .int .u32 nx) (by rfl) rfl ?_ ?_
                  · go_simp
                    (try simp only [i64_w])
                    try rfl
                  refine hK.out _ _ ⟨z14_, A15_, c15_, m14_, m15_, m16_, (by rw [ha.out]; exact putSel_upk 2 hb_ rfl rfl rfl), Q_HB, Q_B0, Q_R0, fun h0_ => absurd ((hoff 15 (by kernel_rfl)).symm.trans h0_) (by decide), fun h0_ _ => absurd ((hoff 14 (by kernel_rfl)).symm.trans h0_) (by decide), fun h0_ => absurd ((hoff 14 (by kernel_rfl)).symm.trans h0_) (by decide), fun h0_ => absurd ((hoff 15 (by kernel_rfl)).symm.trans h0_) (by decide), fun h0_ => absurd ((hoff 16 (by kernel_rfl)).symm.trans h0_) (by decide)⟩
                refine steps_cons ?_ ?_
                · rintro b a w' ⟨z14_, A15_, c15_, m14_, m15_, m16_, ha, Q_HB, Q_B0, Q_R0, Q_R1, Q_Z14, Q_X14_, Q_X15_, Q_X16_⟩ hb_ hon hoff
                  refine ⟨_, rfl, fun K hK => ?_⟩
                  have e52 : a.tmps[52]? = some (.int .u32 nx) := by rw [ha]; exact putSel_on (e := (10, 52, .int .u32 nx)) 2 rfl rfl (hon 10 (by kernel_rfl)) rfl
                  have e53 : a.tmps[53]? = some (.int .i64 (j : Int)) := by rw [ha]; exact (putSel_off rfl).trans rfl
                  replace ha := Aside0.mk ha
                  have HB := Aside0.mk Q_HB
                  have B0 := Aside0.mk Q_B0
                  have R0 := Aside0.mk (Q_R0 (hoff 15 (by kernel_rfl)))
                  refine goes_ Try.func36 (by kernel_rfl) rfl #[.int .u32 nx, .int .i64 (j : Int)] (by rfl) rfl rfl (by first | (simp only [List.map_toArray, List.map_cons, List.map_nil, Act.eval, Array.getD_eq_getD_getElem?, Option.getD_some, e52, e53]; done) | (simp only [List.map_toArray, List.map_cons, List.map_nil, Act.eval, Array.getD_eq_getD_getElem?, Option.getD_some, e52, e53]; rfl)) ?_
                  with_reducible refine (seq_Add.calls nx (j : Int) _ _ HA2.out).mono ?_
                  rintro e w1n ⟨rfl, ⟨ndn, rfl⟩⟩
                  refine ⟨_, rfl, ?_⟩
                  refine hK.out _ _ ⟨z14_, A15_, c15_, m14_, m15_, m16_, (by rw [ha.out]; exact putSel_upk 3 hb_ rfl rfl rfl), (pw_below_drewN HB.out _), B0.out, fun _ => (q_move R0.out (fun _ _ => rfl)), fun h0_ => absurd ((hoff 15 (by kernel_rfl)).symm.trans h0_) (by decide), fun h0_ _ => absurd ((hoff 14 (by kernel_rfl)).symm.trans h0_) (by decide), fun h0_ => absurd ((hoff 14 (by kernel_rfl)).symm.trans h0_) (by decide), fun h0_ => absurd ((hoff 15 (by kernel_rfl)).symm.trans h0_) (by decide), fun h0_ => absurd ((hoff 16 (by kernel_rfl)).symm.trans h0_) (by decide)⟩
                refine steps_cons ?_ ?_
                · rintro b a w' ⟨z14_, A15_, c15_, m14_, m15_, m16_, ha, Q_HB, Q_B0, Q_R0, Q_R1, Q_Z14, Q_X14_, Q_X15_, Q_X16_⟩ hb_ hon hoff
                  refine ⟨_, rfl, fun K hK => ?_⟩
                  have e48 : a.tmps[48]? = some (.int .u32 ((nx + (k : Int)) % 4294967296)) := by rw [ha]; exact putSel_on (e := (6, 48, .int .u32 ((nx + (k : Int)) % 4294967296))) 1 rfl rfl (hon 6 (by kernel_rfl)) rfl
                  have e54 : a.tmps[54]? = some (.int .u32 ((nx + (j : Int)) % 4294967296)) := by rw [ha]; exact putSel_on (e := (12, 54, .int .u32 ((nx + (j : Int)) % 4294967296))) 3 rfl rfl (hon 12 (by kernel_rfl)) rfl
                  replace ha := Aside0.mk ha
                  have HB := Aside0.mk Q_HB
                  have B0 := Aside0.mk Q_B0
                  have R0 := Aside0.mk (Q_R0 (hoff 15 (by kernel_rfl)))
                  refine value_ (w1 := w') (v := .agg #[.int .u32 ((nx + (k : Int)) % 4294967296), .int .u32 ((nx + (j : Int)) % 4294967296)]) (by rfl) rfl ?_ ?_
                  · go_simp
                    (try simp only [i64_w])
                    try rfl
                  refine hK.out _ _ ⟨z14_, A15_, c15_, m14_, m15_, m16_, (by rw [ha.out]; exact putSel_upk 4 hb_ rfl rfl rfl), Q_HB, Q_B0, Q_R0, fun h0_ => absurd ((hoff 15 (by kernel_rfl)).symm.trans h0_) (by decide), fun h0_ _ => absurd ((hoff 14 (by kernel_rfl)).symm.trans h0_) (by decide), fun h0_ => absurd ((hoff 14 (by kernel_rfl)).symm.trans h0_) (by decide), fun h0_ => absurd ((hoff 15 (by kernel_rfl)).symm.trans h0_) (by decide), fun h0_ => absurd ((hoff 16 (by kernel_rfl)).symm.trans h0_) (by decide)⟩
                refine steps_cons ?_ ?_
                · rintro b a w' ⟨z14_, A15_, c15_, m14_, m15_, m16_, ha, Q_HB, Q_B0, Q_R0, Q_R1, Q_Z14, Q_X14_, Q_X15_, Q_X16_⟩ hb_ hon hoff
                  refine ⟨_, rfl, fun K hK => ?_⟩
                  have e55 : a.tmps[55]? = some (.agg #[.int .u32 ((nx + (k : Int)) % 4294967296), .int .u32 ((nx + (j : Int)) % 4294967296)]) := by rw [ha]; exact putSel_on (e := (13, 55, .agg #[.int .u32 ((nx + (k : Int)) % 4294967296), .int .u32 ((nx + (j : Int)) % 4294967296)])) 4 rfl rfl (hon 13 (by kernel_rfl)) rfl
                  replace ha := Aside0.mk ha
                  have HB := Aside0.mk Q_HB
                  have B0 := Aside0.mk Q_B0
                  have R0 := Aside0.mk (Q_R0 (hoff 15 (by kernel_rfl)))
                  refine value_ (w1 := w'.alloc (.cells #[.int .u32 ((nx + (k : Int)) % 4294967296), .int .u32 ((nx + (j : Int)) % 4294967296)] 74)) (v := .slice (some ⟨w'.heap.size, 0, none⟩) 1 1) (by rfl) rfl ?_ ?_
                  · go_simp
                    (try rfl)
                  refine hK.out _ _ ⟨w'.heap.size, A15_, c15_, (.slice (some ⟨w'.heap.size, 0, none⟩) 1 1), m15_, m16_, (by rw [ha.out]; exact putSel_upk 5 hb_ rfl rfl rfl), (below_alloc HB.out _), (blk_alloc B0.out _), fun _ => (q_al R0.out _), fun h0_ => absurd ((hoff 15 (by kernel_rfl)).symm.trans h0_) (by decide), fun _ _ => (heap_alloc_new w' _), fun _ => rfl, fun h0_ => absurd ((hoff 15 (by kernel_rfl)).symm.trans h0_) (by decide), fun h0_ => absurd ((hoff 16 (by kernel_rfl)).symm.trans h0_) (by decide)⟩
                refine steps_cons ?_ ?_
                · rintro b a w' ⟨z14_, A15_, c15_, m14_, m15_, m16_, ha, Q_HB, Q_B0, Q_R0, Q_R1, Q_Z14, Q_X14_, Q_X15_, Q_X16_⟩ hb_ hon hoff
                  refine ⟨_, rfl, fun K hK => ?_⟩
                  have e42 : a.tmps[42]? = some (u3) := by rw [ha]; exact (putSel_off rfl).trans rfl
                  have e56 : a.tmps[56]? = some (m14_) := by rw [ha]; exact putSel_on (e := (14, 56, m14_)) 5 rfl rfl (hon 14 (by kernel_rfl)) rfl
                  rw [Q_X14_ (hon 14 (by kernel_rfl))] at e56
                  replace ha := Aside0.mk ha
                  have HB := Aside0.mk Q_HB
                  have B0 := Aside0.mk Q_B0
                  have R0 := Aside0.mk (Q_R0 hb_)
                  have Z14 := Aside0.mk (Q_Z14 (hon 14 (by kernel_rfl)) hb_)
                  obtain ⟨A15n, c15n, w1n, hrn, hq1n, hbn, hfn⟩ := grow74 R0.out HB.out Z14.out hl6
                  refine value_ (w1 := w1n) (v := .slice A15n (l.length + 1) c15n) (by rfl) rfl (exec_append rfl (eval_of e42) (eval_of e56) hrn) ?_
                  refine hK.out _ _ ⟨z14_, A15n, c15n, m14_, (.slice A15n (l.length + 1) c15n), m16_, (by rw [ha.out]; exact putSel_upk 6 hb_ rfl rfl rfl), hbn, (hfn _ _ _ B0.out (by decide)), fun h0_ => absurd ((up_self b 15).symm.trans h0_) (by decide), fun _ => hq1n, fun _ h1_ => absurd ((up_self b 15).symm.trans h1_) (by decide), Q_X14_, fun _ => rfl, fun h0_ => absurd ((hoff 16 (by kernel_rfl)).symm.trans h0_) (by decide)⟩
                refine steps_cons ?_ ?_
                · rintro b a w' ⟨z14_, A15_, c15_, m14_, m15_, m16_, ha, Q_HB, Q_B0, Q_R0, Q_R1, Q_Z14, Q_X14_, Q_X15_, Q_X16_⟩ hb_ hon hoff
                  refine ⟨_, rfl, fun K hK => ?_⟩
                  have e57 : a.tmps[57]? = some (m15_) := by rw [ha]; exact putSel_on (e := (15, 57, m15_)) 6 rfl rfl (hon 15 (by kernel_rfl)) rfl
                  rw [Q_X15_ (hon 15 (by kernel_rfl))] at e57
                  replace ha := Aside0.mk ha
                  have HB := Aside0.mk Q_HB
                  have B0 := Aside0.mk Q_B0
                  have R1 := Aside0.mk (Q_R1 (hon 15 (by kernel_rfl)))
                  refine value_ (w1 := w') (v := .slice A15_ (l.length + 1) c15_) (by rfl) rfl ?_ ?_
                  · go_simp
                    (try simp only [i64_w])
                    try rfl
                  refine hK.out _ _ ⟨z14_, A15_, c15_, m14_, m15_, (.slice A15_ (l.length + 1) c15_), (by rw [ha.out]; exact putSel_upk 7 hb_ rfl rfl rfl), Q_HB, Q_B0, fun h0_ => absurd ((hon 15 (by kernel_rfl)).symm.trans h0_) (by decide), Q_R1, fun _ h1_ => absurd ((hon 15 (by kernel_rfl)).symm.trans h1_) (by decide), Q_X14_, Q_X15_, fun _ => rfl⟩
                exact steps_nil
              rintro b a wE hall ⟨z14_, A15_, c15_, m14_, m15_, m16_, ha, Q_HB, Q_B0, Q_R0, Q_R1, Q_Z14, Q_X14_, Q_X15_, Q_X16_⟩
              clear B0 HB R0
              have hb4_ := hall 4 (by kernel_rfl)
              have hb6_ := hall 6 (by kernel_rfl)
              have hb10_ := hall 10 (by kernel_rfl)
              have hb12_ := hall 12 (by kernel_rfl)
              have hb13_ := hall 13 (by kernel_rfl)
              have hb14_ := hall 14 (by kernel_rfl)
              have hb15_ := hall 15 (by kernel_rfl)
              have hb16_ := hall 16 (by kernel_rfl)
              subst ha
              obtain rfl := Q_X14_ hb14_
              obtain rfl := Q_X15_ hb15_
              obtain rfl := Q_X16_ hb16_
              simp only [putSel, hb4_, hb6_, hb10_, hb12_, hb13_, hb14_, hb15_, hb16_, if_true, Act.put, List.setIfInBounds_toArray, List.set_cons_zero, List.set_cons_succ]
              have HB := Aside0.mk Q_HB
              clear Q_HB
              have B0 := Aside0.mk Q_B0
              clear Q_B0
              clear Q_R0
              have R1 := Aside0.mk (Q_R1 hb15_)
              clear Q_R1
              clear Q_Z14
              clear hall hb4_ hb6_ hb10_ hb12_ hb13_ hb14_ hb15_ hb16_
              go_wp2
              go_roundg (n - lead (th.drop k))
              case measure => omega
              case rel =>
                have h6 := HJ.out
                have h7 : lead (th.drop k) ≤ n := by omega
                refine ⟨j + 1, l ++ [⟨(nx + (k : Int)) % 4294967296, (nx + (j : Int)) % 4294967296⟩], by omega, rfl, ?_, by simp; omega, ?_, HB.out⟩
                · have h3 := HPB.out
                  rw [pbl, if_pos hlt, HBV.out, if_pos rfl, h6] at h3
                  rw [List.append_assoc, List.singleton_append, pbl_fuel nx th n (n - lead (th.drop k)) (j + 1) (by omega) (by omega)]
                  exact h3
                · rw [List.length_append]; exact R1.out
            · go_wp2
              go_round
              case rel => exact ⟨j + 1, by omega, by omega, by go_num, by have h3 := HLD.out; rw [lead_drop th j hjt, HBJ.out, if_pos rfl] at h3; omega⟩
              case measure => simp [intOf]; omega
          · have djt : decide (j < th.length) = false := decide_eq_false hjt
            have HJ := Aside0.mk (show k + lead (th.drop k) = j from by have h3 := HLD.out; rw [lead_end th j (by omega)] at h3; omega)
            go_wp2
            have HA1 := Aside0.mk (show seq_Add.f nx (k : Int) = some ((nx + (k : Int)) % 4294967296) from by unfold seq_Add.f; rw [Int.emod_eq_of_lt (a := (k : Int)) (by omega) (by omega)])
            have HA2 := Aside0.mk (show seq_Add.f nx (j : Int) = some ((nx + (j : Int)) % 4294967296) from by unfold seq_Add.f; rw [Int.emod_eq_of_lt (a := (j : Int)) (by omega) (by omega)])
            have hl6 : l.length ≤ 1000000 := by omega
            have B0 := Aside0.mk (show Box wr.drew g nx room (.slice Ar rd.length cr) (.slice Ad da.length cd) (.slice (some ⟨gt, ot, none⟩) th.length ct) from HBOX.out)
            have R0 := Aside0.mk (show QRow wr.drew w.heap.size 74 2 u3 l.length (bcells l) from q_move HROW.out (fun _ _ => rfl))
            replace HB := Aside0.mk (below_drew HB.out)
            refine start_ (n := 17) (S := fun w' => True) (ds := []) #[false, false, false, false, false, false, false, false, false, false, false, false, false, false, false, false, false] (by kernel_rfl) rfl rfl trivial (fun hHeld => ?_); refine with_tabW recv_Blocks.tab9 recv_Blocks.bits9 (fun HT_ HW_ => ?_)
            generalize wr.drew = wS at HB B0 R0 ⊢
            refine pure_ (i := 0) (N := some 42) (v := ?_) (a' := ?_) #[true, false, false, false, false, false, false, false, false, false, false, false, false, false, false, false, false] rfl rfl (any_of HT_.out (by kernel_rfl)) (fun _ _ _ h => h) (Or.inl ⟨by rfl, ?_⟩) ?_ ?_
            rotate_left
            · intro w'
              go_simp
              with_reducible rfl
            rotate_left
            · simp only [Act.put, List.setIfInBounds_toArray, List.set_cons_zero, List.set_cons_succ, i64_w, i32_w]
              rfl
            refine pure_ (i := 1) (N := some 43) (v := ?_) (a' := ?_) #[true, true, false, false, false, false, false, false, false, false, false, false, false, false, false, false, false] rfl rfl (any_of HT_.out (by kernel_rfl)) (fun _ _ _ h => h) (Or.inl ⟨by rfl, ?_⟩) ?_ ?_
            rotate_left
            · intro w'
              go_simp
              with_reducible rfl
            rotate_left
            · simp only [Act.put, List.setIfInBounds_toArray, List.set_cons_zero, List.set_cons_succ, i64_w, i32_w]
              rfl
            refine pure_ (i := 2) (N := some 44) (v := ?_) (a' := ?_) #[true, true, true, false, false, false, false, false, false, false, false, false, false, false, false, false, false] rfl rfl (any_of HT_.out (by kernel_rfl)) (fun _ _ _ h => h) (Or.inl ⟨by rfl, ?_⟩) ?_ ?_
            rotate_left
            · intro w'
              go_simp
              with_reducible rfl
            rotate_left
            · simp only [Act.put, List.setIfInBounds_toArray, List.set_cons_zero, List.set_cons_succ, i64_w, i32_w]
              rfl
            refine pure_ (i := 3) (N := some 45) (v := ?_) (a' := ?_) #[true, true, true, true, false, false, false, false, false, false, false, false, false, false, false, false, false] rfl rfl (any_of HT_.out (by kernel_rfl)) (fun _ _ _ h => h) (Or.inl ⟨by rfl, ?_⟩) ?_ ?_
            rotate_left
            · intro w'
              go_simp
              with_reducible rfl
            rotate_left
            · simp only [Act.put, List.setIfInBounds_toArray, List.set_cons_zero, List.set_cons_succ, i64_w, i32_w]
              rfl
            refine pure_ (i := 5) (N := some 47) (v := ?_) (a' := ?_) #[true, true, true, true, false, true, false, false, false, false, false, false, false, false, false, false, false] rfl rfl (any_of HT_.out (by kernel_rfl)) (fun _ _ _ h => h) (Or.inl ⟨by rfl, ?_⟩) ?_ ?_
            rotate_left
            · intro w'
              go_simp
              with_reducible rfl
            rotate_left
            · simp only [Act.put, List.setIfInBounds_toArray, List.set_cons_zero, List.set_cons_succ, i64_w, i32_w]
              rfl
            refine pure_ (i := 7) (N := some 49) (v := ?_) (a' := ?_) #[true, true, true, true, false, true, false, true, false, false, false, false, false, false, false, false, false] rfl rfl (any_of HT_.out (by kernel_rfl)) (fun _ _ _ h => h) (Or.inl ⟨by rfl, ?_⟩) ?_ ?_
            rotate_left
            · intro w'
              go_simp
              with_reducible rfl
            rotate_left
            · simp only [Act.put, List.setIfInBounds_toArray, List.set_cons_zero, List.set_cons_succ, i64_w, i32_w]
              rfl
            refine pure_ (i := 8) (N := some 50) (v := ?_) (a' := ?_) #[true, true, true, true, false, true, false, true, true, false, false, false, false, false, false, false, false] rfl rfl (any_of HT_.out (by kernel_rfl)) (fun _ _ _ h => h) (Or.inl ⟨by rfl, ?_⟩) ?_ ?_
            rotate_left
            · intro w'
              go_simp
              with_reducible rfl
            rotate_left
            · simp only [Act.put, List.setIfInBounds_toArray, List.set_cons_zero, List.set_cons_succ, i64_w, i32_w]
              rfl
            refine pure_ (i := 9) (N := some 51) (v := ?_) (a' := ?_) #[true, true, true, true, false, true, false, true, true, true, false, false, false, false, false, false, false] rfl rfl (any_of HT_.out (by kernel_rfl)) (fun _ _ _ h => h) (Or.inl ⟨by rfl, ?_⟩) ?_ ?_
            rotate_left
            · intro w'
              go_simp
              with_reducible rfl
            rotate_left
            · simp only [Act.put, List.setIfInBounds_toArray, List.set_cons_zero, List.set_cons_succ, i64_w, i32_w]
              rfl
            refine pure_ (i := 11) (N := some 53) (v := ?_) (a' := ?_) #[true, true, true, true, false, true, false, true, true, true, false, true, false, false, false, false, false] rfl rfl (any_of HT_.out (by kernel_rfl)) (fun _ _ _ h => h) (Or.inl ⟨by rfl, ?_⟩) ?_ ?_
            rotate_left
            · intro w'
              go_simp
              with_reducible rfl
            rotate_left
            · simp only [Act.put, List.setIfInBounds_toArray, List.set_cons_zero, List.set_cons_succ, i64_w, i32_w]
              rfl
            refine inv_at [4, 6, 10, 12, 13, 14, 15, 16] (fun a0_ b a w' => ∃ (z14_ : Nat) (A15_ : Option Addr) (c15_ : Nat) (m14_ : Value) (m15_ : Value) (m16_ : Value), a = putSel a0_ b [(4, 46, .int .u32 nx), (6, 48, .int .u32 ((nx + (k : Int)) % 4294967296)), (10, 52, .int .u32 nx), (12, 54, .int .u32 ((nx + (j : Int)) % 4294967296)), (13, 55, .agg #[.int .u32 ((nx + (k : Int)) % 4294967296), .int .u32 ((nx + (j : Int)) % 4294967296)]), (14, 56, m14_), (15, 57, m15_), (16, 3, m16_)] ∧ (Below w.heap.size w w') ∧ (Box w' g nx room (.slice Ar rd.length cr) (.slice Ad da.length cd) (.slice (some ⟨gt, ot, none⟩) th.length ct)) ∧ (b 15 = false → QRow w' w.heap.size 74 2 u3 l.length (bcells l)) ∧ (b 15 = true → QRow w' w.heap.size 74 2 (.slice A15_ (l.length + 1) c15_) (l.length + 1) (bcells (l ++ [⟨(nx + (k : Int)) % 4294967296, (nx + (j : Int)) % 4294967296⟩]))) ∧ (b 14 = true → b 15 = false → w'.heap[z14_]? = some (Obj.cells #[.int .u32 ((nx + (k : Int)) % 4294967296), .int .u32 ((nx + (j : Int)) % 4294967296)] 74 (0, 0))) ∧ (b 14 = true → (m14_ : Value) = .slice (some ⟨z14_, 0, none⟩) 1 1) ∧ (b 15 = true → (m15_ : Value) = .slice A15_ (l.length + 1) c15_) ∧ (b 16 = true → (m16_ : Value) = .slice A15_ (l.length + 1) c15_)) HT_.out HW_.out (by kernel_rfl) (by kernel_rfl) ?_ ?_ ?_
            · exact ⟨0, none, 0, .bool false, .bool false, .bool false, by simp only [putSel, Bool.false_eq_true, if_false], HB.out, B0.out, fun _ => R0.out, fun h_ => absurd h_ (by decide), fun h_ => absurd h_ (by decide), fun h_ => absurd h_ (by decide), fun h_ => absurd h_ (by decide), fun h_ => absurd h_ (by decide)⟩
            · skip
              clear B0 HB R0
              refine steps_cons ?_ ?_
              · rintro b a w' ⟨z14_, A15_, c15_, m14_, m15_, m16_, ha, Q_HB, Q_B0, Q_R0, Q_R1, Q_Z14, Q_X14_, Q_X15_, Q_X16_⟩ hb_ hon hoff
                refine ⟨_, rfl, fun K hK => ?_⟩
                have e45 : a.tmps[45]? = some (.pointer (some ⟨g, 0, none⟩)) := by rw [ha]; exact (putSel_off rfl).trans rfl
                replace ha := Aside0.mk ha
                have HB := Aside0.mk Q_HB
                have B0 := Aside0.mk Q_B0
                have R0 := Aside0.mk (Q_R0 (hoff 15 (by kernel_rfl)))
                have hc_ : w'.cell? ⟨g, 0, none⟩ = some (.int .u32 nx) := (blk_cell B0.out 0).trans rfl
                refine value_ (w1 := w') (v := .int .u32 nx) (by rfl) rfl ?_ ?_
                · go_simp
                  (try simp only [i64_w])
                  try rfl
                refine hK.out _ _ ⟨z14_, A15_, c15_, m14_, m15_, m16_, (by rw [ha.out]; exact putSel_upk 0 hb_ rfl rfl rfl), Q_HB, Q_B0, Q_R0, fun h0_ => absurd ((hoff 15 (by kernel_rfl)).symm.trans h0_) (by decide), fun h0_ _ => absurd ((hoff 14 (by kernel_rfl)).symm.trans h0_) (by decide), fun h0_ => absurd ((hoff 14 (by kernel_rfl)).symm.trans h0_) (by decide), fun h0_ => absurd ((hoff 15 (by kernel_rfl)).symm.trans h0_) (by decide), fun h0_ => absurd ((hoff 16 (by kernel_rfl)).symm.trans h0_) (by decide)⟩
              refine steps_cons ?_ ?_
              · rintro b a w' ⟨z14_, A15_, c15_, m14_, m15_, m16_, ha, Q_HB, Q_B0, Q_R0, Q_R1, Q_Z14, Q_X14_, Q_X15_, Q_X16_⟩ hb_ hon hoff
                refine ⟨_, rfl, fun K hK => ?_⟩
                have e46 : a.tmps[46]? = some (.int .u32 nx) := by rw [ha]; exact putSel_on (e := (4, 46, .int .u32 nx)) 0 rfl rfl (hon 4 (by kernel_rfl)) rfl
                have e47 : a.tmps[47]? = some (.int .i64 (k : Int)) := by rw [ha]; exact (putSel_off rfl).trans rfl
                replace ha := Aside0.mk ha
                have HB := Aside0.mk Q_HB
                have B0 := Aside0.mk Q_B0
                have R0 := Aside0.mk (Q_R0 (hoff 15 (by kernel_rfl)))
                refine goes_ Try.func36 (by kernel_rfl) rfl #[.int .u32 nx, .int .i64 (k : Int)] (by rfl) rfl rfl (by first | (simp only [List.map_toArray, List.map_cons, List.map_nil, Act.eval, Array.getD_eq_getD_getElem?, Option.getD_some, e46, e47]; done) | (simp only [List.map_toArray, List.map_cons, List.map_nil, Act.eval, Array.getD_eq_getD_getElem?, Option.getD_some, e46, e47]; rfl)) ?_
                with_reducible refine (seq_Add.calls nx (k : Int) _ _ HA1.out).mono ?_
                rintro e w1n ⟨rfl, ⟨ndn, rfl⟩⟩
                refine ⟨_, rfl, ?_⟩
                refine hK.out _ _ ⟨z14_, A15_, c15_, m14_, m15_, m16_, (by rw [ha.out]; exact putSel_upk 1 hb_ rfl rfl rfl), (pw_below_drewN HB.out _), B0.out, fun _ => (q_move R0.out (fun _ _ => rfl)), fun h0_ => absurd ((hoff 15 (by kernel_rfl)).symm.trans h0_) (by decide), fun h0_ _ => absurd ((hoff 14 (by kernel_rfl)).symm.trans h0_) (by decide), fun h0_ => absurd ((hoff 14 (by kernel_rfl)).symm.trans h0_) (by decide), fun h0_ => absurd ((hoff 15 (by kernel_rfl)).symm.trans h0_) (by decide), fun h0_ => absurd ((hoff 16 (by kernel_rfl)).symm.trans h0_) (by decide)⟩
              refine steps_cons ?_ ?_
              · rintro b a w' ⟨z14_, A15_, c15_, m14_, m15_, m16_, ha, Q_HB, Q_B0, Q_R0, Q_R1, Q_Z14, Q_X14_, Q_X15_, Q_X16_⟩ hb_ hon hoff
                refine ⟨_, rfl, fun K hK => ?_⟩
                have e51 : a.tmps[51]? = some (.pointer (some ⟨g, 0, none⟩)) := by rw [ha]; exact (putSel_off rfl).trans rfl
                replace ha := Aside0.mk ha
                have HB := Aside0.mk Q_HB
                have B0 := Aside0.mk Q_B0
                have R0 := Aside0.mk (Q_R0 (hoff 15 (by kernel_rfl)))
                have hc_ : w'.cell? ⟨g, 0, none⟩ = some (.int .u32 nx) := (blk_cell B0.out 0).trans rfl
                refine value_ (w1 := w') (v := .int .u32 nx) (by rfl) rfl ?_ ?_
                · go_simp
                  (try simp only [i64_w])
                  try rfl
                refine hK.out _ _ ⟨z14_, A15_, c15_, m14_, m15_, m16_, (by rw [ha.out]; exact putSel_upk 2 hb_ rfl rfl rfl), Q_HB, Q_B0, Q_R0, fun h0_ => absurd ((hoff 15 (by kernel_rfl)).symm.trans h0_) (by decide), fun h0_ _ => absurd ((hoff 14 (by kernel_rfl)).symm.trans h0_) (by decide), fun h0_ => absurd ((hoff 14 (by kernel_rfl)).symm.trans h0_) (by decide), fun h0_ => absurd ((hoff 15 (by kernel_rfl)).symm.trans h0_) (by decide), fun h0_ => absurd ((hoff 16 (by kernel_rfl)).symm.trans h0_) (by decide)⟩
              refine steps_cons ?_ ?_
              · rintro b a w' ⟨z14_, A15_, c15_, m14_, m15_, m16_, ha, Q_HB, Q_B0, Q_R0, Q_R1, Q_Z14, Q_X14_, Q_X15_, Q_X16_⟩ hb_ hon hoff
                refine ⟨_, rfl, fun K hK => ?_⟩
                have e52 : a.tmps[52]? = some (.int .u32 nx) := by rw [ha]; exact putSel_on (e := (10, 52, .int .u32 nx)) 2 rfl rfl (hon 10 (by kernel_rfl)) rfl
                have e53 : a.tmps[53]? = some (.int .i64 (j : Int)) := by rw [ha]; exact (putSel_off rfl).trans rfl
                replace ha := Aside0.mk ha
                have HB := Aside0.mk Q_HB
                have B0 := Aside0.mk Q_B0
                have R0 := Aside0.mk (Q_R0 (hoff 15 (by kernel_rfl)))
                refine goes_ Try.func36 (by kernel_rfl) rfl #[.int .u32 nx, .int .i64 (j : Int)] (by rfl) rfl rfl (by first | (simp only [List.map_toArray, List.map_cons, List.map_nil, Act.eval, Array.getD_eq_getD_getElem?, Option.getD_some, e52, e53]; done) | (simp only [List.map_toArray, List.map_cons, List.map_nil, Act.eval, Array.getD_eq_getD_getElem?, Option.getD_some, e52, e53]; rfl)) ?_
                with_reducible refine (seq_Add.calls nx (j : Int) _ _ HA2.out).mono ?_
                rintro e w1n ⟨rfl, ⟨ndn, rfl⟩⟩
                refine ⟨_, rfl, ?_⟩
                refine hK.out _ _ ⟨z14_, A15_, c15_, m14_, m15_, m16_, (by rw [ha.out]; exact putSel_upk 3 hb_ rfl rfl rfl), (pw_below_drewN HB.out _), B0.out, fun _ => (q_move R0.out (fun _ _ => rfl)), fun h0_ => absurd ((hoff 15 (by kernel_rfl)).symm.trans h0_) (by decide), fun h0_ _ => absurd ((hoff 14 (by kernel_rfl)).symm.trans h0_) (by decide), fun h0_ => absurd ((hoff 14 (by kernel_rfl)).symm.trans h0_) (by decide), fun h0_ => absurd ((hoff 15 (by kernel_rfl)).symm.trans h0_) (by decide), fun h0_ => absurd ((hoff 16 (by kernel_rfl)).symm.trans h0_) (by decide)⟩
              refine steps_cons ?_ ?_
              · rintro b a w' ⟨z14_, A15_, c15_, m14_, m15_, m16_, ha, Q_HB, Q_B0, Q_R0, Q_R1, Q_Z14, Q_X14_, Q_X15_, Q_X16_⟩ hb_ hon hoff
                refine ⟨_, rfl, fun K hK => ?_⟩
                have e48 : a.tmps[48]? = some (.int .u32 ((nx + (k : Int)) % 4294967296)) := by rw [ha]; exact putSel_on (e := (6, 48, .int .u32 ((nx + (k : Int)) % 4294967296))) 1 rfl rfl (hon 6 (by kernel_rfl)) rfl
                have e54 : a.tmps[54]? = some (.int .u32 ((nx + (j : Int)) % 4294967296)) := by rw [ha]; exact putSel_on (e := (12, 54, .int .u32 ((nx + (j : Int)) % 4294967296))) 3 rfl rfl (hon 12 (by kernel_rfl)) rfl
                replace ha := Aside0.mk ha
                have HB := Aside0.mk Q_HB
                have B0 := Aside0.mk Q_B0
                have R0 := Aside0.mk (Q_R0 (hoff 15 (by kernel_rfl)))
                refine value_ (w1 := w') (v := .agg #[.int .u32 ((nx + (k : Int)) % 4294967296), .int .u32 ((nx + (j : Int)) % 4294967296)]) (by rfl) rfl ?_ ?_
                · go_simp
                  (try simp only [i64_w])
                  try rfl
                refine hK.out _ _ ⟨z14_, A15_, c15_, m14_, m15_, m16_, (by rw [ha.out]; exact putSel_upk 4 hb_ rfl rfl rfl), Q_HB, Q_B0, Q_R0, fun h0_ => absurd ((hoff 15 (by kernel_rfl)).symm.trans h0_) (by decide), fun h0_ _ => absurd ((hoff 14 (by kernel_rfl)).symm.trans h0_) (by decide), fun h0_ => absurd ((hoff 14 (by kernel_rfl)).symm.trans h0_) (by decide), fun h0_ => absurd ((hoff 15 (by kernel_rfl)).symm.trans h0_) (by decide), fun h0_ => absurd ((hoff 16 (by kernel_rfl)).symm.trans h0_) (by decide)⟩
              refine steps_cons ?_ ?_
              · rintro b a w' ⟨z14_, A15_, c15_, m14_, m15_, m16_, ha, Q_HB, Q_B0, Q_R0, Q_R1, Q_Z14, Q_X14_, Q_X15_, Q_X16_⟩ hb_ hon hoff
                refine ⟨_, rfl, fun K hK => ?_⟩
                have e55 : a.tmps[55]? = some (.agg #[.int .u32 ((nx + (k : Int)) % 4294967296), .int .u32 ((nx + (j : Int)) % 4294967296)]) := by rw [ha]; exact putSel_on (e := (13, 55, .agg #[.int .u32 ((nx + (k : Int)) % 4294967296), .int .u32 ((nx + (j : Int)) % 4294967296)])) 4 rfl rfl (hon 13 (by kernel_rfl)) rfl
                replace ha := Aside0.mk ha
                have HB := Aside0.mk Q_HB
                have B0 := Aside0.mk Q_B0
                have R0 := Aside0.mk (Q_R0 (hoff 15 (by kernel_rfl)))
                refine value_ (w1 := w'.alloc (.cells #[.int .u32 ((nx + (k : Int)) % 4294967296), .int .u32 ((nx + (j : Int)) % 4294967296)] 74)) (v := .slice (some ⟨w'.heap.size, 0, none⟩) 1 1) (by rfl) rfl ?_ ?_
                · go_simp
                  (try rfl)
                refine hK.out _ _ ⟨w'.heap.size, A15_, c15_, (.slice (some ⟨w'.heap.size, 0, none⟩) 1 1), m15_, m16_, (by rw [ha.out]; exact putSel_upk 5 hb_ rfl rfl rfl), (below_alloc HB.out _), (blk_alloc B0.out _), fun _ => (q_al R0.out _), fun h0_ => absurd ((hoff 15 (by kernel_rfl)).symm.trans h0_) (by decide), fun _ _ => (heap_alloc_new w' _), fun _ => rfl, fun h0_ => absurd ((hoff 15 (by kernel_rfl)).symm.trans h0_) (by decide), fun h0_ => absurd ((hoff 16 (by kernel_rfl)).symm.trans h0_) (by decide)⟩
              refine steps_cons ?_ ?_
              · rintro b a w' ⟨z14_, A15_, c15_, m14_, m15_, m16_, ha, Q_HB, Q_B0, Q_R0, Q_R1, Q_Z14, Q_X14_, Q_X15_, Q_X16_⟩ hb_ hon hoff
                refine ⟨_, rfl, fun K hK => ?_⟩
                have e42 : a.tmps[42]? = some (u3) := by rw [ha]; exact (putSel_off rfl).trans rfl
                have e56 : a.tmps[56]? = some (m14_) := by rw [ha]; exact putSel_on (e := (14, 56, m14_)) 5 rfl rfl (hon 14 (by kernel_rfl)) rfl
                rw [Q_X14_ (hon 14 (by kernel_rfl))] at e56
                replace ha := Aside0.mk ha
                have HB := Aside0.mk Q_HB
                have B0 := Aside0.mk Q_B0
                have R0 := Aside0.mk (Q_R0 hb_)
                have Z14 := Aside0.mk (Q_Z14 (hon 14 (by kernel_rfl)) hb_)
                obtain ⟨A15n, c15n, w1n, hrn, hq1n, hbn, hfn⟩ := grow74 R0.out HB.out Z14.out hl6
                refine value_ (w1 := w1n) (v := .slice A15n (l.length + 1) c15n) (by rfl) rfl (exec_append rfl (eval_of e42) (eval_of e56) hrn) ?_
                refine hK.out _ _ ⟨z14_, A15n, c15n, m14_, (.slice A15n (l.length + 1) c15n), m16_, (by rw [ha.out]; exact putSel_upk 6 hb_ rfl rfl rfl), hbn, (hfn _ _ _ B0.out (by decide)), fun h0_ => absurd ((up_self b 15).symm.trans h0_) (by decide), fun _ => hq1n, fun _ h1_ => absurd ((up_self b 15).symm.trans h1_) (by decide), Q_X14_, fun _ => rfl, fun h0_ => absurd ((hoff 16 (by kernel_rfl)).symm.trans h0_) (by decide)⟩
              refine steps_cons ?_ ?_
              · rintro b a w' ⟨z14_, A15_, c15_, m14_, m15_, m16_, ha, Q_HB, Q_B0, Q_R0, Q_R1, Q_Z14, Q_X14_, Q_X15_, Q_X16_⟩ hb_ hon hoff
                refine ⟨_, rfl, fun K hK => ?_⟩
                have e57 : a.tmps[57]? = some (m15_) := by rw [ha]; exact putSel_on (e := (15, 57, m15_)) 6 rfl rfl (hon 15 (by kernel_rfl)) rfl
                rw [Q_X15_ (hon 15 (by kernel_rfl))] at e57
                replace ha := Aside0.mk ha
                have HB := Aside0.mk Q_HB
                have B0 := Aside0.mk Q_B0
                have R1 := Aside0.mk (Q_R1 (hon 15 (by kernel_rfl)))
                refine value_ (w1 := w') (v := .slice A15_ (l.length + 1) c15_) (by rfl) rfl ?_ ?_
                · go_simp
                  (try simp only [i64_w])
                  try rfl
                refine hK.out _ _ ⟨z14_, A15_, c15_, m14_, m15_, (.slice A15_ (l.length + 1) c15_), (by rw [ha.out]; exact putSel_upk 7 hb_ rfl rfl rfl), Q_HB, Q_B0, fun h0_ => absurd ((hon 15 (by kernel_rfl)).symm.trans h0_) (by decide), Q_R1, fun _ h1_ => absurd ((hon 15 (by kernel_rfl)).symm.trans h1_) (by decide), Q_X14_, Q_X15_, fun _ => rfl⟩
              exact steps_nil
            rintro b a wE hall ⟨z14_, A15_, c15_, m14_, m15_, m16_, ha, Q_HB, Q_B0, Q_R0, Q_R1, Q_Z14, Q_X14_, Q_X15_, Q_X16_⟩
            clear B0 HB R0
            have hb4_ := hall 4 (by kernel_rfl)
            have hb6_ := hall 6 (by kernel_rfl)
            have hb10_ := hall 10 (by kernel_rfl)
            have hb12_ := hall 12 (by kernel_rfl)
            have hb13_ := hall 13 (by kernel_rfl)
            have hb14_ := hall 14 (by kernel_rfl)
            have hb15_ := hall 15 (by kernel_rfl)
            have hb16_ := hall 16 (by kernel_rfl)
            subst ha
            obtain rfl := Q_X14_ hb14_
            obtain rfl := Q_X15_ hb15_
            obtain rfl := Q_X16_ hb16_
            simp only [putSel, hb4_, hb6_, hb10_, hb12_, hb13_, hb14_, hb15_, hb16_, if_true, Act.put, List.setIfInBounds_toArray, List.set_cons_zero, List.set_cons_succ]
            have HB := Aside0.mk Q_HB
            clear Q_HB
            have B0 := Aside0.mk Q_B0
            clear Q_B0
            clear Q_R0
            have R1 := Aside0.mk (Q_R1 hb15_)
            clear Q_R1
            clear Q_Z14
            clear hall hb4_ hb6_ hb10_ hb12_ hb13_ hb14_ hb15_ hb16_
            go_wp2
            go_roundg (n - lead (th.drop k))
            case measure => omega
            case rel =>
              have h6 := HJ.out
              have h7 : lead (th.drop k) ≤ n := by omega
              refine ⟨j + 1, l ++ [⟨(nx + (k : Int)) % 4294967296, (nx + (j : Int)) % 4294967296⟩], by omega, rfl, ?_, by simp; omega, ?_, HB.out⟩
              · have h3 := HPB.out
                rw [pbl, if_pos hlt, HBV.out, if_pos rfl, h6] at h3
                rw [List.append_assoc, List.singleton_append, pbl_fuel nx th n (n - lead (th.drop k)) (j + 1) (by omega) (by omega)]
                exact h3
              · rw [List.length_append]; exact R1.out
    · go_wp2
      go_ret
      refine ⟨u3, rfl, ?_, HB.out⟩
      have h3 := HPB.out
      have h4 : pbl nx th gk k = [] := by
        cases gk with
        | zero => rfl
        | succ m => rw [pbl, if_neg hlt]
      rw [h4, List.append_nil] at h3
      rw [← h3]
      exact HROW.out
end Go.Proofs.Ytcllcjflgeiehaa.PRecvPlays
