/- Proved: the law CastPlays returns true at every input. -/
import Derived.Test.YtcllcjflgeiehaaBCastW
import Derived.Deep.DeepCutAuto
import Derived.BigRegion
namespace Go.Proofs.Ytcllcjflgeiehaa.PCastPlays
open Go.RowKit Go.Proofs.YtcllcjflgeiehaaW.PrintWords Go.Proofs.YtcllcjflgeiehaaW.PrintLast Go.Proofs.YtcllcjflgeiehaaW.PrintMore
set_option linter.unusedVariables false
set_option linter.unusedSimpArgs false
def law.T17 : Bool × List (List Nat × List Nat) := (true, [([], []), ([0], [0]), ([], []), ([2], [2]), ([1, 3], [1, 3]), ([4, 3, 0, 1, 2, 3, 4], [4])])
def law.B17 : List Nat := [0, 1, 0, 4, 15, 31]
theorem law.tab17 : rtab .any (opsOf Try.f4 17) = law.T17 := by kernel_rfl
theorem law.bits17 : waitsOk law.T17.2 law.B17 = true := by kernel_rfl
def law.T42 : Bool × List (List Nat × List Nat) := (true, [([], []), ([], []), ([0, 1], [0, 1]), ([2], [2]), ([3], [3]), ([4, 3, 3], [3, 4]), ([3], [3]), ([6, 5, 3], [3, 6]), ([5, 7, 3], [3, 5, 7]), ([3, 8], [3, 8])])
def law.B42 : List Nat := [0, 0, 3, 7, 15, 31, 15, 127, 255, 511]
theorem law.tab42 : rtab .any (opsOf Try.f4 42) = law.T42 := by kernel_rfl
theorem law.bits42 : waitsOk law.T42.2 law.B42 = true := by kernel_rfl
set_option maxHeartbeats 8000000 in
set_option maxRecDepth 100000 in
theorem law (id : Int) (ks : List Int) (ns : List S56) (ts : List Int) (Ak An At : Option Addr) (ck cn ct : Nat) (w : World) (hK : Kd.C (Kd.int .i64) w Ak ks.length ks) (hN : Kd.C k56 w An ns.length ns) (hT : Kd.C (Kd.int .i64) w At ts.length ts) :
    Calls Try.prog 4 #[.int .i64 id, .slice Ak ks.length ck, .slice An ns.length cn, .slice At ts.length ct] w fun e w' => e = .returned (.bool true) ∧ Below w.heap.size w w' := by
  have HK := Aside0.mk hK
  have HN := Aside0.mk hN
  have HT := Aside0.mk hT
  clear hK hN hT
  by_cases hid : 0 ≤ id ∧ id ≤ 15
  · have HI := Aside0.mk (show patchbayref3_In.f id 0 15 = some true from by rw [in_v]; congr 1; exact decide_eq_true hid)
    go_enter Try.func4, Try.ntmps4
    go_upto_region 9 with (first | (go_at_call 22; (with_reducible refine (fact_true _).mono ?_); rintro e' w1 ⟨rfl, hb1⟩; have HB1 := Aside0.mk hb1; clear hb1) | (go_at_call 23; (with_reducible refine (new_yes id _ hid).mono ?_); rintro e' w2 ⟨g, rfl, hm, hb⟩; have HM := Aside0.mk hm; have HB2 := Aside0.mk hb; clear hm hb) | (go_at_call 7; (with_reducible refine (patchbayref3_In.calls id 0 15 true _ HI.out).mono ?_); rintro e' w3 ⟨rfl, hd3⟩; have HD3 := Aside0.mk hd3; clear hd3))
    go_wp2
    go_loopg [12] 30 (fun n i wr => LRel w1 g w3.heap.size id n i wr)
    case atStart =>
      have hb3 := HB2.out.trans (HD3.out.below.mono HB2.out.size)
      have hm3 := HM.out.below HD3.out.below
      refine ⟨0, rfl, rfl, [], [], 0, 0, 0, .slice none 0 0, .slice none 0 0, .slice none 0 0, .slice none 0 0, .slice none 0 0, .slice none 0 0, ⟨hm3.below (below_alloc (Below.refl _ _) _), heap_alloc_new _ _, hb3.size, rws_nil _ _ _ _ _ _, hb3.alloc hb3.size _⟩, ⟨rfl, by simp, fun j hj => by simp at hj⟩, Nat.le_refl _⟩
    case round =>
      obtain ⟨k, rfl, hkn, hag⟩ := hrel
      obtain ⟨its, rp, he, now, r, v1, v2, v3, v4, v5, v6, hs, hsim, hrl⟩ := hag
      have HKN := Aside0.mk hkn
      have HSIM := Aside0.mk hsim
      have HS := Aside0.mk hs
      have HBW := Aside0.mk (HB1.out.trans (hs.below.mono HB1.out.size))
      have hk30 : k ≤ 30 := by omega
      have HRL := Aside0.mk hrl
      clear hkn hsim hs hrl
      by_cases hkk : k < ks.length
      · have d1 : decide ((k : Int) < (ks.length : Int)) = true := decide_eq_true (by omega)
        by_cases hkm : k < ns.length
        · have d2 : decide ((k : Int) < (ns.length : Int)) = true := decide_eq_true (by omega)
          by_cases hkt : k < ts.length
          · have d3 : decide ((k : Int) < (ts.length : Int)) = true := decide_eq_true (by omega)
            by_cases hk : k < 30
            · have d4 : decide ((k : Int) < 30) = true := decide_eq_true (by omega)
              obtain ⟨adk, ek, ck1⟩ := Kd.at_int (Kd.C_below HK.out HBW.out) (k : Int) (by omega) (by omega)
              obtain ⟨adn, en, m0, m1, m2, m3⟩ := at_T56 (Kd.C_below HN.out HBW.out) (k : Int) (by omega) (by omega)
              obtain ⟨adt, et, ct1⟩ := Kd.at_int (Kd.C_below HT.out HBW.out) (k : Int) (by omega) (by omega)
              subst ek en et
              rw [Int.toNat_natCast] at ck1 m0 m1 m2 m3 ct1
              obtain ⟨nt, hnt⟩ : ∃ x, rd_T56 ns k = x := ⟨_, rfl⟩
              obtain ⟨t, ht⟩ : ∃ x, rd ts k = x := ⟨_, rfl⟩
              obtain ⟨kd, hkd⟩ : ∃ x, rd ks k = x := ⟨_, rfl⟩
              rw [hnt] at m0 m1 m2 m3
              rw [ht] at ct1
              rw [hkd] at ck1
              obtain ⟨nk, nf, nn, s⟩ := nt
              simp only at m0 m1 m2 m3
              have HCK := Aside0.mk (show ∀ W, Below w.heap.size w W → W.cell? (adk.add k) = some (.int .i64 kd) from fun W hW => by
                obtain ⟨ad', e', c'⟩ := Kd.at_int (Kd.C_below HK.out hW) (k : Int) (by omega) (by omega)
                injection e' with e'
                subst e'
                rw [Int.toNat_natCast, hkd] at c'
                exact c')
              clear hnt ht hkd ck1
              go_upto_region 12 with fail
              go_region_held3 (fun w' => w'.cell? (adn.add (k * 4)) = some (.int .i64 nk) ∧ w'.cell? ⟨(adn.add (k * 4)).block, (adn.add (k * 4)).off + 1, none⟩ = some (.int .i64 nf) ∧ w'.cell? ⟨(adn.add (k * 4)).block, (adn.add (k * 4)).off + 2, none⟩ = some (.int .i64 nn) ∧ w'.cell? ⟨(adn.add (k * 4)).block, (adn.add (k * 4)).off + 3, none⟩ = some (.string s) ∧ w'.cell? (adt.add k) = some (.int .i64 t)) (go_keep) (fail)
              go_upto_region 13 with fail
              have hb4 : Below wr.heap.size wr (wr.alloc (.cells #[.int .i64 nk, .int .i64 nf, .int .i64 nn, .string s] 56)).drew := below_drew (below_alloc (Below.refl _ _) _)
              have hs := HS.out.on hb4
              have hnb : (wr.alloc (.cells #[.int .i64 nk, .int .i64 nf, .int .i64 nn, .string s] 56)).drew.heap[wr.heap.size]? = some (.cells #[.int .i64 nk, .int .i64 nf, .int .i64 nn, .string s] 56 (0, 0)) := heap_alloc_new wr _
              have HBW4 := Aside0.mk (HBW.out.trans (hb4.mono HBW.out.size))
              have ck4 := HCK.out _ HBW4.out
              clear hb4 HS m0 m1 m2 m3 ct1
              obtain ⟨zn, hzn⟩ : ∃ q, wr.heap.size = q := ⟨_, rfl⟩
              rw [hzn] at hnb ⊢
              generalize (wr.alloc (.cells #[.int .i64 nk, .int .i64 nf, .int .i64 nn, .string s] 56)).drew = w4 at hs hnb HBW4 ck4 ⊢
              have HS := Aside0.mk hs
              have HNB := Aside0.mk hnb
              clear hs hnb hzn
              obtain ⟨n9, rfl⟩ : ∃ q, gk = q + 1 := ⟨gk - 1, by have := HKN.out; omega⟩
              go_upto_block 2 with fail
              go_cut [10, 15] (fun v10 v15 wx => AfterSwitch w1 g w3.heap.size id v10 v15 wx)
              case first =>
                have n0 := (blk_cell HNB.out 0).trans rfl
                have n1 := (blk_cell HNB.out 1).trans rfl
                have n2 := (blk_cell HNB.out 2).trans rfl
                have n3 := (blk_cell HNB.out 3).trans rfl
                by_cases k0 : kd = 0
                · subst k0
                  go_wp2_with (first | ((with_reducible refine gate_ (.load 54 (.tmp 11)) rfl ?_); refine load54 rfl (.tmp 11) rfl w3.heap.size rfl _ HS.out.box rfl ?_) | (go_at_call 24; (with_reducible refine (say_ok (s := s) HS.out.rows HS.out.below HSIM.out hid).mono ?_); rintro e' w5 ⟨u1, u2, u3, u4, u5, u6, rp', rfl, hc⟩; have HC := Aside0.mk hc; have hnb := HNB.out; replace HNB := Aside0.mk (hc.2.2.2.2 _ _ _ hnb (by decide) (by decide) (by decide)); clear hnb hc; clear n0 n1 n2 n3; have n0 := (blk_cell HNB.out 0).trans rfl; have n1 := (blk_cell HNB.out 1).trans rfl; have n2 := (blk_cell HNB.out 2).trans rfl; have n3 := (blk_cell HNB.out 3).trans rfl) | ((with_reducible refine gate_store (t := 54) (p := 11) rfl ?_); refine store54 rfl rfl (.tmp 11) _ rfl w3.heap.size rfl _ _ rfl (HS.out.ccall HC.out.2.2.2).2 rfl rfl (cb_one HC.out.1) ?_; intro w6 hp; have hs := HS.out.store HC.out.2.2.2 HC.out.2.2.1 HC.out.1 hp; have hnb := HNB.out; replace HNB := Aside0.mk ((hp.far _ (z4_ne (HS.out.ccall HC.out.2.2.2).2 hnb)).trans hnb); clear hnb hp HS; have HS := Aside0.mk hs; clear hs; clear n0 n1 n2 n3; have n0 := (blk_cell HNB.out 0).trans rfl; have n1 := (blk_cell HNB.out 1).trans rfl; have n2 := (blk_cell HNB.out 2).trans rfl; have n3 := (blk_cell HNB.out 3).trans rfl) | (go_at_call 25; (with_reducible refine (say_calls (s := s) HS.out.mem HS.out.below HSIM.out.le).mono ?_); rintro e' w7 ⟨rfl, hm, hb7, hk7⟩; have hs := HS.out.mcall (r' := r) hm hb7 hk7; clear hm hb7 hk7 HS; have HS := Aside0.mk hs; clear hs))
                  go_meet
                  exact ⟨_, rfl, rfl, _, rp', he, now, r, u1, u2, u3, u4, u5, u6, HS.out, HC.out.2.1, Nat.le_trans HRL.out (mSay_len id its s)⟩
                · have q0 : (kd == 0) = false := by simpa using k0
                  by_cases k1 : kd = 1
                  · subst k1
                    go_wp2_with (first | ((with_reducible refine gate_ (.load 54 (.tmp 11)) rfl ?_); refine load54 rfl (.tmp 11) rfl w3.heap.size rfl _ HS.out.box rfl ?_) | (go_at_call 26; (with_reducible refine (in_ok (k := nk) (f := nf) (n := nn) (s := s) (t := t) HS.out.rows HS.out.below HSIM.out hid).mono ?_); rintro e' w5 ⟨u1, u2, u3, u4, u5, u6, rp', rfl, hc⟩; have HC := Aside0.mk hc; have hnb := HNB.out; replace HNB := Aside0.mk (hc.2.2.2.2 _ _ _ hnb (by decide) (by decide) (by decide)); clear hnb hc; clear n0 n1 n2 n3; have n0 := (blk_cell HNB.out 0).trans rfl; have n1 := (blk_cell HNB.out 1).trans rfl; have n2 := (blk_cell HNB.out 2).trans rfl; have n3 := (blk_cell HNB.out 3).trans rfl) | ((with_reducible refine gate_store (t := 54) (p := 11) rfl ?_); refine store54 rfl rfl (.tmp 11) _ rfl w3.heap.size rfl _ _ rfl (HS.out.ccall HC.out.2.2.2).2 rfl rfl (cb_one HC.out.1) ?_; intro w6 hp; have hs := HS.out.store HC.out.2.2.2 HC.out.2.2.1 HC.out.1 hp; have hnb := HNB.out; replace HNB := Aside0.mk ((hp.far _ (z4_ne (HS.out.ccall HC.out.2.2.2).2 hnb)).trans hnb); clear hnb hp HS; have HS := Aside0.mk hs; clear hs; clear n0 n1 n2 n3; have n0 := (blk_cell HNB.out 0).trans rfl; have n1 := (blk_cell HNB.out 1).trans rfl; have n2 := (blk_cell HNB.out 2).trans rfl; have n3 := (blk_cell HNB.out 3).trans rfl) | (go_at_call 27; (with_reducible refine (in_calls (k := nk) (f := nf) (n := nn) (s := s) (t := t) HS.out.mem HS.out.below HSIM.out.le hid).mono ?_); rintro e' w7 ⟨rfl, hm, hb7, hk7⟩; have hs := HS.out.mcall (r' := r) hm hb7 hk7; clear hm hb7 hk7 HS; have HS := Aside0.mk hs; clear hs))
                    go_meet
                    exact ⟨_, rfl, rfl, _, rp', he, _, r, u1, u2, u3, u4, u5, u6, HS.out, HC.out.2.1, Nat.le_trans HRL.out (mIn_len id its now nk nf nn s t)⟩
                  · have q1 : (kd == 1) = false := by simpa using k1
                    by_cases k2 : kd = 2
                    · subst k2
                      obtain ⟨ro, hro⟩ : ∃ q : OutR, mOut id its he now t = q := ⟨_, rfl⟩
                      have hol := mOut_len id its he now t
                      rw [hro] at hol
                      obtain ⟨its2, he2, now2, outl, er2⟩ := ro
                      have HRO := Aside0.mk hro
                      simp only at hol
                      have hl6 : outl.length ≤ 65 := by have := HSIM.out.le; omega
                      have HOL := Aside0.mk hol
                      clear hro hol
                      go_upto_region 34 with (first | ((with_reducible refine gate_ (.load 54 (.tmp 11)) rfl ?_); refine load54 rfl (.tmp 11) rfl w3.heap.size rfl _ HS.out.box rfl ?_) | (go_at_call 28; (with_reducible refine (out_ok2 (t := t) HS.out.rows HS.out.below HSIM.out).mono ?_); rintro e' w5 ⟨u1, u2, u3, u4, u5, u6, v10, he5, hnr, hc⟩; rw [HRO.out] at he5 hnr hc; simp only at he5 hnr hc; subst he5; obtain ⟨Aq, kq, rfl⟩ := Kd.R_slice hnr; have HNR := Aside0.mk hnr; clear hnr; have HC := Aside0.mk hc; have hnb := HNB.out; replace HNB := Aside0.mk (hc.2.2.2.2 _ _ _ hnb (by decide) (by decide) (by decide)); clear hnb hc; clear n0 n1 n2 n3; have n0 := (blk_cell HNB.out 0).trans rfl; have n1 := (blk_cell HNB.out 1).trans rfl; have n2 := (blk_cell HNB.out 2).trans rfl; have n3 := (blk_cell HNB.out 3).trans rfl) | ((with_reducible refine gate_store (t := 54) (p := 11) rfl ?_); refine store54 rfl rfl (.tmp 11) _ rfl w3.heap.size rfl _ _ rfl (HS.out.ccall HC.out.2.2.2).2 rfl rfl (cb_one HC.out.1) ?_; intro w6 hp; have hs := HS.out.store HC.out.2.2.2 HC.out.2.2.1 HC.out.1 hp; have hnb := HNB.out; replace HNB := Aside0.mk ((hp.far _ (z4_ne (HS.out.ccall HC.out.2.2.2).2 hnb)).trans hnb); have hnr := HNR.out; replace HNR := Aside0.mk (nrow_put hp (HS.out.ccall HC.out.2.2.2).2 hnr); clear hnr; clear hnb hp HS; have HS := Aside0.mk hs; clear hs; clear n0 n1 n2 n3; have n0 := (blk_cell HNB.out 0).trans rfl; have n1 := (blk_cell HNB.out 1).trans rfl; have n2 := (blk_cell HNB.out 2).trans rfl; have n3 := (blk_cell HNB.out 3).trans rfl) | (go_at_call 29; (with_reducible refine (out_calls (t := t) HS.out.mem HS.out.below HSIM.out.le hid).mono ?_); rintro e' w7 ⟨vv, he7, hn7, hm, hb7, hk7⟩; have hs := HS.out.mcall (r' := r) hm hb7 hk7; rw [HRO.out] at he7 hn7 hs; simp only at he7 hn7 hs; subst he7; obtain ⟨Av, kv, rfl⟩ := Kd.R_slice hn7; have HNV := Aside0.mk hn7; have hnr := HNR.out; replace HNR := Aside0.mk (nrow_keep hk7 hnr); clear hnr hn7; clear hm hb7 hk7 HS; have HS := Aside0.mk hs; clear hs))
                      have dl : ((outl.length : Int) != (outl.length : Int)) = false := by simp
                      go_upto_block 3 with fail
                      have HCQ := Aside0.mk (Kd.R_reads' HNR.out).2.2
                      have HCV := Aside0.mk (Kd.R_reads' HNV.out).2.2
                      go_wp2
                      go_loopg [19] outl.length (fun n i wl => CmpRel w1 g w3.heap.size id its2 he2 now2 r (RefOf id its2 rp he2 now2 (r : Int)) u1 u2 u3 u4 u5 u6 Aq Av outl n i wl)
                      case atStart => exact ⟨0, rfl, by omega, HS.out, HCQ.out, HCV.out⟩
                      case round =>
                        obtain ⟨q, rfl, hqn, hls, hcq, hcv⟩ := hrel
                        have HLS := Aside0.mk hls
                        have HQ := Aside0.mk hcq
                        have HV := Aside0.mk hcv
                        have HQN := Aside0.mk hqn
                        clear hls hcq hcv hqn
                        by_cases hql : q < outl.length
                        · have dq : decide (q < outl.length) = true := decide_eq_true hql
                          obtain ⟨nq9, rfl⟩ : ∃ x, gk = x + 1 := ⟨gk - 1, by have := HQN.out; omega⟩
                          obtain ⟨ad1, e1, m0, m1, m2, m3⟩ := at_T56 HQ.out (q : Int) (by omega) (by omega)
                          obtain ⟨ad2, e2, p0, p1, p2, p3⟩ := at_T56 HV.out (q : Int) (by omega) (by omega)
                          subst e1 e2
                          rw [Int.toNat_natCast] at m0 m1 m2 m3 p0 p1 p2 p3
                          obtain ⟨x, hx⟩ : ∃ x, rd_T56 outl q = x := ⟨_, rfl⟩
                          rw [hx] at m0 m1 m2 m3 p0 p1 p2 p3
                          clear hx
                          go_upto_region 40 with fail
                          go_quiet (fail)
                          go_wp2
                          go_roundg nq9
                          case measure => omega
                          case rel =>
                            have hqn := HQN.out
                            exact ⟨q + 1, by go_num, by omega, HLS.out.on (pw_below_drewN (Below.refl _ _) _), Kd.C_below HQ.out (pw_below_drewN (Below.refl _ _) _), Kd.C_below HV.out (pw_below_drewN (Below.refl _ _) _)⟩
                        · have dq : decide (q < outl.length) = false := decide_eq_false hql
                          go_wp2
                          go_meet
                          exact ⟨_, rfl, rfl, its2, rp, he2, now2, r, u1, u2, u3, u4, u5, u6, HLS.out, HC.out.2.1, by rw [HOL.out.1]; exact HRL.out⟩
                    · have q2 : (kd == 2) = false := by simpa using k2
                      by_cases hr : r < mGot its
                      · have HR := Aside0.mk hr
                        have dr : decide (r < mGot its) = true := decide_eq_true hr
                        have hri : r < its.length := Nat.lt_of_lt_of_le hr (mGot_le its)
                        have hr64 : r < 64 := by have := HSIM.out.le; omega
                        clear hr
                        go_upto_region 17 with (go_at_call 30; (with_reducible refine (read_yes HS.out.mem HS.out.below HSIM.out.le HR.out).mono ?_); rintro e' w5 ⟨rfl, hm, hb5, hk5⟩; have hs := HS.out.mcall (r' := (r + 1)) hm hb5 hk5; clear hm hb5 hk5 HS; have HS := Aside0.mk hs; clear hs)
                        replace HS := Aside0.mk (HS.out.on (below_drew (Below.refl w5.heap.size w5)))
                        refine start_ (n := 6) (S := fun w' => True) (ds := []) #[false, false, false, false, false, false] (by kernel_rfl) rfl rfl trivial (fun hHeld => ?_); refine with_tabW law.tab17 law.bits17 (fun HT_ HW_ => ?_)
                        obtain ⟨wS, hwS⟩ : ∃ x, w5.drew = x := ⟨_, rfl⟩
                        rw [hwS] at HS ⊢
                        clear hwS
                        refine pure_ (i := 0) (N := some 87) (v := ?_) (a' := ?_) #[true, false, false, false, false, false] rfl rfl (any_of HT_.out (by kernel_rfl)) (fun _ _ _ h => h) (Or.inl ⟨by rfl, ?_⟩) ?_ ?_
                        rotate_left
                        · intro w'
                          go_simp
                          with_reducible rfl
                        rotate_left
                        · simp only [Act.put, List.setIfInBounds_toArray, List.set_cons_zero, List.set_cons_succ, i64_w, i32_w]
                          rfl
                        refine inv_at [1, 2, 3, 4, 5] (fun a0_ b a w' => a = putSel a0_ b [(1, 88, .int .i64 (r : Int)), (2, 89, .agg #[.int .i64 id, v1, v2, v3, v4, v5, v6, .int .i64 he, .int .i64 now, .int .i64 (r : Int)]), (3, 90, .int .i64 (mGot its : Int)), (4, 91, .bool true), (5, 23, .bool true)] ∧ (LS w1 w' g w3.heap.size id its he now (r + 1) (RefOf id its rp he now (r : Int)) v1 v2 v3 v4 v5 v6)) HT_.out HW_.out (by kernel_rfl) (by kernel_rfl) ?_ ?_ ?_
                        · exact ⟨by simp only [putSel, Bool.false_eq_true, if_false], HS.out⟩
                        · skip
                          clear HS
                          refine steps_cons ?_ ?_
                          · rintro b a w' ⟨ha, Q_HS⟩ hb_ hon hoff
                            refine ⟨_, rfl, fun K hK => ?_⟩
                            have e87 : a.tmps[87]? = some (.pointer (some ⟨w3.heap.size, 9, none⟩)) := by rw [ha]; exact (putSel_off rfl).trans rfl
                            replace ha := Aside0.mk ha
                            have HS := Aside0.mk Q_HS
                            have hz0_ : w'.cell? ⟨w3.heap.size, 0, none⟩ = some (.int .i64 id) := (blk_cell HS.out.box 0).trans rfl
                            have hz1_ : w'.cell? ⟨w3.heap.size, 1, none⟩ = some (v1) := (blk_cell HS.out.box 1).trans rfl
                            have hz2_ : w'.cell? ⟨w3.heap.size, 2, none⟩ = some (v2) := (blk_cell HS.out.box 2).trans rfl
                            have hz3_ : w'.cell? ⟨w3.heap.size, 3, none⟩ = some (v3) := (blk_cell HS.out.box 3).trans rfl
                            have hz4_ : w'.cell? ⟨w3.heap.size, 4, none⟩ = some (v4) := (blk_cell HS.out.box 4).trans rfl
                            have hz5_ : w'.cell? ⟨w3.heap.size, 5, none⟩ = some (v5) := (blk_cell HS.out.box 5).trans rfl
                            have hz6_ : w'.cell? ⟨w3.heap.size, 6, none⟩ = some (v6) := (blk_cell HS.out.box 6).trans rfl
                            have hz7_ : w'.cell? ⟨w3.heap.size, 7, none⟩ = some (.int .i64 he) := (blk_cell HS.out.box 7).trans rfl
                            have hz8_ : w'.cell? ⟨w3.heap.size, 8, none⟩ = some (.int .i64 now) := (blk_cell HS.out.box 8).trans rfl
                            have hz9_ : w'.cell? ⟨w3.heap.size, 9, none⟩ = some (.int .i64 (r : Int)) := (blk_cell HS.out.box 9).trans rfl
                            refine value_ (w1 := w') (v := .int .i64 (r : Int)) (by rfl) rfl ?_ ?_
                            · go_simp
                              (try simp only [i64_w])
                              try rfl
                            refine hK.out _ _ ⟨(by rw [ha.out]; exact putSel_upk 0 hb_ rfl rfl rfl), Q_HS⟩
                          refine steps_cons ?_ ?_
                          · rintro b a w' ⟨ha, Q_HS⟩ hb_ hon hoff
                            refine ⟨_, rfl, fun K hK => ?_⟩
                            have e11 : a.tmps[11]? = some (.pointer (some ⟨w3.heap.size, 0, none⟩)) := by rw [ha]; exact (putSel_off rfl).trans rfl
                            replace ha := Aside0.mk ha
                            have HS := Aside0.mk Q_HS
                            have hz0_ : w'.cell? ⟨w3.heap.size, 0, none⟩ = some (.int .i64 id) := (blk_cell HS.out.box 0).trans rfl
                            have hz1_ : w'.cell? ⟨w3.heap.size, 1, none⟩ = some (v1) := (blk_cell HS.out.box 1).trans rfl
                            have hz2_ : w'.cell? ⟨w3.heap.size, 2, none⟩ = some (v2) := (blk_cell HS.out.box 2).trans rfl
                            have hz3_ : w'.cell? ⟨w3.heap.size, 3, none⟩ = some (v3) := (blk_cell HS.out.box 3).trans rfl
                            have hz4_ : w'.cell? ⟨w3.heap.size, 4, none⟩ = some (v4) := (blk_cell HS.out.box 4).trans rfl
                            have hz5_ : w'.cell? ⟨w3.heap.size, 5, none⟩ = some (v5) := (blk_cell HS.out.box 5).trans rfl
                            have hz6_ : w'.cell? ⟨w3.heap.size, 6, none⟩ = some (v6) := (blk_cell HS.out.box 6).trans rfl
                            have hz7_ : w'.cell? ⟨w3.heap.size, 7, none⟩ = some (.int .i64 he) := (blk_cell HS.out.box 7).trans rfl
                            have hz8_ : w'.cell? ⟨w3.heap.size, 8, none⟩ = some (.int .i64 now) := (blk_cell HS.out.box 8).trans rfl
                            have hz9_ : w'.cell? ⟨w3.heap.size, 9, none⟩ = some (.int .i64 (r : Int)) := (blk_cell HS.out.box 9).trans rfl
                            refine value_ (w1 := w') (v := .agg #[.int .i64 id, v1, v2, v3, v4, v5, v6, .int .i64 he, .int .i64 now, .int .i64 (r : Int)]) (by rfl) rfl ?_ ?_
                            · go_simp
                              (try simp only [i64_w])
                              try rfl
                            refine hK.out _ _ ⟨(by rw [ha.out]; exact putSel_upk 1 hb_ rfl rfl rfl), Q_HS⟩
                          refine steps_cons ?_ ?_
                          · rintro b a w' ⟨ha, Q_HS⟩ hb_ hon hoff
                            refine ⟨_, rfl, fun K hK => ?_⟩
                            have e89 : a.tmps[89]? = some (.agg #[.int .i64 id, v1, v2, v3, v4, v5, v6, .int .i64 he, .int .i64 now, .int .i64 (r : Int)]) := by rw [ha]; exact putSel_on (e := (2, 89, .agg #[.int .i64 id, v1, v2, v3, v4, v5, v6, .int .i64 he, .int .i64 now, .int .i64 (r : Int)])) 1 rfl rfl (hon 2 (by kernel_rfl)) rfl
                            replace ha := Aside0.mk ha
                            have HS := Aside0.mk Q_HS
                            refine goes_ Try.func31 (by kernel_rfl) rfl #[.agg #[.int .i64 id, v1, v2, v3, v4, v5, v6, .int .i64 he, .int .i64 now, .int .i64 (r : Int)]] (by rfl) rfl rfl (by first | (simp only [List.map_toArray, List.map_cons, List.map_nil, Act.eval, Array.getD_eq_getD_getElem?, Option.getD_some, e89]; done) | (simp only [List.map_toArray, List.map_cons, List.map_nil, Act.eval, Array.getD_eq_getD_getElem?, Option.getD_some, e89]; rfl)) ?_
                            refine (got_ok HS.out.rows HSIM.out).mono ?_
                            rintro e w1n ⟨rfl, hbn⟩
                            refine ⟨_, rfl, ?_⟩
                            refine hK.out _ _ ⟨(by rw [ha.out]; exact putSel_upk 2 hb_ rfl rfl rfl), (HS.out.on hbn)⟩
                          refine steps_cons ?_ ?_
                          · rintro b a w' ⟨ha, Q_HS⟩ hb_ hon hoff
                            refine ⟨_, rfl, fun K hK => ?_⟩
                            have e88 : a.tmps[88]? = some (.int .i64 (r : Int)) := by rw [ha]; exact putSel_on (e := (1, 88, .int .i64 (r : Int))) 0 rfl rfl (hon 1 (by kernel_rfl)) rfl
                            have e90 : a.tmps[90]? = some (.int .i64 (mGot its : Int)) := by rw [ha]; exact putSel_on (e := (3, 90, .int .i64 (mGot its : Int))) 2 rfl rfl (hon 3 (by kernel_rfl)) rfl
                            replace ha := Aside0.mk ha
                            have HS := Aside0.mk Q_HS
                            refine value_ (w1 := w') (v := .bool true) (by rfl) rfl ?_ ?_
                            · go_simp
                              (try simp only [i64_w])
                              try rfl
                            refine hK.out _ _ ⟨(by rw [ha.out]; exact putSel_upk 3 hb_ rfl rfl rfl), Q_HS⟩
                          refine steps_cons ?_ ?_
                          · rintro b a w' ⟨ha, Q_HS⟩ hb_ hon hoff
                            refine ⟨_, rfl, fun K hK => ?_⟩
                            have e91 : a.tmps[91]? = some (.bool true) := by rw [ha]; exact putSel_on (e := (4, 91, .bool true)) 3 rfl rfl (hon 4 (by kernel_rfl)) rfl
                            replace ha := Aside0.mk ha
                            have HS := Aside0.mk Q_HS
                            refine value_ (w1 := w') (v := .bool true) (by rfl) rfl ?_ ?_
                            · go_simp
                              (try simp only [i64_w])
                              try rfl
                            refine hK.out _ _ ⟨(by rw [ha.out]; exact putSel_upk 4 hb_ rfl rfl rfl), Q_HS⟩
                          exact steps_nil
                        rintro b a wE hall ⟨ha, Q_HS⟩
                        clear HS
                        have hb1_ := hall 1 (by kernel_rfl)
                        have hb2_ := hall 2 (by kernel_rfl)
                        have hb3_ := hall 3 (by kernel_rfl)
                        have hb4_ := hall 4 (by kernel_rfl)
                        have hb5_ := hall 5 (by kernel_rfl)
                        subst ha
                        simp only [putSel, hb1_, hb2_, hb3_, hb4_, hb5_, if_true, Act.put, List.setIfInBounds_toArray, List.set_cons_zero, List.set_cons_succ]
                        have HS := Aside0.mk Q_HS
                        clear Q_HS
                        clear hall hb1_ hb2_ hb3_ hb4_ hb5_
                        have hbl : r < (RefOf id its rp he now (r : Int)).bd.length := by show r < (its.map (·.f1)).length; rw [List.length_map]; exact hri
                        obtain ⟨g4, e4, rfl, i4, f4⟩ := HS.out.rows.at4 hbl
                        rw [show rdOf ByteArray.empty (RefOf id its rp he now (r : Int)).bd (r : Int) = (item its r).f1 from by unfold rdOf; rw [Int.toNat_natCast]; exact map_rd _ its r _ hri] at i4
                        have z4 : wE.cell? ⟨w3.heap.size, 4, none⟩ = some (.slice (some ⟨g4, 0, none⟩) (RefOf id its rp he now (r : Int)).bd.length e4) := (blk_cell HS.out.box 4).trans rfl
                        have z9 : wE.cell? ⟨w3.heap.size, 9, none⟩ = some (.int .i64 (r : Int)) := (blk_cell HS.out.box 9).trans rfl
                        have f9 := blk_frozen HS.out.box 9
                        go_upto_region 21 with fail
                        have hs := HS.out.rd_ ((r : Int) + 1)
                        generalize wE.setCell ⟨w3.heap.size, 9, none⟩ (.int .i64 ((r : Int) + 1)) = wz at hs ⊢
                        clear HS z4 z9 f9 i4 f4
                        have HS := Aside0.mk hs
                        clear hs
                        go_wp2
                        go_meet
                        exact ⟨_, rfl, rfl, its, rp, he, now, r + 1, v1, v2, v3, _, v5, v6, HS.out, HSIM.out, hri⟩
                      · have HR := Aside0.mk (Nat.not_lt.1 hr)
                        have dr : decide (r < mGot its) = false := decide_eq_false hr
                        clear hr
                        go_upto_region 17 with (go_at_call 30; (with_reducible refine (read_no HS.out.mem HS.out.below HSIM.out.le HR.out).mono ?_); rintro e' w5 ⟨rfl, hm, hb5, hk5⟩; have hs := HS.out.mcall (r' := r) hm hb5 hk5; clear hm hb5 hk5 HS; have HS := Aside0.mk hs; clear hs)
                        replace HS := Aside0.mk (HS.out.on (below_drew (Below.refl w5.heap.size w5)))
                        refine start_ (n := 6) (S := fun w' => True) (ds := []) #[false, false, false, false, false, false] (by kernel_rfl) rfl rfl trivial (fun hHeld => ?_); refine with_tabW law.tab17 law.bits17 (fun HT_ HW_ => ?_)
                        obtain ⟨wS, hwS⟩ : ∃ x, w5.drew = x := ⟨_, rfl⟩
                        rw [hwS] at HS ⊢
                        clear hwS
                        refine pure_ (i := 0) (N := some 87) (v := ?_) (a' := ?_) #[true, false, false, false, false, false] rfl rfl (any_of HT_.out (by kernel_rfl)) (fun _ _ _ h => h) (Or.inl ⟨by rfl, ?_⟩) ?_ ?_
                        rotate_left
                        · intro w'
                          go_simp
                          with_reducible rfl
                        rotate_left
                        · simp only [Act.put, List.setIfInBounds_toArray, List.set_cons_zero, List.set_cons_succ, i64_w, i32_w]
                          rfl
                        refine inv_at [1, 2, 3, 4, 5] (fun a0_ b a w' => a = putSel a0_ b [(1, 88, .int .i64 (r : Int)), (2, 89, .agg #[.int .i64 id, v1, v2, v3, v4, v5, v6, .int .i64 he, .int .i64 now, .int .i64 (r : Int)]), (3, 90, .int .i64 (mGot its : Int)), (4, 91, .bool false), (5, 23, .bool false)] ∧ (LS w1 w' g w3.heap.size id its he now r (RefOf id its rp he now (r : Int)) v1 v2 v3 v4 v5 v6)) HT_.out HW_.out (by kernel_rfl) (by kernel_rfl) ?_ ?_ ?_
                        · exact ⟨by simp only [putSel, Bool.false_eq_true, if_false], HS.out⟩
                        · skip
                          clear HS
                          refine steps_cons ?_ ?_
                          · rintro b a w' ⟨ha, Q_HS⟩ hb_ hon hoff
                            refine ⟨_, rfl, fun K hK => ?_⟩
                            have e87 : a.tmps[87]? = some (.pointer (some ⟨w3.heap.size, 9, none⟩)) := by rw [ha]; exact (putSel_off rfl).trans rfl
                            replace ha := Aside0.mk ha
                            have HS := Aside0.mk Q_HS
                            have hz0_ : w'.cell? ⟨w3.heap.size, 0, none⟩ = some (.int .i64 id) := (blk_cell HS.out.box 0).trans rfl
                            have hz1_ : w'.cell? ⟨w3.heap.size, 1, none⟩ = some (v1) := (blk_cell HS.out.box 1).trans rfl
                            have hz2_ : w'.cell? ⟨w3.heap.size, 2, none⟩ = some (v2) := (blk_cell HS.out.box 2).trans rfl
                            have hz3_ : w'.cell? ⟨w3.heap.size, 3, none⟩ = some (v3) := (blk_cell HS.out.box 3).trans rfl
                            have hz4_ : w'.cell? ⟨w3.heap.size, 4, none⟩ = some (v4) := (blk_cell HS.out.box 4).trans rfl
                            have hz5_ : w'.cell? ⟨w3.heap.size, 5, none⟩ = some (v5) := (blk_cell HS.out.box 5).trans rfl
                            have hz6_ : w'.cell? ⟨w3.heap.size, 6, none⟩ = some (v6) := (blk_cell HS.out.box 6).trans rfl
                            have hz7_ : w'.cell? ⟨w3.heap.size, 7, none⟩ = some (.int .i64 he) := (blk_cell HS.out.box 7).trans rfl
                            have hz8_ : w'.cell? ⟨w3.heap.size, 8, none⟩ = some (.int .i64 now) := (blk_cell HS.out.box 8).trans rfl
                            have hz9_ : w'.cell? ⟨w3.heap.size, 9, none⟩ = some (.int .i64 (r : Int)) := (blk_cell HS.out.box 9).trans rfl
                            refine value_ (w1 := w') (v := .int .i64 (r : Int)) (by rfl) rfl ?_ ?_
                            · go_simp
                              (try simp only [i64_w])
                              try rfl
                            refine hK.out _ _ ⟨(by rw [ha.out]; exact putSel_upk 0 hb_ rfl rfl rfl), Q_HS⟩
                          refine steps_cons ?_ ?_
                          · rintro b a w' ⟨ha, Q_HS⟩ hb_ hon hoff
                            refine ⟨_, rfl, fun K hK => ?_⟩
                            have e11 : a.tmps[11]? = some (.pointer (some ⟨w3.heap.size, 0, none⟩)) := by rw [ha]; exact (putSel_off rfl).trans rfl
                            replace ha := Aside0.mk ha
                            have HS := Aside0.mk Q_HS
                            have hz0_ : w'.cell? ⟨w3.heap.size, 0, none⟩ = some (.int .i64 id) := (blk_cell HS.out.box 0).trans rfl
                            have hz1_ : w'.cell? ⟨w3.heap.size, 1, none⟩ = some (v1) := (blk_cell HS.out.box 1).trans rfl
                            have hz2_ : w'.cell? ⟨w3.heap.size, 2, none⟩ = some (v2) := (blk_cell HS.out.box 2).trans rfl
                            have hz3_ : w'.cell? ⟨w3.heap.size, 3, none⟩ = some (v3) := (blk_cell HS.out.box 3).trans rfl
                            have hz4_ : w'.cell? ⟨w3.heap.size, 4, none⟩ = some (v4) := (blk_cell HS.out.box 4).trans rfl
                            have hz5_ : w'.cell? ⟨w3.heap.size, 5, none⟩ = some (v5) := (blk_cell HS.out.box 5).trans rfl
                            have hz6_ : w'.cell? ⟨w3.heap.size, 6, none⟩ = some (v6) := (blk_cell HS.out.box 6).trans rfl
                            have hz7_ : w'.cell? ⟨w3.heap.size, 7, none⟩ = some (.int .i64 he) := (blk_cell HS.out.box 7).trans rfl
                            have hz8_ : w'.cell? ⟨w3.heap.size, 8, none⟩ = some (.int .i64 now) := (blk_cell HS.out.box 8).trans rfl
                            have hz9_ : w'.cell? ⟨w3.heap.size, 9, none⟩ = some (.int .i64 (r : Int)) := (blk_cell HS.out.box 9).trans rfl
                            refine value_ (w1 := w') (v := .agg #[.int .i64 id, v1, v2, v3, v4, v5, v6, .int .i64 he, .int .i64 now, .int .i64 (r : Int)]) (by rfl) rfl ?_ ?_
                            · go_simp
                              (try simp only [i64_w])
                              try rfl
                            refine hK.out _ _ ⟨(by rw [ha.out]; exact putSel_upk 1 hb_ rfl rfl rfl), Q_HS⟩
                          refine steps_cons ?_ ?_
                          · rintro b a w' ⟨ha, Q_HS⟩ hb_ hon hoff
                            refine ⟨_, rfl, fun K hK => ?_⟩
                            have e89 : a.tmps[89]? = some (.agg #[.int .i64 id, v1, v2, v3, v4, v5, v6, .int .i64 he, .int .i64 now, .int .i64 (r : Int)]) := by rw [ha]; exact putSel_on (e := (2, 89, .agg #[.int .i64 id, v1, v2, v3, v4, v5, v6, .int .i64 he, .int .i64 now, .int .i64 (r : Int)])) 1 rfl rfl (hon 2 (by kernel_rfl)) rfl
                            replace ha := Aside0.mk ha
                            have HS := Aside0.mk Q_HS
                            refine goes_ Try.func31 (by kernel_rfl) rfl #[.agg #[.int .i64 id, v1, v2, v3, v4, v5, v6, .int .i64 he, .int .i64 now, .int .i64 (r : Int)]] (by rfl) rfl rfl (by first | (simp only [List.map_toArray, List.map_cons, List.map_nil, Act.eval, Array.getD_eq_getD_getElem?, Option.getD_some, e89]; done) | (simp only [List.map_toArray, List.map_cons, List.map_nil, Act.eval, Array.getD_eq_getD_getElem?, Option.getD_some, e89]; rfl)) ?_
                            refine (got_ok HS.out.rows HSIM.out).mono ?_
                            rintro e w1n ⟨rfl, hbn⟩
                            refine ⟨_, rfl, ?_⟩
                            refine hK.out _ _ ⟨(by rw [ha.out]; exact putSel_upk 2 hb_ rfl rfl rfl), (HS.out.on hbn)⟩
                          refine steps_cons ?_ ?_
                          · rintro b a w' ⟨ha, Q_HS⟩ hb_ hon hoff
                            refine ⟨_, rfl, fun K hK => ?_⟩
                            have e88 : a.tmps[88]? = some (.int .i64 (r : Int)) := by rw [ha]; exact putSel_on (e := (1, 88, .int .i64 (r : Int))) 0 rfl rfl (hon 1 (by kernel_rfl)) rfl
                            have e90 : a.tmps[90]? = some (.int .i64 (mGot its : Int)) := by rw [ha]; exact putSel_on (e := (3, 90, .int .i64 (mGot its : Int))) 2 rfl rfl (hon 3 (by kernel_rfl)) rfl
                            replace ha := Aside0.mk ha
                            have HS := Aside0.mk Q_HS
                            refine value_ (w1 := w') (v := .bool false) (by rfl) rfl ?_ ?_
                            · go_simp
                              (try simp only [i64_w])
                              try rfl
                            refine hK.out _ _ ⟨(by rw [ha.out]; exact putSel_upk 3 hb_ rfl rfl rfl), Q_HS⟩
                          refine steps_cons ?_ ?_
                          · rintro b a w' ⟨ha, Q_HS⟩ hb_ hon hoff
                            refine ⟨_, rfl, fun K hK => ?_⟩
                            have e91 : a.tmps[91]? = some (.bool false) := by rw [ha]; exact putSel_on (e := (4, 91, .bool false)) 3 rfl rfl (hon 4 (by kernel_rfl)) rfl
                            replace ha := Aside0.mk ha
                            have HS := Aside0.mk Q_HS
                            refine value_ (w1 := w') (v := .bool false) (by rfl) rfl ?_ ?_
                            · go_simp
                              (try simp only [i64_w])
                              try rfl
                            refine hK.out _ _ ⟨(by rw [ha.out]; exact putSel_upk 4 hb_ rfl rfl rfl), Q_HS⟩
                          exact steps_nil
                        rintro b a wE hall ⟨ha, Q_HS⟩
                        clear HS
                        have hb1_ := hall 1 (by kernel_rfl)
                        have hb2_ := hall 2 (by kernel_rfl)
                        have hb3_ := hall 3 (by kernel_rfl)
                        have hb4_ := hall 4 (by kernel_rfl)
                        have hb5_ := hall 5 (by kernel_rfl)
                        subst ha
                        simp only [putSel, hb1_, hb2_, hb3_, hb4_, hb5_, if_true, Act.put, List.setIfInBounds_toArray, List.set_cons_zero, List.set_cons_succ]
                        have HS := Aside0.mk Q_HS
                        clear Q_HS
                        clear hall hb1_ hb2_ hb3_ hb4_ hb5_
                        go_wp2
                        go_meet
                        exact ⟨_, rfl, rfl, its, rp, he, now, r, v1, v2, v3, v4, v5, v6, HS.out, HSIM.out, HRL.out⟩
              case rest =>
                obtain ⟨er, rfl, rfl, its, rp, he, now, r, v1, v2, v3, v4, v5, v6, hs, hsim, hrl⟩ := hcut
                have HSIM := Aside0.mk hsim
                have HRL := Aside0.mk hrl
                clear hsim hrl
                go_upto_region 42 with fail
                have HS := Aside0.mk (hs.on (below_drew (Below.refl _ _)))
                clear hs
                refine start_ (n := 10) (S := fun w' => True) (ds := []) #[false, false, false, false, false, false, false, false, false, false] (by kernel_rfl) rfl rfl trivial (fun hHeld => ?_); refine with_tabW law.tab42 law.bits42 (fun HT_ HW_ => ?_)
                obtain ⟨wS, hwS⟩ : ∃ x, wc.drew = x := ⟨_, rfl⟩
                rw [hwS] at HS ⊢
                clear hwS
                refine pure_ (i := 0) (N := some 173) (v := ?_) (a' := ?_) #[true, false, false, false, false, false, false, false, false, false] rfl rfl (any_of HT_.out (by kernel_rfl)) (fun _ _ _ h => h) (Or.inl ⟨by rfl, ?_⟩) ?_ ?_
                rotate_left
                · intro w'
                  go_simp
                  with_reducible rfl
                rotate_left
                · simp only [Act.put, List.setIfInBounds_toArray, List.set_cons_zero, List.set_cons_succ, i64_w, i32_w]
                  rfl
                refine pure_ (i := 1) (N := some 174) (v := ?_) (a' := ?_) #[true, true, false, false, false, false, false, false, false, false] rfl rfl (any_of HT_.out (by kernel_rfl)) (fun _ _ _ h => h) (Or.inl ⟨by rfl, ?_⟩) ?_ ?_
                rotate_left
                · intro w'
                  go_simp
                  with_reducible rfl
                rotate_left
                · simp only [Act.put, List.setIfInBounds_toArray, List.set_cons_zero, List.set_cons_succ, i64_w, i32_w]
                  rfl
                refine inv_at [2, 3, 4, 5, 6, 7, 8, 9] (fun a0_ b a w' => a = putSel a0_ b [(2, 175, .bool false), (3, 176, .bool false), (4, 177, .pointer (some ⟨g, 0, none⟩)), (5, 178, .int .i64 (mGot its : Int)), (6, 179, .agg #[.int .i64 id, v1, v2, v3, v4, v5, v6, .int .i64 he, .int .i64 now, .int .i64 (r : Int)]), (7, 180, .int .i64 (mGot its : Int)), (8, 181, .bool false), (9, 182, .bool false)] ∧ (LS w1 w' g w3.heap.size id its he now r (RefOf id its rp he now (r : Int)) v1 v2 v3 v4 v5 v6)) HT_.out HW_.out (by kernel_rfl) (by kernel_rfl) ?_ ?_ ?_
                · exact ⟨by simp only [putSel, Bool.false_eq_true, if_false], HS.out⟩
                · skip
                  clear HS
                  refine steps_cons ?_ ?_
                  · rintro b a w' ⟨ha, Q_HS⟩ hb_ hon hoff
                    refine ⟨_, rfl, fun K hK => ?_⟩
                    have e173 : a.tmps[173]? = some (.int .i64 er) := by rw [ha]; exact (putSel_off rfl).trans rfl
                    have e174 : a.tmps[174]? = some (.int .i64 er) := by rw [ha]; exact (putSel_off rfl).trans rfl
                    replace ha := Aside0.mk ha
                    have HS := Aside0.mk Q_HS
                    refine value_ (w1 := w') (v := .bool false) (by rfl) rfl ?_ ?_
                    · go_simp
                      (try simp only [i64_w])
                      try rfl
                    refine hK.out _ _ ⟨(by rw [ha.out]; exact putSel_upk 0 hb_ rfl rfl rfl), Q_HS⟩
                  refine steps_cons ?_ ?_
                  · rintro b a w' ⟨ha, Q_HS⟩ hb_ hon hoff
                    refine ⟨_, rfl, fun K hK => ?_⟩
                    have e175 : a.tmps[175]? = some (.bool false) := by rw [ha]; exact putSel_on (e := (2, 175, .bool false)) 0 rfl rfl (hon 2 (by kernel_rfl)) rfl
                    replace ha := Aside0.mk ha
                    have HS := Aside0.mk Q_HS
                    refine value_ (w1 := w') (v := .bool false) (by rfl) rfl ?_ ?_
                    · go_simp
                      (try simp only [i64_w])
                      try rfl
                    refine hK.out _ _ ⟨(by rw [ha.out]; exact putSel_upk 1 hb_ rfl rfl rfl), Q_HS⟩
                  refine steps_cons ?_ ?_
                  · rintro b a w' ⟨ha, Q_HS⟩ hb_ hon hoff
                    refine ⟨_, rfl, fun K hK => ?_⟩
                    have e9 : a.tmps[9]? = some (.pointer (some ⟨g, 0, none⟩)) := by rw [ha]; exact (putSel_off rfl).trans rfl
                    have e176 : a.tmps[176]? = some (.bool false) := by rw [ha]; exact putSel_on (e := (3, 176, .bool false)) 1 rfl rfl (hon 3 (by kernel_rfl)) rfl
                    replace ha := Aside0.mk ha
                    have HS := Aside0.mk Q_HS
                    refine value_ (w1 := w') (v := .pointer (some ⟨g, 0, none⟩)) (wanted_on rfl rfl rfl (e176.trans (by first | rfl | (simp [*]; done)))) rfl ?_ ?_
                    · go_simp
                      (try simp only [i64_w])
                      try rfl
                    refine hK.out _ _ ⟨(by rw [ha.out]; exact putSel_upk 2 hb_ rfl rfl rfl), Q_HS⟩
                  refine steps_cons ?_ ?_
                  · rintro b a w' ⟨ha, Q_HS⟩ hb_ hon hoff
                    refine ⟨_, rfl, fun K hK => ?_⟩
                    have e177 : a.tmps[177]? = some (.pointer (some ⟨g, 0, none⟩)) := by rw [ha]; exact putSel_on (e := (4, 177, .pointer (some ⟨g, 0, none⟩))) 2 rfl rfl (hon 4 (by kernel_rfl)) rfl
                    have e176 : a.tmps[176]? = some (.bool false) := by rw [ha]; exact putSel_on (e := (3, 176, .bool false)) 1 rfl rfl (hon 3 (by kernel_rfl)) rfl
                    replace ha := Aside0.mk ha
                    have HS := Aside0.mk Q_HS
                    refine goes_ Try.func32 (by kernel_rfl) rfl #[.pointer (some ⟨g, 0, none⟩)] (wanted_on rfl rfl rfl (e176.trans (by first | rfl | (simp [*]; done)))) rfl rfl (by first | (simp only [List.map_toArray, List.map_cons, List.map_nil, Act.eval, Array.getD_eq_getD_getElem?, Option.getD_some, e177, e176]; done) | (simp only [List.map_toArray, List.map_cons, List.map_nil, Act.eval, Array.getD_eq_getD_getElem?, Option.getD_some, e177, e176]; rfl)) ?_
                    refine (got_calls HS.out.mem HSIM.out.le).mono ?_
                    rintro e w1n ⟨rfl, rfl⟩
                    refine ⟨_, rfl, ?_⟩
                    refine hK.out _ _ ⟨(by rw [ha.out]; exact putSel_upk 3 hb_ rfl rfl rfl), HS.out⟩
                  refine steps_cons ?_ ?_
                  · rintro b a w' ⟨ha, Q_HS⟩ hb_ hon hoff
                    refine ⟨_, rfl, fun K hK => ?_⟩
                    have e11 : a.tmps[11]? = some (.pointer (some ⟨w3.heap.size, 0, none⟩)) := by rw [ha]; exact (putSel_off rfl).trans rfl
                    have e176 : a.tmps[176]? = some (.bool false) := by rw [ha]; exact putSel_on (e := (3, 176, .bool false)) 1 rfl rfl (hon 3 (by kernel_rfl)) rfl
                    replace ha := Aside0.mk ha
                    have HS := Aside0.mk Q_HS
                    have hz0_ : w'.cell? ⟨w3.heap.size, 0, none⟩ = some (.int .i64 id) := (blk_cell HS.out.box 0).trans rfl
                    have hz1_ : w'.cell? ⟨w3.heap.size, 1, none⟩ = some (v1) := (blk_cell HS.out.box 1).trans rfl
                    have hz2_ : w'.cell? ⟨w3.heap.size, 2, none⟩ = some (v2) := (blk_cell HS.out.box 2).trans rfl
                    have hz3_ : w'.cell? ⟨w3.heap.size, 3, none⟩ = some (v3) := (blk_cell HS.out.box 3).trans rfl
                    have hz4_ : w'.cell? ⟨w3.heap.size, 4, none⟩ = some (v4) := (blk_cell HS.out.box 4).trans rfl
                    have hz5_ : w'.cell? ⟨w3.heap.size, 5, none⟩ = some (v5) := (blk_cell HS.out.box 5).trans rfl
                    have hz6_ : w'.cell? ⟨w3.heap.size, 6, none⟩ = some (v6) := (blk_cell HS.out.box 6).trans rfl
                    have hz7_ : w'.cell? ⟨w3.heap.size, 7, none⟩ = some (.int .i64 he) := (blk_cell HS.out.box 7).trans rfl
                    have hz8_ : w'.cell? ⟨w3.heap.size, 8, none⟩ = some (.int .i64 now) := (blk_cell HS.out.box 8).trans rfl
                    have hz9_ : w'.cell? ⟨w3.heap.size, 9, none⟩ = some (.int .i64 (r : Int)) := (blk_cell HS.out.box 9).trans rfl
                    refine value_ (w1 := w') (v := .agg #[.int .i64 id, v1, v2, v3, v4, v5, v6, .int .i64 he, .int .i64 now, .int .i64 (r : Int)]) (wanted_on rfl rfl rfl (e176.trans (by first | rfl | (simp [*]; done)))) rfl ?_ ?_
                    · go_simp
                      (try simp only [i64_w])
                      try rfl
                    refine hK.out _ _ ⟨(by rw [ha.out]; exact putSel_upk 4 hb_ rfl rfl rfl), Q_HS⟩
                  refine steps_cons ?_ ?_
                  · rintro b a w' ⟨ha, Q_HS⟩ hb_ hon hoff
                    refine ⟨_, rfl, fun K hK => ?_⟩
                    have e179 : a.tmps[179]? = some (.agg #[.int .i64 id, v1, v2, v3, v4, v5, v6, .int .i64 he, .int .i64 now, .int .i64 (r : Int)]) := by rw [ha]; exact putSel_on (e := (6, 179, .agg #[.int .i64 id, v1, v2, v3, v4, v5, v6, .int .i64 he, .int .i64 now, .int .i64 (r : Int)])) 4 rfl rfl (hon 6 (by kernel_rfl)) rfl
                    have e176 : a.tmps[176]? = some (.bool false) := by rw [ha]; exact putSel_on (e := (3, 176, .bool false)) 1 rfl rfl (hon 3 (by kernel_rfl)) rfl
                    replace ha := Aside0.mk ha
                    have HS := Aside0.mk Q_HS
                    refine goes_ Try.func31 (by kernel_rfl) rfl #[.agg #[.int .i64 id, v1, v2, v3, v4, v5, v6, .int .i64 he, .int .i64 now, .int .i64 (r : Int)]] (wanted_on rfl rfl rfl (e176.trans (by first | rfl | (simp [*]; done)))) rfl rfl (by first | (simp only [List.map_toArray, List.map_cons, List.map_nil, Act.eval, Array.getD_eq_getD_getElem?, Option.getD_some, e179, e176]; done) | (simp only [List.map_toArray, List.map_cons, List.map_nil, Act.eval, Array.getD_eq_getD_getElem?, Option.getD_some, e179, e176]; rfl)) ?_
                    refine (got_ok HS.out.rows HSIM.out).mono ?_
                    rintro e w1n ⟨rfl, hbn⟩
                    refine ⟨_, rfl, ?_⟩
                    refine hK.out _ _ ⟨(by rw [ha.out]; exact putSel_upk 5 hb_ rfl rfl rfl), (HS.out.on hbn)⟩
                  refine steps_cons ?_ ?_
                  · rintro b a w' ⟨ha, Q_HS⟩ hb_ hon hoff
                    refine ⟨_, rfl, fun K hK => ?_⟩
                    have e178 : a.tmps[178]? = some (.int .i64 (mGot its : Int)) := by rw [ha]; exact putSel_on (e := (5, 178, .int .i64 (mGot its : Int))) 3 rfl rfl (hon 5 (by kernel_rfl)) rfl
                    have e180 : a.tmps[180]? = some (.int .i64 (mGot its : Int)) := by rw [ha]; exact putSel_on (e := (7, 180, .int .i64 (mGot its : Int))) 5 rfl rfl (hon 7 (by kernel_rfl)) rfl
                    have e176 : a.tmps[176]? = some (.bool false) := by rw [ha]; exact putSel_on (e := (3, 176, .bool false)) 1 rfl rfl (hon 3 (by kernel_rfl)) rfl
                    replace ha := Aside0.mk ha
                    have HS := Aside0.mk Q_HS
                    refine value_ (w1 := w') (v := .bool false) (wanted_on rfl rfl rfl (e176.trans (by first | rfl | (simp [*]; done)))) rfl ?_ ?_
                    · go_simp
                      (try simp only [i64_w])
                      try rfl
                    refine hK.out _ _ ⟨(by rw [ha.out]; exact putSel_upk 6 hb_ rfl rfl rfl), Q_HS⟩
                  refine steps_cons ?_ ?_
                  · rintro b a w' ⟨ha, Q_HS⟩ hb_ hon hoff
                    refine ⟨_, rfl, fun K hK => ?_⟩
                    have e176 : a.tmps[176]? = some (.bool false) := by rw [ha]; exact putSel_on (e := (3, 176, .bool false)) 1 rfl rfl (hon 3 (by kernel_rfl)) rfl
                    have e181 : a.tmps[181]? = some (.bool false) := by rw [ha]; exact putSel_on (e := (8, 181, .bool false)) 6 rfl rfl (hon 8 (by kernel_rfl)) rfl
                    replace ha := Aside0.mk ha
                    have HS := Aside0.mk Q_HS
                    refine value_ (w1 := w') (v := .bool false) (by rfl) rfl ?_ ?_
                    · go_simp
                      (try simp only [i64_w])
                      try rfl
                    refine hK.out _ _ ⟨(by rw [ha.out]; exact putSel_upk 7 hb_ rfl rfl rfl), Q_HS⟩
                  exact steps_nil
                rintro b a wE hall ⟨ha, Q_HS⟩
                clear HS
                have hb2_ := hall 2 (by kernel_rfl)
                have hb3_ := hall 3 (by kernel_rfl)
                have hb4_ := hall 4 (by kernel_rfl)
                have hb5_ := hall 5 (by kernel_rfl)
                have hb6_ := hall 6 (by kernel_rfl)
                have hb7_ := hall 7 (by kernel_rfl)
                have hb8_ := hall 8 (by kernel_rfl)
                have hb9_ := hall 9 (by kernel_rfl)
                subst ha
                simp only [putSel, hb2_, hb3_, hb4_, hb5_, hb6_, hb7_, hb8_, hb9_, if_true, Act.put, List.setIfInBounds_toArray, List.set_cons_zero, List.set_cons_succ]
                have HS := Aside0.mk Q_HS
                clear Q_HS
                clear hall hb2_ hb3_ hb4_ hb5_ hb6_ hb7_ hb8_ hb9_
                go_wp2
                go_roundg n9
                case measure => omega
                case rel =>
                  have hkn9 := HKN.out
                  exact ⟨k + 1, by go_num, by omega, its, rp, he, now, r, v1, v2, v3, v4, v5, v6, HS.out, HSIM.out, HRL.out⟩
            · have d4 : decide ((k : Int) < 30) = false := decide_eq_false (by omega)
              go_wp2
              go_ret
              exact ⟨rfl, HBW.out⟩
          · have d3 : decide ((k : Int) < (ts.length : Int)) = false := decide_eq_false (by omega)
            go_wp2
            go_ret
            exact ⟨rfl, HBW.out⟩
        · have d2 : decide ((k : Int) < (ns.length : Int)) = false := decide_eq_false (by omega)
          go_wp2
          go_ret
          exact ⟨rfl, HBW.out⟩
      · have d1 : decide ((k : Int) < (ks.length : Int)) = false := decide_eq_false (by omega)
        go_wp2
        go_ret
        exact ⟨rfl, HBW.out⟩
  · have HI := Aside0.mk (show patchbayref3_In.f id 0 15 = some false from by rw [in_v]; congr 1; exact decide_eq_false hid)
    go_enter Try.func4, Try.ntmps4
    go_wp2_with (first | (go_at_call 22; (with_reducible refine (fact_true _).mono ?_); rintro e' w1 ⟨rfl, hb1⟩; have HB1 := Aside0.mk hb1; clear hb1) | (go_at_call 23; (with_reducible refine (new_no id _ hid).mono ?_); rintro e' w2 ⟨rfl, hb⟩; have HB2 := Aside0.mk hb; clear hb) | (go_at_call 7; (with_reducible refine (patchbayref3_In.calls id 0 15 false _ HI.out).mono ?_); rintro e' w3 ⟨rfl, hd3⟩; have HD3 := Aside0.mk hd3; clear hd3))
    go_ret
    exact ⟨rfl, HB1.out.trans ((HB2.out.trans (HD3.out.below.mono HB2.out.size)).mono HB1.out.size)⟩
end Go.Proofs.Ytcllcjflgeiehaa.PCastPlays
