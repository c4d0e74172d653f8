/- Proved: the calls of the law CastPlays, as the plain law tells them. -/
import Derived.Test.YtcllcjflgeiehaaBCastU
import Derived.Test.YtcllcjflgeiehaaBCastH
import Derived.Test.YtcllcjflgeiehaaBCastO
import Derived.Test.YtcllcjflgeiehaaBCastR
namespace Go.Proofs.Ytcllcjflgeiehaa.PCastPlays
open Go.RowKit Go.Proofs.YtcllcjflgeiehaaW.PrintWords Go.Proofs.YtcllcjflgeiehaaW.PrintLast Go.Proofs.YtcllcjflgeiehaaW.PrintMore
set_option linter.unusedVariables false
set_option linter.unusedSimpArgs false
/-- What a call of the reference leaves: an agreeing state, rows apart, other blocks as they were. -/
def CPost (w0 w : World) (id : Int) (its : List S82) (he now rd : Int) (u1 u2 u3 u4 u5 u6 : Value) (rp' : List Int) (w' : World) : Prop :=
  Rws w0.heap.size w' u1 u2 u3 u4 u5 u6 (RefOf id its rp' he now rd) ∧ Sim its rp' ∧ Below w0.heap.size w0 w' ∧ KeepC w w'
theorem say_ok {w0 w : World} {v1 v2 v3 v4 v5 v6 : Value} {id : Int} {its : List S82} {rp : List Int} {he now rd : Int} {s : ByteArray} (h : Rws w0.heap.size w v1 v2 v3 v4 v5 v6 (RefOf id its rp he now rd)) (hb : Below w0.heap.size w0 w) (hs : Sim its rp) (hid : 0 ≤ id ∧ id ≤ 15) :
    Calls Try.prog 24 #[cv (RefOf id its rp he now rd) v1 v2 v3 v4 v5 v6, .string s] w fun e w' => ∃ u1 u2 u3 u4 u5 u6 rp', e = .returned (.tuple #[cv (RefOf id (mSay id its s).1 rp' he now rd) u1 u2 u3 u4 u5 u6, .int .i64 (mSay id its s).2]) ∧ CPost w0 w id (mSay id its s).1 he now rd u1 u2 u3 u4 u5 u6 rp' w' := by
  obtain ⟨K, hK⟩ : ∃ K : Nat, 1200 ≤ K := ⟨1200, Nat.le_refl _⟩
  obtain ⟨rp', hf, hs'⟩ := say_ref K hK (he := he) (now := now) (rd := rd) (s := s) hs hid
  refine (patchbayref3_Cast_Say.calls K _ _ v1 _ _ v2 _ _ v3 _ _ v4 _ _ v5 _ _ v6 _ _ _ _ s _ _ _ _ _ _ _ _ _ _ _ w0 w hb h.r1 h.d12 h.d13 h.r2 (fun k a b => h.d12 k b a) h.d23 h.r3 (fun k a b => h.d13 k b a) (fun k a b => h.d23 k b a) h.r4 h.r5 h.d56 h.r6 (fun k a b => h.d56 k b a) hf).mono ?_
  rintro e w' ⟨u1, u2, u3, u4, u5, u6, rfl, q1, q2, q3, q4, q5, q6, hb2, hk⟩
  exact ⟨u1, u2, u3, u4, u5, u6, rp', rfl, rws_mk q1 (fun k hk => hk.2.1) (fun k hk => hk.2.2) q2 (fun k hk => hk.2.2) q3 q4 q5 (fun k hk => hk.2) q6, hs', hb2, h.keep hk⟩
theorem in_ok {w0 w : World} {v1 v2 v3 v4 v5 v6 : Value} {id : Int} {its : List S82} {rp : List Int} {he now rd k f n t : Int} {s : ByteArray} (h : Rws w0.heap.size w v1 v2 v3 v4 v5 v6 (RefOf id its rp he now rd)) (hb : Below w0.heap.size w0 w) (hs : Sim its rp) (hid : 0 ≤ id ∧ id ≤ 15) :
    Calls Try.prog 26 #[cv (RefOf id its rp he now rd) v1 v2 v3 v4 v5 v6, .agg #[.int .i64 k, .int .i64 f, .int .i64 n, .string s], .int .i64 t] w fun e w' => ∃ u1 u2 u3 u4 u5 u6 rp', e = .returned (.tuple #[cv (RefOf id (mIn id its now k f n s t).1 rp' he (mIn id its now k f n s t).2.1 rd) u1 u2 u3 u4 u5 u6, .int .i64 (mIn id its now k f n s t).2.2]) ∧ CPost w0 w id (mIn id its now k f n s t).1 he (mIn id its now k f n s t).2.1 rd u1 u2 u3 u4 u5 u6 rp' w' := by
  obtain ⟨rp', hf, hs'⟩ := in_ref (he := he) (now := now) (rd := rd) (k := k) (f := f) (n := n) (t := t) (s := s) hs hid
  refine (cin_calls h hb (refof_len hs) hs.le hid).mono ?_
  rintro e w' ⟨u1, u2, u3, u4, u5, u6, rfl, q1, q2, q3⟩
  rw [hf] at q1 ⊢
  exact ⟨u1, u2, u3, u4, u5, u6, rp', rfl, q1, hs', q2, q3⟩
theorem out_ok2 {w0 w : World} {v1 v2 v3 v4 v5 v6 : Value} {id : Int} {its : List S82} {rp : List Int} {he now rd t : Int} (h : Rws w0.heap.size w v1 v2 v3 v4 v5 v6 (RefOf id its rp he now rd)) (hb : Below w0.heap.size w0 w) (hs : Sim its rp) :
    Calls Try.prog 28 #[cv (RefOf id its rp he now rd) v1 v2 v3 v4 v5 v6, .int .i64 t] w fun e w' => ∃ u1 u2 u3 u4 u5 u6 v10, e = .returned (.tuple #[cv (RefOf id (mOut id its he now t).its rp (mOut id its he now t).he (mOut id its he now t).now rd) u1 u2 u3 u4 u5 u6, v10, .int .i64 (mOut id its he now t).err]) ∧ NRow w0.heap.size w' v10 (mOut id its he now t).out ∧ CPost w0 w id (mOut id its he now t).its (mOut id its he now t).he (mOut id its he now t).now rd u1 u2 u3 u4 u5 u6 rp w' := by
  obtain ⟨K, hK⟩ : ∃ K : Nat, 1200 ≤ K := ⟨1200, Nat.le_refl _⟩
  obtain ⟨hf, hs'⟩ := out_ref K hK (id := id) (he := he) (now := now) (rd := rd) (t := t) hs
  refine (patchbayref3_Cast_Out.calls K _ _ v1 _ _ v2 _ _ v3 _ _ v4 _ _ v5 _ _ v6 _ _ _ _ t _ _ _ _ _ _ _ _ _ _ _ _ w0 w hb h.r1 h.d12 h.d13 h.r2 (fun k a b => h.d12 k b a) h.d23 h.r3 (fun k a b => h.d13 k b a) (fun k a b => h.d23 k b a) h.r4 h.r5 h.d56 h.r6 (fun k a b => h.d56 k b a) hf).mono ?_
  rintro e w' ⟨u1, u2, u3, u4, u5, u6, v10, rfl, q1, q2, q3, q4, q5, q6, q10, hb2, hk⟩
  exact ⟨u1, u2, u3, u4, u5, u6, v10, rfl, Kd.R_mono q10 (fun _ _ => trivial), rws_mk (c := RefOf id (mOut id its he now t).its rp (mOut id its he now t).he (mOut id its he now t).now rd) q1 (fun k hk => hk.2.1) (fun k hk => hk.2.2) q2 (fun k hk => hk.2.2) q3 q4 q5 (fun k hk => hk.2) q6, hs', hb2, h.keep hk⟩
theorem got_ok {B : Nat} {w : World} {v1 v2 v3 v4 v5 v6 : Value} {id : Int} {its : List S82} {rp : List Int} {he now rd : Int} (h : Rws B w v1 v2 v3 v4 v5 v6 (RefOf id its rp he now rd)) (hs : Sim its rp) :
    Calls Try.prog 31 #[cv (RefOf id its rp he now rd) v1 v2 v3 v4 v5 v6] w fun e w' => e = .returned (.int .i64 (mGot its : Int)) ∧ Below w.heap.size w w' := by
  obtain ⟨A1, c1, rfl, hc1, hC1⟩ := Kd.R_reads h.r1
  obtain ⟨A2, c2, rfl, hc2, hC2⟩ := Kd.R_reads h.r2
  obtain ⟨A3, c3, rfl, hc3, hC3⟩ := Kd.R_reads h.r3
  obtain ⟨A4, c4, rfl, hc4, hC4⟩ := Kd.R_reads h.r4
  obtain ⟨A5, c5, rfl, hc5, hC5⟩ := Kd.R_reads h.r5
  obtain ⟨A6, c6, rfl, hc6, hC6⟩ := Kd.R_reads h.r6
  exact patchbayref3_Cast_Got.calls 2000 _ A1 c1 _ A2 c2 _ A3 c3 _ A4 c4 _ A5 c5 _ A6 c6 _ _ _ _ _ w hC1 hc1 hC2 hc2 hC3 hc3 hC4 hc4 hC5 hc5 hC6 hc6 (got_f hs)
theorem Mem.lower {B B' : Nat} {w : World} {g : Nat} {id : Int} {its : List S82} {rd he now : Int} (h : Mem B w g id its rd he now) (hb : B' ≤ B) : Mem B' w g id its rd he now := by
  obtain ⟨v, h1, h2, h3⟩ := h
  exact ⟨v, h1, by omega, Kd.R_lower h3 hb⟩
set_option maxHeartbeats 2000000 in
theorem fact_true (w : World) : Calls Try.prog 22 #[] w fun e w' => e = .returned (.bool true) ∧ Below w.heap.size w w' := by
  have hsay : mSay 0 [] ⟨#[97]⟩ = ([⟨true, ⟨#[97]⟩, 0, -1, true⟩], 0) := by unfold mSay; rw [if_neg (by decide), if_neg (by decide), if_neg (by decide)]; rfl
  have HSAY := Aside0.mk hsay
  clear hsay
  go_enter Try.func22, Try.ntmps22
  go_wp2_with (first | (go_at_call 23; (with_reducible refine (new_yes 0 _ (by decide)).mono ?_); rintro e' w1 ⟨g, rfl, hm, hb⟩; have HM := Aside0.mk hm; have HB := Aside0.mk hb; clear hm hb) | (go_at_call 25; (with_reducible refine (say_calls (s := ⟨#[97]⟩) HM.out HB.out (by simp)).mono ?_); rintro e' w2 ⟨rfl, hm2, hb2, hk2⟩; rw [HSAY.out] at hm2 ⊢; have HM2 := Aside0.mk hm2; have HB2 := Aside0.mk hb2; clear hm2 hb2 hk2) | (go_at_call 32; (with_reducible refine (got_calls HM2.out (by simp)).mono ?_); rintro e' w3 ⟨rfl, rfl⟩))
  go_ret
  exact ⟨by rw [show mGot [(⟨true, ⟨#[97]⟩, 0, -1, true⟩ : S82)] = 1 from rfl]; rfl, HB2.out⟩
end Go.Proofs.Ytcllcjflgeiehaa.PCastPlays
