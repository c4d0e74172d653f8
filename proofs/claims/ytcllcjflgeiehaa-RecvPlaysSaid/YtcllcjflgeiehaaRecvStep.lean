/- Proved: one round of In and of Take keeps what ties the program's buffer to the reference's. -/
import Derived.Test.YtcllcjflgeiehaaRecvPlain2
namespace Go.Proofs.Ytcllcjflgeiehaa.PRecvPlays
open Go.RowKit Go.Proofs.YtcllcjflgeiehaaW.PrintWords Go.Proofs.YtcllcjflgeiehaaW.PrintLast Go.Proofs.YtcllcjflgeiehaaW.PrintMore
set_option linter.unusedVariables false
set_option linter.unusedSimpArgs false
structure Inv (p da : List Int) (th : List Bool) (R : Nat) : Prop where
  l : da.length = th.length
  d : Byt da
  b : Byt p
  z : lead th = 0
  r : R ≤ p.length
  n : p.length + th.length ≤ 10000
theorem inN_len2 (off win : Int) (s : ByteArray) (da : List Int) (th : List Bool) (M : Nat) (h1 : da.length ≤ M) (h2 : off + s.size ≤ M) : ∀ i, i ≤ s.size → (inN off win s (da, th, 0) i).1.length ≤ M
  | 0, _ => h1
  | i + 1, hi => by
    have ih := inN_len2 off win s da th M h1 h2 i (by omega)
    rw [inN]
    generalize inN off win s (da, th, 0) i = st at ih
    unfold inS
    split
    · exact ih
    · split
      · show (ext st.1 0 _).length ≤ M; rw [ext_len]; omega
      · show ((ext st.1 0 _).set _ _).length ≤ M; rw [List.length_set, ext_len]; omega
theorem inv_in {p da : List Int} {th : List Bool} {R : Nat} (h : Inv p da th R) (f fr room frm off win : Int) (s : ByteArray) (hf : U32 f) (hfr : -4999 ≤ fr ∧ fr ≤ 4999) (hr : 1 ≤ room ∧ room ≤ 65535) (hs : s.size ≤ 4096) (hfrm : frm = (f + fr) % 4294967296) (ho : off = fr - p.length) (hw : win = room - ((p.drop R).length : Int)) :
    seq_Diff.f frm ((f + p.length) % 4294967296) = some off ∧
    ∃ p' da' th', p' = p ++ (inN off win s (da, th, 0) s.size).1.take (lead (inN off win s (da, th, 0) s.size).2.1) ∧ da' = (inN off win s (da, th, 0) s.size).1.drop (lead (inN off win s (da, th, 0) s.size).2.1) ∧ th' = (inN off win s (da, th, 0) s.size).2.1.drop (lead (inN off win s (da, th, 0) s.size).2.1) ∧
      Inv p' da' th' R ∧ (f + p'.length) % 4294967296 = ((f + p.length) % 4294967296 + lead (inN off win s (da, th, 0) s.size).2.1) % 4294967296 ∧ p'.drop R = p.drop R ++ (inN off win s (da, th, 0) s.size).1.take (lead (inN off win s (da, th, 0) s.size).2.1) ∧
      patchbayref3_Recv_In.f 1000000 f room (p ++ mk da th) R frm s = some (f, room, p' ++ mk da' th', (R : Int), (((inN off win s (da, th, 0) s.size).2.2 : Nat) : Int)) := by
  obtain ⟨hl, hd, hb, hz, hR, hn⟩ := h
  unfold U32 at hf
  have hdl : (p.drop R).length = p.length - R := List.length_drop
  rw [hdl] at hw
  have hfU : U32 frm := by unfold U32; omega
  have hsd : sd frm ((f + p.length) % 4294967296) = off := by unfold sd; omega
  refine ⟨by rw [sdiff_v frm _ hfU (by unfold U32; omega), hsd], _, _, _, rfl, rfl, rfl, ?_, ?_, ?_, ?_⟩
  · have h1 := (inN_len off win s (da, th, 0) hl 100000 (by show da.length ≤ 100000; omega) (by omega) s.size).1
    have h2 := inN_len2 off win s da th (10000 - p.length) (by omega) (by omega) s.size (Nat.le_refl _)
    have h3 := (inN_more off win s da th hd s.size).1
    have h4 := lead_le (inN off win s (da, th, 0) s.size).2.1
    generalize inN off win s (da, th, 0) s.size = st at *
    refine ⟨by rw [List.length_drop, List.length_drop, h1], fun x hx => h3 x (List.mem_of_mem_drop hx), fun x hx => ?_, lead_lead _, by rw [List.length_append]; omega, by rw [List.length_append, List.length_take, List.length_drop]; omega⟩
    rcases List.mem_append.1 hx with hx | hx
    · exact hb x hx
    · exact h3 x (List.mem_of_mem_take hx)
  · have h1 := (inN_len off win s (da, th, 0) hl 100000 (by show da.length ≤ 100000; omega) (by omega) s.size).1
    have h4 := lead_le (inN off win s (da, th, 0) s.size).2.1
    generalize inN off win s (da, th, 0) s.size = st at *
    rw [List.length_append, List.length_take, Nat.min_eq_left (by omega)]
    omega
  · rw [List.drop_append_of_le_length hR]
  · have h1 := (inN_len off win s (da, th, 0) hl 100000 (by show da.length ≤ 100000; omega) (by omega) s.size).1
    rw [in_v 1000000 s f room R off win frm p da th hl hd hb (gap_mk da th hl hz) (by omega) (by omega) (by omega) (by omega) (by omega) hs (by unfold U32; omega) hfU hsd (by omega) (by omega)]
    rw [List.append_assoc, ← mk_lead _ _ h1]
theorem inv_take {p da : List Int} {th : List Bool} {R : Nat} (h : Inv p da th R) (f room mo : Int) (hm : 0 ≤ mo) : ∃ n : Nat, (mo = (n : Int) ∨ ((p.drop R).length : Int) < mo ∧ n = (p.drop R).length) ∧ n ≤ (p.drop R).length ∧ Inv p da th (R + n) ∧ p.drop (R + n) = (p.drop R).drop n ∧
    patchbayref3_Recv_Take.f 1000000 f room (p ++ mk da th) R mo = some (f, room, p ++ mk da th, ((R + n : Nat) : Int), strOfNums ((p.drop R).take n)) := by
  obtain ⟨hl, hd, hb, hz, hR, hn⟩ := h
  have hdl : (p.drop R).length = p.length - R := List.length_drop
  rw [hdl]
  refine ⟨min mo.toNat (p.length - R), by omega, by omega, ⟨hl, hd, hb, hz, by omega, hn⟩, by rw [List.drop_drop], ?_⟩
  exact take_v 1000000 f room mo p (mk da th) R _ hb (gap_mk da th hl hz) (by omega) hR (by omega) (by omega)
end Go.Proofs.Ytcllcjflgeiehaa.PRecvPlays
