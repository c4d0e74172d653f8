/-
  No cell of these rows narrows 'for every input' (looked for: loops, veiled, ifaces, maps, wideKeys, modest, calm, conditions, laid).
  DERIVED. THE GIVEN ROWS OF THIS SEAT. 7 by the template 'for every input the law returns true; each argument reads behind the call as it read before'; 0 by the template 'total and deterministic' (their statements: YtjiiejeldgkdiaaTotals.lean).
  GIVEN WITH THE SEED: the statements are not yours to turn. If you find one false, say at which input.
  Laid BY PROGRAM, IN A SANDBOX (cutbox-rows.mjs): the forced cells as the released guide's own fill.sh prints them over the translation 743de4759e923c78… (all of the seat's roots in one cut). By AI agents, Wed Nov 11 2026. No macro, syntax, notation, axiom, sorry.
-/
import Derived.Test.YtjiiejeldgkdiaaChecked
import GoSem.Claim
import GoSem.ClaimJoined
import GoSem.ClaimMapViews
import Derived.JoinedTies
import Derived.KernelRfl
namespace Go.Proofs.Ytjiiejeldgkdiaa
/- THE CELL 'sum', in the pinned program and in every row, IS THE sha256 OF THE DUMP (.gsa) THAT YtjiiejeldgkdiaaProg.lean LOADS. Nothing in Lean hashes anything: it is a label: what it is worth is what the hold of that sum in a sandbox is worth. -/
noncomputable def Try.pinned : Pinned := { name := "ytjiiejeldgkdiaa", sum := "743de4759e923c786b535ce24d26b099885d2e479fce589f90036d97fdbb3c73", checked := Try.checked }
namespace Rows
def none {H : Type} : Left H := { results := [], args := [] }

/-- 'patchbaylaw3.SeqSays': WHATEVER THE INPUT: true; the input reads as it did. -/
def seqSaysSpec : ChangeSpec := { name := "seqSays", fn := fun _ => fun
  | [d1, d2, d3, d4] => { results := [.lit (.bool true)], args := [d1, d2, d3, d4] }
  | _ => none }
def seqSaysRow : OpenClaim := { program := "ytjiiejeldgkdiaa", sum := "743de4759e923c786b535ce24d26b099885d2e479fce589f90036d97fdbb3c73", func := "patchbay/patchbaylaw3.SeqSays", spec := "seqSays", apart := false }
def SeqSaysSaid : Prop := seqSaysRow.holds Try.pinned (OpenSpec.ofChange seqSaysSpec)

/-- ITS FALSE NEIGHBOUR: 'it returns false'. Refute it at one input. -/
def seqSaysWrong : ChangeSpec := { name := "seqSays", fn := fun _ => fun
  | [d1, d2, d3, d4] => { results := [.lit (.bool false)], args := [d1, d2, d3, d4] }
  | _ => none }
def SeqSaysWrongFalsely : Prop := seqSaysRow.holds Try.pinned (OpenSpec.ofChange seqSaysWrong)

/-- 'patchbaylaw3.StreamRefuses': WHATEVER THE INPUT: true; the input reads as it did. -/
def streamRefusesSpec : ChangeSpec := { name := "streamRefuses", fn := fun _ => fun
  | [d] => { results := [.lit (.bool true)], args := [d] }
  | _ => none }
def streamRefusesRow : OpenClaim := { program := "ytjiiejeldgkdiaa", sum := "743de4759e923c786b535ce24d26b099885d2e479fce589f90036d97fdbb3c73", func := "patchbay/patchbaylaw3.StreamRefuses", spec := "streamRefuses", apart := false }
def StreamRefusesSaid : Prop := streamRefusesRow.holds Try.pinned (OpenSpec.ofChange streamRefusesSpec)

/-- ITS FALSE NEIGHBOUR: 'it returns false'. Refute it at one input. -/
def streamRefusesWrong : ChangeSpec := { name := "streamRefuses", fn := fun _ => fun
  | [d] => { results := [.lit (.bool false)], args := [d] }
  | _ => none }
def StreamRefusesWrongFalsely : Prop := streamRefusesRow.holds Try.pinned (OpenSpec.ofChange streamRefusesWrong)

/-- 'patchbaylaw3.TripSays': WHATEVER THE INPUT: true; the input reads as it did. -/
def tripSaysSpec : ChangeSpec := { name := "tripSays", fn := fun _ => fun
  | [d1, d2] => { results := [.lit (.bool true)], args := [d1, d2] }
  | _ => none }
def tripSaysRow : OpenClaim := { program := "ytjiiejeldgkdiaa", sum := "743de4759e923c786b535ce24d26b099885d2e479fce589f90036d97fdbb3c73", func := "patchbay/patchbaylaw3.TripSays", spec := "tripSays", apart := false }
def TripSaysSaid : Prop := tripSaysRow.holds Try.pinned (OpenSpec.ofChange tripSaysSpec)

/-- ITS FALSE NEIGHBOUR: 'it returns false'. Refute it at one input. -/
def tripSaysWrong : ChangeSpec := { name := "tripSays", fn := fun _ => fun
  | [d1, d2] => { results := [.lit (.bool false)], args := [d1, d2] }
  | _ => none }
def TripSaysWrongFalsely : Prop := tripSaysRow.holds Try.pinned (OpenSpec.ofChange tripSaysWrong)

/-- 'patchbaylaw3.CrowdSays': WHATEVER THE INPUT: true; the input reads as it did. -/
def crowdSaysSpec : ChangeSpec := { name := "crowdSays", fn := fun _ => fun
  | [d1, d2, d3, d4, d5, d6] => { results := [.lit (.bool true)], args := [d1, d2, d3, d4, d5, d6] }
  | _ => none }
def crowdSaysRow : OpenClaim := { program := "ytjiiejeldgkdiaa", sum := "743de4759e923c786b535ce24d26b099885d2e479fce589f90036d97fdbb3c73", func := "patchbay/patchbaylaw3.CrowdSays", spec := "crowdSays", apart := false }
def CrowdSaysSaid : Prop := crowdSaysRow.holds Try.pinned (OpenSpec.ofChange crowdSaysSpec)

/-- ITS FALSE NEIGHBOUR: 'it returns false'. Refute it at one input. -/
def crowdSaysWrong : ChangeSpec := { name := "crowdSays", fn := fun _ => fun
  | [d1, d2, d3, d4, d5, d6] => { results := [.lit (.bool false)], args := [d1, d2, d3, d4, d5, d6] }
  | _ => none }
def CrowdSaysWrongFalsely : Prop := crowdSaysRow.holds Try.pinned (OpenSpec.ofChange crowdSaysWrong)

/-- 'patchbaylaw3.SackSays': WHATEVER THE INPUT: true; the input reads as it did. -/
def sackSaysSpec : ChangeSpec := { name := "sackSays", fn := fun _ => fun
  | [d1, d2, d3, d4, d5] => { results := [.lit (.bool true)], args := [d1, d2, d3, d4, d5] }
  | _ => none }
def sackSaysRow : OpenClaim := { program := "ytjiiejeldgkdiaa", sum := "743de4759e923c786b535ce24d26b099885d2e479fce589f90036d97fdbb3c73", func := "patchbay/patchbaylaw3.SackSays", spec := "sackSays", apart := false }
def SackSaysSaid : Prop := sackSaysRow.holds Try.pinned (OpenSpec.ofChange sackSaysSpec)

/-- ITS FALSE NEIGHBOUR: 'it returns false'. Refute it at one input. -/
def sackSaysWrong : ChangeSpec := { name := "sackSays", fn := fun _ => fun
  | [d1, d2, d3, d4, d5] => { results := [.lit (.bool false)], args := [d1, d2, d3, d4, d5] }
  | _ => none }
def SackSaysWrongFalsely : Prop := sackSaysRow.holds Try.pinned (OpenSpec.ofChange sackSaysWrong)

/-- 'patchbaylaw3.SegSays': WHATEVER THE INPUT: true; the input reads as it did. -/
def segSaysSpec : ChangeSpec := { name := "segSays", fn := fun _ => fun
  | [d1, d2, d3, d4] => { results := [.lit (.bool true)], args := [d1, d2, d3, d4] }
  | _ => none }
def segSaysRow : OpenClaim := { program := "ytjiiejeldgkdiaa", sum := "743de4759e923c786b535ce24d26b099885d2e479fce589f90036d97fdbb3c73", func := "patchbay/patchbaylaw3.SegSays", spec := "segSays", recurses := true, apart := false }
def SegSaysSaid : Prop := segSaysRow.holds Try.pinned (OpenSpec.ofChange segSaysSpec)

/-- ITS FALSE NEIGHBOUR: 'it returns false'. Refute it at one input. -/
def segSaysWrong : ChangeSpec := { name := "segSays", fn := fun _ => fun
  | [d1, d2, d3, d4] => { results := [.lit (.bool false)], args := [d1, d2, d3, d4] }
  | _ => none }
def SegSaysWrongFalsely : Prop := segSaysRow.holds Try.pinned (OpenSpec.ofChange segSaysWrong)

/-- 'patchbaylaw3.DgramSays': WHATEVER THE INPUT: true; the input reads as it did. -/
def dgramSaysSpec : ChangeSpec := { name := "dgramSays", fn := fun _ => fun
  | [d1, d2, d3, d4] => { results := [.lit (.bool true)], args := [d1, d2, d3, d4] }
  | _ => none }
def dgramSaysRow : OpenClaim := { program := "ytjiiejeldgkdiaa", sum := "743de4759e923c786b535ce24d26b099885d2e479fce589f90036d97fdbb3c73", func := "patchbay/patchbaylaw3.DgramSays", spec := "dgramSays", recurses := true, apart := false }
def DgramSaysSaid : Prop := dgramSaysRow.holds Try.pinned (OpenSpec.ofChange dgramSaysSpec)

/-- ITS FALSE NEIGHBOUR: 'it returns false'. Refute it at one input. -/
def dgramSaysWrong : ChangeSpec := { name := "dgramSays", fn := fun _ => fun
  | [d1, d2, d3, d4] => { results := [.lit (.bool false)], args := [d1, d2, d3, d4] }
  | _ => none }
def DgramSaysWrongFalsely : Prop := dgramSaysRow.holds Try.pinned (OpenSpec.ofChange dgramSaysWrong)

/- THE SECOND FORM. 'bulk': how many values and letters a reading holds, each counted each time it is reached (what is shared counts as often as it is met; a slice's spare places count too). A statement '..UptoSaid' is the law's where the arguments, and the package variables that the reading takes, are together of bulk at most 1048576: NARROWER than '..Said'. Prove '..Said' where nothing that the law and all that it calls make is longer than what came in: it says more and counts as full. Else prove '..UptoSaid'. A law counts once. -/
mutual
def uptoBulk {H : Type} : DataW H → Nat
  | .lit (.string bytes) => bytes.length + 1
  | .lit _ => 1
  | .nil => 1
  | .ptr d => uptoBulk d + 1
  | .slice elems spare => uptoBulkAll elems + uptoBulkAll spare + 1
  | .agg parts => uptoBulkAll parts + 1
  | .iface _ d => uptoBulk d + 1
  | .map entries => uptoBulkEntries entries + 1
  | .held _ => 1
def uptoBulkAll {H : Type} : List (DataW H) → Nat
  | [] => 0
  | d :: r => uptoBulk d + uptoBulkAll r
def uptoBulkEntries {H : Type} : List (Lit × DataW H) → Nat
  | [] => 0
  | x :: r => uptoBulkEntry x + uptoBulkEntries r
def uptoBulkEntry {H : Type} : Lit × DataW H → Nat
  | (.string bytes, d) => bytes.length + uptoBulk d + 1
  | (_, d) => uptoBulk d + 1
 end
def uptoSmall : (H : Type) → List (DataW H) → Bool := fun _ ds => decide (uptoBulkAll ds ≤ 1048576)
def OpenSpec.upto (s : _root_.Go.ChangeSpec) : _root_.Go.OpenSpec := { _root_.Go.OpenSpec.ofChange s with cond := some uptoSmall }

/-- 'patchbaylaw3.SeqSays', WHERE WHAT IT READS IS OF BULK AT MOST 1048576: true; the input reads as it did. -/
def seqSaysUptoRow : OpenClaim := { program := "ytjiiejeldgkdiaa", sum := "743de4759e923c786b535ce24d26b099885d2e479fce589f90036d97fdbb3c73", func := "patchbay/patchbaylaw3.SeqSays", spec := "seqSays", apart := false, narrowed := true }
def SeqSaysUptoSaid : Prop := seqSaysUptoRow.holds Try.pinned (OpenSpec.upto seqSaysSpec)

/-- 'patchbaylaw3.StreamRefuses', WHERE WHAT IT READS IS OF BULK AT MOST 1048576: true; the input reads as it did. -/
def streamRefusesUptoRow : OpenClaim := { program := "ytjiiejeldgkdiaa", sum := "743de4759e923c786b535ce24d26b099885d2e479fce589f90036d97fdbb3c73", func := "patchbay/patchbaylaw3.StreamRefuses", spec := "streamRefuses", apart := false, narrowed := true }
def StreamRefusesUptoSaid : Prop := streamRefusesUptoRow.holds Try.pinned (OpenSpec.upto streamRefusesSpec)

/-- 'patchbaylaw3.TripSays', WHERE WHAT IT READS IS OF BULK AT MOST 1048576: true; the input reads as it did. -/
def tripSaysUptoRow : OpenClaim := { program := "ytjiiejeldgkdiaa", sum := "743de4759e923c786b535ce24d26b099885d2e479fce589f90036d97fdbb3c73", func := "patchbay/patchbaylaw3.TripSays", spec := "tripSays", apart := false, narrowed := true }
def TripSaysUptoSaid : Prop := tripSaysUptoRow.holds Try.pinned (OpenSpec.upto tripSaysSpec)

/-- 'patchbaylaw3.CrowdSays', WHERE WHAT IT READS IS OF BULK AT MOST 1048576: true; the input reads as it did. -/
def crowdSaysUptoRow : OpenClaim := { program := "ytjiiejeldgkdiaa", sum := "743de4759e923c786b535ce24d26b099885d2e479fce589f90036d97fdbb3c73", func := "patchbay/patchbaylaw3.CrowdSays", spec := "crowdSays", apart := false, narrowed := true }
def CrowdSaysUptoSaid : Prop := crowdSaysUptoRow.holds Try.pinned (OpenSpec.upto crowdSaysSpec)

/-- 'patchbaylaw3.SackSays', WHERE WHAT IT READS IS OF BULK AT MOST 1048576: true; the input reads as it did. -/
def sackSaysUptoRow : OpenClaim := { program := "ytjiiejeldgkdiaa", sum := "743de4759e923c786b535ce24d26b099885d2e479fce589f90036d97fdbb3c73", func := "patchbay/patchbaylaw3.SackSays", spec := "sackSays", apart := false, narrowed := true }
def SackSaysUptoSaid : Prop := sackSaysUptoRow.holds Try.pinned (OpenSpec.upto sackSaysSpec)

/-- 'patchbaylaw3.SegSays', WHERE WHAT IT READS IS OF BULK AT MOST 1048576: true; the input reads as it did. -/
def segSaysUptoRow : OpenClaim := { program := "ytjiiejeldgkdiaa", sum := "743de4759e923c786b535ce24d26b099885d2e479fce589f90036d97fdbb3c73", func := "patchbay/patchbaylaw3.SegSays", spec := "segSays", recurses := true, apart := false, narrowed := true }
def SegSaysUptoSaid : Prop := segSaysUptoRow.holds Try.pinned (OpenSpec.upto segSaysSpec)

/-- 'patchbaylaw3.DgramSays', WHERE WHAT IT READS IS OF BULK AT MOST 1048576: true; the input reads as it did. -/
def dgramSaysUptoRow : OpenClaim := { program := "ytjiiejeldgkdiaa", sum := "743de4759e923c786b535ce24d26b099885d2e479fce589f90036d97fdbb3c73", func := "patchbay/patchbaylaw3.DgramSays", spec := "dgramSays", recurses := true, apart := false, narrowed := true }
def DgramSaysUptoSaid : Prop := dgramSaysUptoRow.holds Try.pinned (OpenSpec.upto dgramSaysSpec)

end Rows
end Go.Proofs.Ytjiiejeldgkdiaa
