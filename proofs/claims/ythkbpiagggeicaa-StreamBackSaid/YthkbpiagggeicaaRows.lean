/-
  No cell of these rows narrows 'for every input' (looked for: loops, veiled, ifaces, maps, wideKeys, modest, calm, conditions, laid).
  DERIVED. THE GIVEN ROWS OF THIS SEAT. 4 by the template 'for every input the law returns true; each argument reads behind the call as it read before'; 0 by the template 'total and deterministic' (their statements: YthkbpiagggeicaaTotals.lean).
  GIVEN WITH THE SEED: the statements are not yours to turn. If you find one false, say at which input.
  Laid BY PROGRAM, IN A SANDBOX (cutbox-rows.mjs): the forced cells as the released guide's own fill.sh prints them over the translation 3002a165129bccd0… (all of the seat's roots in one cut). By AI agents, Wed Nov 11 2026. No macro, syntax, notation, axiom, sorry.
-/
import Derived.Test.YthkbpiagggeicaaChecked
import GoSem.Claim
import GoSem.ClaimJoined
import GoSem.ClaimMapViews
import Derived.JoinedTies
import Derived.KernelRfl
namespace Go.Proofs.Ythkbpiagggeicaa
/- THE CELL 'sum', in the pinned program and in every row, IS THE sha256 OF THE DUMP (.gsa) THAT YthkbpiagggeicaaProg.lean LOADS. Nothing in Lean hashes anything: it is a label: what it is worth is what the hold of that sum in a sandbox is worth. -/
noncomputable def Try.pinned : Pinned := { name := "ythkbpiagggeicaa", sum := "3002a165129bccd032c70ffa27392533fd1c3e05a26ce451321477f1cd7de2e5", checked := Try.checked }
namespace Rows
def none {H : Type} : Left H := { results := [], args := [] }

/-- 'ridgewaylaw04.StreamIs': WHATEVER THE INPUT: true; the input reads as it did. -/
def streamIsSpec : ChangeSpec := { name := "streamIs", fn := fun _ => fun
  | [d1, d2] => { results := [.lit (.bool true)], args := [d1, d2] }
  | _ => none }
def streamIsRow : OpenClaim := { program := "ythkbpiagggeicaa", sum := "3002a165129bccd032c70ffa27392533fd1c3e05a26ce451321477f1cd7de2e5", func := "ridgeway/ridgewaylaw04.StreamIs", spec := "streamIs", inPlace := ["internal/bytealg.MakeNoZero"], unfollowed := true, recurses := true, apart := false }
def StreamIsSaid : Prop := streamIsRow.holds Try.pinned (OpenSpec.ofChange streamIsSpec)

/-- ITS FALSE NEIGHBOUR: 'it returns false'. Refute it at one input. -/
def streamIsWrong : ChangeSpec := { name := "streamIs", fn := fun _ => fun
  | [d1, d2] => { results := [.lit (.bool false)], args := [d1, d2] }
  | _ => none }
def StreamIsWrongFalsely : Prop := streamIsRow.holds Try.pinned (OpenSpec.ofChange streamIsWrong)

/-- 'ridgewaylaw04.StreamParts': WHATEVER THE INPUT: true; the input reads as it did. -/
def streamPartsSpec : ChangeSpec := { name := "streamParts", fn := fun _ => fun
  | [d1, d2, d3] => { results := [.lit (.bool true)], args := [d1, d2, d3] }
  | _ => none }
def streamPartsRow : OpenClaim := { program := "ythkbpiagggeicaa", sum := "3002a165129bccd032c70ffa27392533fd1c3e05a26ce451321477f1cd7de2e5", func := "ridgeway/ridgewaylaw04.StreamParts", spec := "streamParts", inPlace := ["internal/bytealg.MakeNoZero"], unfollowed := true, recurses := true, apart := false }
def StreamPartsSaid : Prop := streamPartsRow.holds Try.pinned (OpenSpec.ofChange streamPartsSpec)

/-- ITS FALSE NEIGHBOUR: 'it returns false'. Refute it at one input. -/
def streamPartsWrong : ChangeSpec := { name := "streamParts", fn := fun _ => fun
  | [d1, d2, d3] => { results := [.lit (.bool false)], args := [d1, d2, d3] }
  | _ => none }
def StreamPartsWrongFalsely : Prop := streamPartsRow.holds Try.pinned (OpenSpec.ofChange streamPartsWrong)

/-- 'ridgewaylaw04.StreamBack': WHATEVER THE INPUT: true; the input reads as it did. -/
def streamBackSpec : ChangeSpec := { name := "streamBack", fn := fun _ => fun
  | [d1, d2] => { results := [.lit (.bool true)], args := [d1, d2] }
  | _ => none }
def streamBackRow : OpenClaim := { program := "ythkbpiagggeicaa", sum := "3002a165129bccd032c70ffa27392533fd1c3e05a26ce451321477f1cd7de2e5", func := "ridgeway/ridgewaylaw04.StreamBack", spec := "streamBack", inPlace := ["internal/bytealg.MakeNoZero"], unfollowed := true, recurses := true, apart := false }
def StreamBackSaid : Prop := streamBackRow.holds Try.pinned (OpenSpec.ofChange streamBackSpec)

/-- ITS FALSE NEIGHBOUR: 'it returns false'. Refute it at one input. -/
def streamBackWrong : ChangeSpec := { name := "streamBack", fn := fun _ => fun
  | [d1, d2] => { results := [.lit (.bool false)], args := [d1, d2] }
  | _ => none }
def StreamBackWrongFalsely : Prop := streamBackRow.holds Try.pinned (OpenSpec.ofChange streamBackWrong)

/-- 'ridgewaylaw04.StreamBad': WHATEVER THE INPUT: true; the input reads as it did. -/
def streamBadSpec : ChangeSpec := { name := "streamBad", fn := fun _ => fun
  | [d1, d2] => { results := [.lit (.bool true)], args := [d1, d2] }
  | _ => none }
def streamBadRow : OpenClaim := { program := "ythkbpiagggeicaa", sum := "3002a165129bccd032c70ffa27392533fd1c3e05a26ce451321477f1cd7de2e5", func := "ridgeway/ridgewaylaw04.StreamBad", spec := "streamBad", inPlace := ["internal/bytealg.MakeNoZero"], unfollowed := true, recurses := true, apart := false }
def StreamBadSaid : Prop := streamBadRow.holds Try.pinned (OpenSpec.ofChange streamBadSpec)

/-- ITS FALSE NEIGHBOUR: 'it returns false'. Refute it at one input. -/
def streamBadWrong : ChangeSpec := { name := "streamBad", fn := fun _ => fun
  | [d1, d2] => { results := [.lit (.bool false)], args := [d1, d2] }
  | _ => none }
def StreamBadWrongFalsely : Prop := streamBadRow.holds Try.pinned (OpenSpec.ofChange streamBadWrong)

/- THE SECOND FORM. 'bulk': how many values and letters a reading holds, each counted each time it is reached (what is shared counts as often as it is met; a slice's spare places count too). A statement '..UptoSaid' is the law's where the arguments, and the package variables that the reading takes, are together of bulk at most 1048576: NARROWER than '..Said'. Prove '..Said' where nothing that the law and all that it calls make is longer than what came in: it says more and counts as full. Else prove '..UptoSaid'. A law counts once. -/
mutual
def uptoBulk {H : Type} : DataW H → Nat
  | .lit (.string bytes) => bytes.length + 1
  | .lit _ => 1
  | .nil => 1
  | .ptr d => uptoBulk d + 1
  | .slice elems spare => uptoBulkAll elems + uptoBulkAll spare + 1
  | .agg parts => uptoBulkAll parts + 1
  | .iface _ d => uptoBulk d + 1
  | .map entries => uptoBulkEntries entries + 1
  | .held _ => 1
def uptoBulkAll {H : Type} : List (DataW H) → Nat
  | [] => 0
  | d :: r => uptoBulk d + uptoBulkAll r
def uptoBulkEntries {H : Type} : List (Lit × DataW H) → Nat
  | [] => 0
  | x :: r => uptoBulkEntry x + uptoBulkEntries r
def uptoBulkEntry {H : Type} : Lit × DataW H → Nat
  | (.string bytes, d) => bytes.length + uptoBulk d + 1
  | (_, d) => uptoBulk d + 1
 end
def uptoSmall : (H : Type) → List (DataW H) → Bool := fun _ ds => decide (uptoBulkAll ds ≤ 1048576)
def OpenSpec.upto (s : _root_.Go.ChangeSpec) : _root_.Go.OpenSpec := { _root_.Go.OpenSpec.ofChange s with cond := some uptoSmall }

/-- 'ridgewaylaw04.StreamIs', WHERE WHAT IT READS IS OF BULK AT MOST 1048576: true; the input reads as it did. -/
def streamIsUptoRow : OpenClaim := { program := "ythkbpiagggeicaa", sum := "3002a165129bccd032c70ffa27392533fd1c3e05a26ce451321477f1cd7de2e5", func := "ridgeway/ridgewaylaw04.StreamIs", spec := "streamIs", inPlace := ["internal/bytealg.MakeNoZero"], unfollowed := true, recurses := true, apart := false, narrowed := true }
def StreamIsUptoSaid : Prop := streamIsUptoRow.holds Try.pinned (OpenSpec.upto streamIsSpec)

/-- 'ridgewaylaw04.StreamParts', WHERE WHAT IT READS IS OF BULK AT MOST 1048576: true; the input reads as it did. -/
def streamPartsUptoRow : OpenClaim := { program := "ythkbpiagggeicaa", sum := "3002a165129bccd032c70ffa27392533fd1c3e05a26ce451321477f1cd7de2e5", func := "ridgeway/ridgewaylaw04.StreamParts", spec := "streamParts", inPlace := ["internal/bytealg.MakeNoZero"], unfollowed := true, recurses := true, apart := false, narrowed := true }
def StreamPartsUptoSaid : Prop := streamPartsUptoRow.holds Try.pinned (OpenSpec.upto streamPartsSpec)

/-- 'ridgewaylaw04.StreamBack', WHERE WHAT IT READS IS OF BULK AT MOST 1048576: true; the input reads as it did. -/
def streamBackUptoRow : OpenClaim := { program := "ythkbpiagggeicaa", sum := "3002a165129bccd032c70ffa27392533fd1c3e05a26ce451321477f1cd7de2e5", func := "ridgeway/ridgewaylaw04.StreamBack", spec := "streamBack", inPlace := ["internal/bytealg.MakeNoZero"], unfollowed := true, recurses := true, apart := false, narrowed := true }
def StreamBackUptoSaid : Prop := streamBackUptoRow.holds Try.pinned (OpenSpec.upto streamBackSpec)

/-- 'ridgewaylaw04.StreamBad', WHERE WHAT IT READS IS OF BULK AT MOST 1048576: true; the input reads as it did. -/
def streamBadUptoRow : OpenClaim := { program := "ythkbpiagggeicaa", sum := "3002a165129bccd032c70ffa27392533fd1c3e05a26ce451321477f1cd7de2e5", func := "ridgeway/ridgewaylaw04.StreamBad", spec := "streamBad", inPlace := ["internal/bytealg.MakeNoZero"], unfollowed := true, recurses := true, apart := false, narrowed := true }
def StreamBadUptoSaid : Prop := streamBadUptoRow.holds Try.pinned (OpenSpec.upto streamBadSpec)

end Rows
end Go.Proofs.Ythkbpiagggeicaa
