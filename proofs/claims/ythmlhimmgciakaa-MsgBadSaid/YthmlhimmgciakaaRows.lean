/-
  No cell of these rows narrows 'for every input' (looked for: loops, veiled, ifaces, maps, wideKeys, modest, calm, conditions, laid).
  DERIVED. THE GIVEN ROWS OF THIS SEAT. 5 by the template 'for every input the law returns true; each argument reads behind the call as it read before'; 0 by the template 'total and deterministic' (their statements: YthmlhimmgciakaaTotals.lean).
  GIVEN WITH THE SEED: the statements are not yours to turn. If you find one false, say at which input.
  Laid BY PROGRAM, IN A SANDBOX (cutbox-rows.mjs): the forced cells as the released guide's own fill.sh prints them over the translation c9ff4c91ac9fe721… (all of the seat's roots in one cut). By AI agents, Wed Nov 11 2026. No macro, syntax, notation, axiom, sorry.
-/
import Derived.Test.YthmlhimmgciakaaChecked
import GoSem.Claim
import GoSem.ClaimJoined
import GoSem.ClaimMapViews
import Derived.JoinedTies
import Derived.KernelRfl
namespace Go.Proofs.Ythmlhimmgciakaa
/- THE CELL 'sum', in the pinned program and in every row, IS THE sha256 OF THE DUMP (.gsa) THAT YthmlhimmgciakaaProg.lean LOADS. Nothing in Lean hashes anything: it is a label: what it is worth is what the hold of that sum in a sandbox is worth. -/
noncomputable def Try.pinned : Pinned := { name := "ythmlhimmgciakaa", sum := "c9ff4c91ac9fe7214b3569754fff4d35b97df5c8c54a74fdd7e8f6a7a1f75239", checked := Try.checked }
namespace Rows
def none {H : Type} : Left H := { results := [], args := [] }

/-- 'ridgewaylaw03.MsgIs': WHATEVER THE INPUT: true; the input reads as it did. -/
def msgIsSpec : ChangeSpec := { name := "msgIs", fn := fun _ => fun
  | [d1, d2, d3] => { results := [.lit (.bool true)], args := [d1, d2, d3] }
  | _ => none }
def msgIsRow : OpenClaim := { program := "ythmlhimmgciakaa", sum := "c9ff4c91ac9fe7214b3569754fff4d35b97df5c8c54a74fdd7e8f6a7a1f75239", func := "ridgeway/ridgewaylaw03.MsgIs", spec := "msgIs", inPlace := ["internal/bytealg.MakeNoZero"], unfollowed := true, recurses := true, apart := false }
def MsgIsSaid : Prop := msgIsRow.holds Try.pinned (OpenSpec.ofChange msgIsSpec)

/-- ITS FALSE NEIGHBOUR: 'it returns false'. Refute it at one input. -/
def msgIsWrong : ChangeSpec := { name := "msgIs", fn := fun _ => fun
  | [d1, d2, d3] => { results := [.lit (.bool false)], args := [d1, d2, d3] }
  | _ => none }
def MsgIsWrongFalsely : Prop := msgIsRow.holds Try.pinned (OpenSpec.ofChange msgIsWrong)

/-- 'ridgewaylaw03.MsgBack': WHATEVER THE INPUT: true; the input reads as it did. -/
def msgBackSpec : ChangeSpec := { name := "msgBack", fn := fun _ => fun
  | [d1, d2, d3] => { results := [.lit (.bool true)], args := [d1, d2, d3] }
  | _ => none }
def msgBackRow : OpenClaim := { program := "ythmlhimmgciakaa", sum := "c9ff4c91ac9fe7214b3569754fff4d35b97df5c8c54a74fdd7e8f6a7a1f75239", func := "ridgeway/ridgewaylaw03.MsgBack", spec := "msgBack", inPlace := ["internal/bytealg.MakeNoZero"], unfollowed := true, recurses := true, apart := false }
def MsgBackSaid : Prop := msgBackRow.holds Try.pinned (OpenSpec.ofChange msgBackSpec)

/-- ITS FALSE NEIGHBOUR: 'it returns false'. Refute it at one input. -/
def msgBackWrong : ChangeSpec := { name := "msgBack", fn := fun _ => fun
  | [d1, d2, d3] => { results := [.lit (.bool false)], args := [d1, d2, d3] }
  | _ => none }
def MsgBackWrongFalsely : Prop := msgBackRow.holds Try.pinned (OpenSpec.ofChange msgBackWrong)

/-- 'ridgewaylaw03.MsgGot': WHATEVER THE INPUT: true; the input reads as it did. -/
def msgGotSpec : ChangeSpec := { name := "msgGot", fn := fun _ => fun
  | [d] => { results := [.lit (.bool true)], args := [d] }
  | _ => none }
def msgGotRow : OpenClaim := { program := "ythmlhimmgciakaa", sum := "c9ff4c91ac9fe7214b3569754fff4d35b97df5c8c54a74fdd7e8f6a7a1f75239", func := "ridgeway/ridgewaylaw03.MsgGot", spec := "msgGot", inPlace := ["internal/bytealg.MakeNoZero"], unfollowed := true, recurses := true, apart := false }
def MsgGotSaid : Prop := msgGotRow.holds Try.pinned (OpenSpec.ofChange msgGotSpec)

/-- ITS FALSE NEIGHBOUR: 'it returns false'. Refute it at one input. -/
def msgGotWrong : ChangeSpec := { name := "msgGot", fn := fun _ => fun
  | [d] => { results := [.lit (.bool false)], args := [d] }
  | _ => none }
def MsgGotWrongFalsely : Prop := msgGotRow.holds Try.pinned (OpenSpec.ofChange msgGotWrong)

/-- 'ridgewaylaw03.MsgBad': WHATEVER THE INPUT: true; the input reads as it did. -/
def msgBadSpec : ChangeSpec := { name := "msgBad", fn := fun _ => fun
  | [d1, d2, d3, d4] => { results := [.lit (.bool true)], args := [d1, d2, d3, d4] }
  | _ => none }
def msgBadRow : OpenClaim := { program := "ythmlhimmgciakaa", sum := "c9ff4c91ac9fe7214b3569754fff4d35b97df5c8c54a74fdd7e8f6a7a1f75239", func := "ridgeway/ridgewaylaw03.MsgBad", spec := "msgBad", inPlace := ["internal/bytealg.MakeNoZero"], unfollowed := true, recurses := true, apart := false }
def MsgBadSaid : Prop := msgBadRow.holds Try.pinned (OpenSpec.ofChange msgBadSpec)

/-- ITS FALSE NEIGHBOUR: 'it returns false'. Refute it at one input. -/
def msgBadWrong : ChangeSpec := { name := "msgBad", fn := fun _ => fun
  | [d1, d2, d3, d4] => { results := [.lit (.bool false)], args := [d1, d2, d3, d4] }
  | _ => none }
def MsgBadWrongFalsely : Prop := msgBadRow.holds Try.pinned (OpenSpec.ofChange msgBadWrong)

/-- 'ridgewaylaw03.MsgTwo': WHATEVER THE INPUT: true; the input reads as it did. -/
def msgTwoSpec : ChangeSpec := { name := "msgTwo", fn := fun _ => fun
  | [d1, d2] => { results := [.lit (.bool true)], args := [d1, d2] }
  | _ => none }
def msgTwoRow : OpenClaim := { program := "ythmlhimmgciakaa", sum := "c9ff4c91ac9fe7214b3569754fff4d35b97df5c8c54a74fdd7e8f6a7a1f75239", func := "ridgeway/ridgewaylaw03.MsgTwo", spec := "msgTwo", inPlace := ["internal/bytealg.MakeNoZero"], unfollowed := true, recurses := true, apart := false }
def MsgTwoSaid : Prop := msgTwoRow.holds Try.pinned (OpenSpec.ofChange msgTwoSpec)

/-- ITS FALSE NEIGHBOUR: 'it returns false'. Refute it at one input. -/
def msgTwoWrong : ChangeSpec := { name := "msgTwo", fn := fun _ => fun
  | [d1, d2] => { results := [.lit (.bool false)], args := [d1, d2] }
  | _ => none }
def MsgTwoWrongFalsely : Prop := msgTwoRow.holds Try.pinned (OpenSpec.ofChange msgTwoWrong)

/- THE SECOND FORM. 'bulk': how many values and letters a reading holds, each counted each time it is reached (what is shared counts as often as it is met; a slice's spare places count too). A statement '..UptoSaid' is the law's where the arguments, and the package variables that the reading takes, are together of bulk at most 1048576: NARROWER than '..Said'. Prove '..Said' where nothing that the law and all that it calls make is longer than what came in: it says more and counts as full. Else prove '..UptoSaid'. A law counts once. -/
mutual
def uptoBulk {H : Type} : DataW H → Nat
  | .lit (.string bytes) => bytes.length + 1
  | .lit _ => 1
  | .nil => 1
  | .ptr d => uptoBulk d + 1
  | .slice elems spare => uptoBulkAll elems + uptoBulkAll spare + 1
  | .agg parts => uptoBulkAll parts + 1
  | .iface _ d => uptoBulk d + 1
  | .map entries => uptoBulkEntries entries + 1
  | .held _ => 1
def uptoBulkAll {H : Type} : List (DataW H) → Nat
  | [] => 0
  | d :: r => uptoBulk d + uptoBulkAll r
def uptoBulkEntries {H : Type} : List (Lit × DataW H) → Nat
  | [] => 0
  | x :: r => uptoBulkEntry x + uptoBulkEntries r
def uptoBulkEntry {H : Type} : Lit × DataW H → Nat
  | (.string bytes, d) => bytes.length + uptoBulk d + 1
  | (_, d) => uptoBulk d + 1
 end
def uptoSmall : (H : Type) → List (DataW H) → Bool := fun _ ds => decide (uptoBulkAll ds ≤ 1048576)
def OpenSpec.upto (s : _root_.Go.ChangeSpec) : _root_.Go.OpenSpec := { _root_.Go.OpenSpec.ofChange s with cond := some uptoSmall }

/-- 'ridgewaylaw03.MsgIs', WHERE WHAT IT READS IS OF BULK AT MOST 1048576: true; the input reads as it did. -/
def msgIsUptoRow : OpenClaim := { program := "ythmlhimmgciakaa", sum := "c9ff4c91ac9fe7214b3569754fff4d35b97df5c8c54a74fdd7e8f6a7a1f75239", func := "ridgeway/ridgewaylaw03.MsgIs", spec := "msgIs", inPlace := ["internal/bytealg.MakeNoZero"], unfollowed := true, recurses := true, apart := false, narrowed := true }
def MsgIsUptoSaid : Prop := msgIsUptoRow.holds Try.pinned (OpenSpec.upto msgIsSpec)

/-- 'ridgewaylaw03.MsgBack', WHERE WHAT IT READS IS OF BULK AT MOST 1048576: true; the input reads as it did. -/
def msgBackUptoRow : OpenClaim := { program := "ythmlhimmgciakaa", sum := "c9ff4c91ac9fe7214b3569754fff4d35b97df5c8c54a74fdd7e8f6a7a1f75239", func := "ridgeway/ridgewaylaw03.MsgBack", spec := "msgBack", inPlace := ["internal/bytealg.MakeNoZero"], unfollowed := true, recurses := true, apart := false, narrowed := true }
def MsgBackUptoSaid : Prop := msgBackUptoRow.holds Try.pinned (OpenSpec.upto msgBackSpec)

/-- 'ridgewaylaw03.MsgGot', WHERE WHAT IT READS IS OF BULK AT MOST 1048576: true; the input reads as it did. -/
def msgGotUptoRow : OpenClaim := { program := "ythmlhimmgciakaa", sum := "c9ff4c91ac9fe7214b3569754fff4d35b97df5c8c54a74fdd7e8f6a7a1f75239", func := "ridgeway/ridgewaylaw03.MsgGot", spec := "msgGot", inPlace := ["internal/bytealg.MakeNoZero"], unfollowed := true, recurses := true, apart := false, narrowed := true }
def MsgGotUptoSaid : Prop := msgGotUptoRow.holds Try.pinned (OpenSpec.upto msgGotSpec)

/-- 'ridgewaylaw03.MsgBad', WHERE WHAT IT READS IS OF BULK AT MOST 1048576: true; the input reads as it did. -/
def msgBadUptoRow : OpenClaim := { program := "ythmlhimmgciakaa", sum := "c9ff4c91ac9fe7214b3569754fff4d35b97df5c8c54a74fdd7e8f6a7a1f75239", func := "ridgeway/ridgewaylaw03.MsgBad", spec := "msgBad", inPlace := ["internal/bytealg.MakeNoZero"], unfollowed := true, recurses := true, apart := false, narrowed := true }
def MsgBadUptoSaid : Prop := msgBadUptoRow.holds Try.pinned (OpenSpec.upto msgBadSpec)

/-- 'ridgewaylaw03.MsgTwo', WHERE WHAT IT READS IS OF BULK AT MOST 1048576: true; the input reads as it did. -/
def msgTwoUptoRow : OpenClaim := { program := "ythmlhimmgciakaa", sum := "c9ff4c91ac9fe7214b3569754fff4d35b97df5c8c54a74fdd7e8f6a7a1f75239", func := "ridgeway/ridgewaylaw03.MsgTwo", spec := "msgTwo", inPlace := ["internal/bytealg.MakeNoZero"], unfollowed := true, recurses := true, apart := false, narrowed := true }
def MsgTwoUptoSaid : Prop := msgTwoUptoRow.holds Try.pinned (OpenSpec.upto msgTwoSpec)

end Rows
end Go.Proofs.Ythmlhimmgciakaa
