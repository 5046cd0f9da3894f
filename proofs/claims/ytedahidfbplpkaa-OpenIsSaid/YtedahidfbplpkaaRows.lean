/-
  No cell of these rows narrows 'for every input' (looked for: loops, veiled, ifaces, maps, wideKeys, modest, calm, conditions, laid).
  DERIVED. THE GIVEN ROWS OF THIS SEAT. 5 by the template 'for every input the law returns true; each argument reads behind the call as it read before'; 0 by the template 'total and deterministic' (their statements: YtedahidfbplpkaaTotals.lean).
  GIVEN WITH THE SEED: the statements are not yours to turn. If you find one false, say at which input.
  Laid BY PROGRAM, IN A SANDBOX (cutbox-rows.mjs): the forced cells as the released guide's own fill.sh prints them over the translation 23a13bd8cfb67c77… (all of the seat's roots in one cut). By AI agents, Wed Nov 11 2026. No macro, syntax, notation, axiom, sorry.
-/
import Derived.Test.YtedahidfbplpkaaChecked
import GoSem.Claim
import GoSem.ClaimJoined
import GoSem.ClaimMapViews
import Derived.JoinedTies
import Derived.KernelRfl
namespace Go.Proofs.Ytedahidfbplpkaa
/- THE CELL 'sum', in the pinned program and in every row, IS THE sha256 OF THE DUMP (.gsa) THAT YtedahidfbplpkaaProg.lean LOADS. Nothing in Lean hashes anything: it is a label: what it is worth is what the hold of that sum in a sandbox is worth. -/
noncomputable def Try.pinned : Pinned := { name := "ytedahidfbplpkaa", sum := "23a13bd8cfb67c77d8f5af46573aa03bb753bab5eb7a1358d82432eb45797833", checked := Try.checked }
namespace Rows
def none {H : Type} : Left H := { results := [], args := [] }

/-- 'ridgewaylaw06.OpenIs': WHATEVER THE INPUT: true; the input reads as it did. -/
def openIsSpec : ChangeSpec := { name := "openIs", fn := fun _ => fun
  | [d1, d2, d3] => { results := [.lit (.bool true)], args := [d1, d2, d3] }
  | _ => none }
def openIsRow : OpenClaim := { program := "ytedahidfbplpkaa", sum := "23a13bd8cfb67c77d8f5af46573aa03bb753bab5eb7a1358d82432eb45797833", func := "ridgeway/ridgewaylaw06.OpenIs", spec := "openIs", unfollowed := true, recurses := true, apart := false }
def OpenIsSaid : Prop := openIsRow.holds Try.pinned (OpenSpec.ofChange openIsSpec)

/-- ITS FALSE NEIGHBOUR: 'it returns false'. Refute it at one input. -/
def openIsWrong : ChangeSpec := { name := "openIs", fn := fun _ => fun
  | [d1, d2, d3] => { results := [.lit (.bool false)], args := [d1, d2, d3] }
  | _ => none }
def OpenIsWrongFalsely : Prop := openIsRow.holds Try.pinned (OpenSpec.ofChange openIsWrong)

/-- 'ridgewaylaw06.OpenBack': WHATEVER THE INPUT: true; the input reads as it did. -/
def openBackSpec : ChangeSpec := { name := "openBack", fn := fun _ => fun
  | [d1, d2] => { results := [.lit (.bool true)], args := [d1, d2] }
  | _ => none }
def openBackRow : OpenClaim := { program := "ytedahidfbplpkaa", sum := "23a13bd8cfb67c77d8f5af46573aa03bb753bab5eb7a1358d82432eb45797833", func := "ridgeway/ridgewaylaw06.OpenBack", spec := "openBack", unfollowed := true, recurses := true, apart := false }
def OpenBackSaid : Prop := openBackRow.holds Try.pinned (OpenSpec.ofChange openBackSpec)

/-- ITS FALSE NEIGHBOUR: 'it returns false'. Refute it at one input. -/
def openBackWrong : ChangeSpec := { name := "openBack", fn := fun _ => fun
  | [d1, d2] => { results := [.lit (.bool false)], args := [d1, d2] }
  | _ => none }
def OpenBackWrongFalsely : Prop := openBackRow.holds Try.pinned (OpenSpec.ofChange openBackWrong)

/-- 'ridgewaylaw06.OpenGot': WHATEVER THE INPUT: true; the input reads as it did. -/
def openGotSpec : ChangeSpec := { name := "openGot", fn := fun _ => fun
  | [d1, d2] => { results := [.lit (.bool true)], args := [d1, d2] }
  | _ => none }
def openGotRow : OpenClaim := { program := "ytedahidfbplpkaa", sum := "23a13bd8cfb67c77d8f5af46573aa03bb753bab5eb7a1358d82432eb45797833", func := "ridgeway/ridgewaylaw06.OpenGot", spec := "openGot", unfollowed := true, recurses := true, apart := false }
def OpenGotSaid : Prop := openGotRow.holds Try.pinned (OpenSpec.ofChange openGotSpec)

/-- ITS FALSE NEIGHBOUR: 'it returns false'. Refute it at one input. -/
def openGotWrong : ChangeSpec := { name := "openGot", fn := fun _ => fun
  | [d1, d2] => { results := [.lit (.bool false)], args := [d1, d2] }
  | _ => none }
def OpenGotWrongFalsely : Prop := openGotRow.holds Try.pinned (OpenSpec.ofChange openGotWrong)

/-- 'ridgewaylaw06.OpenCaps': WHATEVER THE INPUT: true; the input reads as it did. -/
def openCapsSpec : ChangeSpec := { name := "openCaps", fn := fun _ => fun
  | [d1, d2, d3, d4] => { results := [.lit (.bool true)], args := [d1, d2, d3, d4] }
  | _ => none }
def openCapsRow : OpenClaim := { program := "ytedahidfbplpkaa", sum := "23a13bd8cfb67c77d8f5af46573aa03bb753bab5eb7a1358d82432eb45797833", func := "ridgeway/ridgewaylaw06.OpenCaps", spec := "openCaps", unfollowed := true, recurses := true, apart := false }
def OpenCapsSaid : Prop := openCapsRow.holds Try.pinned (OpenSpec.ofChange openCapsSpec)

/-- ITS FALSE NEIGHBOUR: 'it returns false'. Refute it at one input. -/
def openCapsWrong : ChangeSpec := { name := "openCaps", fn := fun _ => fun
  | [d1, d2, d3, d4] => { results := [.lit (.bool false)], args := [d1, d2, d3, d4] }
  | _ => none }
def OpenCapsWrongFalsely : Prop := openCapsRow.holds Try.pinned (OpenSpec.ofChange openCapsWrong)

/-- 'ridgewaylaw06.OpenFields': WHATEVER THE INPUT: true; the input reads as it did. -/
def openFieldsSpec : ChangeSpec := { name := "openFields", fn := fun _ => fun
  | [d1, d2] => { results := [.lit (.bool true)], args := [d1, d2] }
  | _ => none }
def openFieldsRow : OpenClaim := { program := "ytedahidfbplpkaa", sum := "23a13bd8cfb67c77d8f5af46573aa03bb753bab5eb7a1358d82432eb45797833", func := "ridgeway/ridgewaylaw06.OpenFields", spec := "openFields", unfollowed := true, recurses := true, apart := false }
def OpenFieldsSaid : Prop := openFieldsRow.holds Try.pinned (OpenSpec.ofChange openFieldsSpec)

/-- ITS FALSE NEIGHBOUR: 'it returns false'. Refute it at one input. -/
def openFieldsWrong : ChangeSpec := { name := "openFields", fn := fun _ => fun
  | [d1, d2] => { results := [.lit (.bool false)], args := [d1, d2] }
  | _ => none }
def OpenFieldsWrongFalsely : Prop := openFieldsRow.holds Try.pinned (OpenSpec.ofChange openFieldsWrong)

/- THE SECOND FORM. 'bulk': how many values and letters a reading holds, each counted each time it is reached (what is shared counts as often as it is met; a slice's spare places count too). A statement '..UptoSaid' is the law's where the arguments, and the package variables that the reading takes, are together of bulk at most 1048576: NARROWER than '..Said'. Prove '..Said' where nothing that the law and all that it calls make is longer than what came in: it says more and counts as full. Else prove '..UptoSaid'. A law counts once. -/
mutual
def uptoBulk {H : Type} : DataW H → Nat
  | .lit (.string bytes) => bytes.length + 1
  | .lit _ => 1
  | .nil => 1
  | .ptr d => uptoBulk d + 1
  | .slice elems spare => uptoBulkAll elems + uptoBulkAll spare + 1
  | .agg parts => uptoBulkAll parts + 1
  | .iface _ d => uptoBulk d + 1
  | .map entries => uptoBulkEntries entries + 1
  | .held _ => 1
def uptoBulkAll {H : Type} : List (DataW H) → Nat
  | [] => 0
  | d :: r => uptoBulk d + uptoBulkAll r
def uptoBulkEntries {H : Type} : List (Lit × DataW H) → Nat
  | [] => 0
  | x :: r => uptoBulkEntry x + uptoBulkEntries r
def uptoBulkEntry {H : Type} : Lit × DataW H → Nat
  | (.string bytes, d) => bytes.length + uptoBulk d + 1
  | (_, d) => uptoBulk d + 1
 end
def uptoSmall : (H : Type) → List (DataW H) → Bool := fun _ ds => decide (uptoBulkAll ds ≤ 1048576)
def OpenSpec.upto (s : _root_.Go.ChangeSpec) : _root_.Go.OpenSpec := { _root_.Go.OpenSpec.ofChange s with cond := some uptoSmall }

/-- 'ridgewaylaw06.OpenIs', WHERE WHAT IT READS IS OF BULK AT MOST 1048576: true; the input reads as it did. -/
def openIsUptoRow : OpenClaim := { program := "ytedahidfbplpkaa", sum := "23a13bd8cfb67c77d8f5af46573aa03bb753bab5eb7a1358d82432eb45797833", func := "ridgeway/ridgewaylaw06.OpenIs", spec := "openIs", unfollowed := true, recurses := true, apart := false, narrowed := true }
def OpenIsUptoSaid : Prop := openIsUptoRow.holds Try.pinned (OpenSpec.upto openIsSpec)

/-- 'ridgewaylaw06.OpenBack', WHERE WHAT IT READS IS OF BULK AT MOST 1048576: true; the input reads as it did. -/
def openBackUptoRow : OpenClaim := { program := "ytedahidfbplpkaa", sum := "23a13bd8cfb67c77d8f5af46573aa03bb753bab5eb7a1358d82432eb45797833", func := "ridgeway/ridgewaylaw06.OpenBack", spec := "openBack", unfollowed := true, recurses := true, apart := false, narrowed := true }
def OpenBackUptoSaid : Prop := openBackUptoRow.holds Try.pinned (OpenSpec.upto openBackSpec)

/-- 'ridgewaylaw06.OpenGot', WHERE WHAT IT READS IS OF BULK AT MOST 1048576: true; the input reads as it did. -/
def openGotUptoRow : OpenClaim := { program := "ytedahidfbplpkaa", sum := "23a13bd8cfb67c77d8f5af46573aa03bb753bab5eb7a1358d82432eb45797833", func := "ridgeway/ridgewaylaw06.OpenGot", spec := "openGot", unfollowed := true, recurses := true, apart := false, narrowed := true }
def OpenGotUptoSaid : Prop := openGotUptoRow.holds Try.pinned (OpenSpec.upto openGotSpec)

/-- 'ridgewaylaw06.OpenCaps', WHERE WHAT IT READS IS OF BULK AT MOST 1048576: true; the input reads as it did. -/
def openCapsUptoRow : OpenClaim := { program := "ytedahidfbplpkaa", sum := "23a13bd8cfb67c77d8f5af46573aa03bb753bab5eb7a1358d82432eb45797833", func := "ridgeway/ridgewaylaw06.OpenCaps", spec := "openCaps", unfollowed := true, recurses := true, apart := false, narrowed := true }
def OpenCapsUptoSaid : Prop := openCapsUptoRow.holds Try.pinned (OpenSpec.upto openCapsSpec)

/-- 'ridgewaylaw06.OpenFields', WHERE WHAT IT READS IS OF BULK AT MOST 1048576: true; the input reads as it did. -/
def openFieldsUptoRow : OpenClaim := { program := "ytedahidfbplpkaa", sum := "23a13bd8cfb67c77d8f5af46573aa03bb753bab5eb7a1358d82432eb45797833", func := "ridgeway/ridgewaylaw06.OpenFields", spec := "openFields", unfollowed := true, recurses := true, apart := false, narrowed := true }
def OpenFieldsUptoSaid : Prop := openFieldsUptoRow.holds Try.pinned (OpenSpec.upto openFieldsSpec)

end Rows
end Go.Proofs.Ytedahidfbplpkaa
