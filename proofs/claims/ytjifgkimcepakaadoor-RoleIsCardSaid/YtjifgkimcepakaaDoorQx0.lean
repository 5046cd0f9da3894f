/- Each call of a Go function comes to what the Lean function of its name answers (written out by wip/tools/xprint.py, checked by Lean); conditions: those in each statement. -/
import Derived.Test.YtjifgkimcepakaaDoorProg
import Derived.Below
import Derived.Deep.Draws
import Derived.Deep.AppendLies
import Derived.Maps.AppendAt
import Derived.OwnWalk
import Derived.Laws.BytesArg
import Derived.Laws.MakeOwn
import Derived.Laws.OwnMore
import Derived.Deep.OwnRows
import Derived.Tactics
import Derived.Lib.ConvBytes
import Derived.Laws.Slices
import Derived.WalkKit
import Derived.KernelRfl
import Derived.RowKit3
import Derived.Deep.LoopGhost
import Derived.Deep.QuietTactic
import Derived.BigQuiet
import Derived.WideLaws
import Derived.Deep.DeepCutAuto
import Derived.Deep.CutBlock
import Derived.Deep.RegionHeld3
import Derived.Laws.Rows
import Derived.Lib.AppendStr
import Derived.ArgAppend
import Derived.Laws.IdiomCopy
import Derived.OrdersHeld
import Derived.Laws.BitsLemmas
import Derived.RowKit
import Derived.Test.YtjifgkimcepakaaDoorWWords
import Derived.Test.YtjifgkimcepakaaDoorWLast
import Derived.Test.YtjifgkimcepakaaDoorWTab
import Derived.Test.YtjifgkimcepakaaDoorWFour
import Derived.Test.YtjifgkimcepakaaDoorWQPut
import Derived.Test.YtjifgkimcepakaaDoorWApart
import Derived.Test.YtjifgkimcepakaaDoorWArr
import Derived.Test.YtjifgkimcepakaaDoorWZeros
import Derived.Test.YtjifgkimcepakaaDoorWFoot
import Derived.Test.YtjifgkimcepakaaDoorWKept
import Derived.Test.YtjifgkimcepakaaDoorWShare
import Derived.Test.YtjifgkimcepakaaDoorWN
import Derived.Test.YtjifgkimcepakaaDoorWFootNe
import Derived.Test.YtjifgkimcepakaaDoorWAt
import Derived.Test.YtjifgkimcepakaaDoorWEqStruct
import Derived.Test.YtjifgkimcepakaaDoorWRepsOne
import Derived.Test.YtjifgkimcepakaaDoorWInv
import Derived.Test.YtjifgkimcepakaaDoorWInvWords
import Derived.Test.YtjifgkimcepakaaDoorWGuard
import Derived.Test.YtjifgkimcepakaaDoorWNEv
import Derived.Test.YtjifgkimcepakaaDoorWMore
import Derived.Test.YtjifgkimcepakaaDoorXWords
namespace Go.Proofs.YtjifgkimcepakaaDoor.Q
open Go.RowKit Go.Proofs.YtjifgkimcepakaaDoorW.PrintWords Go.Proofs.YtjifgkimcepakaaDoorW.PrintLast Go.Proofs.YtjifgkimcepakaaDoorW.PrintMore Go.Proofs.YtjifgkimcepakaaDoorW.PrintX
attribute [local go_sem] max2_int min2_int max_two min_two max_three min_three max_four min_four   -- for this text's walks alone
set_option linter.unusedVariables false
set_option linter.unusedSimpArgs false



def errW : Option Int → Value
  | none => .nilIface
  | some c => .iface 0 (.int .i64 c)
theorem errW_none : errW none = .nilIface := rfl
theorem errW_some (c : Int) : errW (some c) = .iface 0 (.int .i64 c) := rfl

-- the values' own types

/-- The listed table lies where the program laid it. -/
def GOK (w : World) : Prop := (∀ j : Nat, j < ([3, 2, 1, 0, 4] : List Int).length → w.cell? ⟨0, j, none⟩ = some (.int .i64 (([3, 2, 1, 0, 4] : List Int).getD j 0)))
theorem GOK.below {w W : World} (h : GOK w) (hb : Below w.heap.size w W) : GOK W := fun j hj => pw_cell_below hb (h j hj)
theorem GOK.drawn {w : World} (h : GOK w) (n : Nat) : GOK (w.drewN n) := h
end Go.Proofs.YtjifgkimcepakaaDoor.Q
