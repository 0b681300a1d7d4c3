-- Written by a program of this claim's author out of the translation (the kit's print, with some functions taken as given). Not trusted: Lean checks it.
import Derived.Test.YtmkhlgdgndnkbaaDoorProg
import Derived.Below
import Derived.Deep.Draws
import Derived.Deep.AppendLies
import Derived.Maps.AppendAt
import Derived.OwnWalk
import Derived.Laws.BytesArg
import Derived.Laws.MakeOwn
import Derived.Laws.OwnMore
import Derived.Deep.OwnRows
import Derived.Tactics
import Derived.Lib.ConvBytes
import Derived.Laws.Slices
import Derived.WalkKit
import Derived.KernelRfl
import Derived.RowKit3
import Derived.Deep.LoopGhost
import Derived.Deep.QuietTactic
import Derived.BigQuiet
import Derived.WideLaws
import Derived.Deep.DeepCutAuto
import Derived.Deep.CutBlock
import Derived.Deep.RegionHeld3
import Derived.Laws.Rows
import Derived.Lib.AppendStr
import Derived.ArgAppend
import Derived.Laws.IdiomCopy
import Derived.OrdersHeld
import Derived.Laws.BitsLemmas
import Derived.RowKit
import Derived.Test.YtmkhlgdgndnkbaaDoorWWords
import Derived.Test.YtmkhlgdgndnkbaaDoorWLast
import Derived.Test.YtmkhlgdgndnkbaaDoorWTab
import Derived.Test.YtmkhlgdgndnkbaaDoorWFour
import Derived.Test.YtmkhlgdgndnkbaaDoorWQPut
import Derived.Test.YtmkhlgdgndnkbaaDoorWApart
import Derived.Test.YtmkhlgdgndnkbaaDoorWArr
import Derived.Test.YtmkhlgdgndnkbaaDoorWZeros
import Derived.Test.YtmkhlgdgndnkbaaDoorWFoot
import Derived.Test.YtmkhlgdgndnkbaaDoorWKept
import Derived.Test.YtmkhlgdgndnkbaaDoorWShare
import Derived.Test.YtmkhlgdgndnkbaaDoorWN
import Derived.Test.YtmkhlgdgndnkbaaDoorWFootNe
import Derived.Test.YtmkhlgdgndnkbaaDoorWAt
import Derived.Test.YtmkhlgdgndnkbaaDoorWEqStruct
import Derived.Test.YtmkhlgdgndnkbaaDoorWRepsOne
import Derived.Test.YtmkhlgdgndnkbaaDoorWInv
import Derived.Test.YtmkhlgdgndnkbaaDoorWInvWords
import Derived.Test.YtmkhlgdgndnkbaaDoorWGuard
import Derived.Test.YtmkhlgdgndnkbaaDoorWNEv
import Derived.Test.YtmkhlgdgndnkbaaDoorWMore
import Derived.Test.YtmkhlgdgndnkbaaDoorTfcExt
namespace Go.Proofs.YtmkhlgdgndnkbaaDoor.PTopFaceColumns
open Go.RowKit Go.Proofs.YtmkhlgdgndnkbaaDoorW.PrintWords Go.Proofs.YtmkhlgdgndnkbaaDoorW.PrintLast Go.Proofs.YtmkhlgdgndnkbaaDoorW.PrintMore Go.Proofs.YtmkhlgdgndnkbaaDoor.X
attribute [local go_sem] max2_int min2_int max_two min_two max_three min_three max_four min_four   -- for this text's walks alone
set_option linter.unusedVariables false
set_option linter.unusedSimpArgs false



def errW : Option Int → Value
  | none => .nilIface
  | some c => .iface 0 (.int .i64 c)
theorem errW_none : errW none = .nilIface := rfl
theorem errW_some (c : Int) : errW (some c) = .iface 0 (.int .i64 c) := rfl

theorem info3 : (Tryd.prog.info? 3).map (fun i => (i.zero, i.size, i.bytes)) = some (some (.int .i64 0), 1, 8) := by kernel_rfl
theorem info9 : (Tryd.prog.info? 9).map (fun i => (i.zero, i.size, i.bytes)) = some (some (.string ⟨#[]⟩), 1, 16) := by kernel_rfl
theorem info33 : (Tryd.prog.info? 33).map (fun i => (i.zero, i.size, i.bytes)) = some (some (.agg #[(.int .i64 0), (.int .i64 0), (.int .i64 0), (.int .i64 0)]), 4, 32) := by kernel_rfl
-- the values' own types

end Go.Proofs.YtmkhlgdgndnkbaaDoor.PTopFaceColumns
