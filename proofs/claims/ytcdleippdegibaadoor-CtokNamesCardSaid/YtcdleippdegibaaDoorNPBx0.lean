import Derived.Test.YtcdleippdegibaaDoorProg
import Derived.Below
import Derived.Deep.Draws
import Derived.Deep.AppendLies
import Derived.Maps.AppendAt
import Derived.OwnWalk
import Derived.Laws.BytesArg
import Derived.Laws.MakeOwn
import Derived.Laws.OwnMore
import Derived.Deep.OwnRows
import Derived.Tactics
import Derived.Lib.ConvBytes
import Derived.Laws.Slices
import Derived.WalkKit
import Derived.KernelRfl
import Derived.RowKit3
import Derived.Deep.LoopGhost
import Derived.Deep.QuietTactic
import Derived.BigQuiet
import Derived.WideLaws
import Derived.Deep.DeepCutAuto
import Derived.Deep.CutBlock
import Derived.Deep.RegionHeld3
import Derived.Laws.Rows
import Derived.Lib.AppendStr
import Derived.ArgAppend
import Derived.Laws.IdiomCopy
import Derived.OrdersHeld
import Derived.Laws.BitsLemmas
import Derived.RowKit
import Derived.Test.YtcdleippdegibaaDoorNPKx0
import Derived.Test.YtcdleippdegibaaDoorNWWords
import Derived.Test.YtcdleippdegibaaDoorNWLast
import Derived.Test.YtcdleippdegibaaDoorNWTab
import Derived.Test.YtcdleippdegibaaDoorNWFour
import Derived.Test.YtcdleippdegibaaDoorNWQPut
import Derived.Test.YtcdleippdegibaaDoorNWApart
import Derived.Test.YtcdleippdegibaaDoorNWArr
import Derived.Test.YtcdleippdegibaaDoorNWZeros
import Derived.Test.YtcdleippdegibaaDoorNWFoot
import Derived.Test.YtcdleippdegibaaDoorNWKept
import Derived.Test.YtcdleippdegibaaDoorNWShare
import Derived.Test.YtcdleippdegibaaDoorNWN
import Derived.Test.YtcdleippdegibaaDoorNWFootNe
import Derived.Test.YtcdleippdegibaaDoorNWAt
import Derived.Test.YtcdleippdegibaaDoorNWEqStruct
import Derived.Test.YtcdleippdegibaaDoorNWRepsOne
import Derived.Test.YtcdleippdegibaaDoorNWInv
import Derived.Test.YtcdleippdegibaaDoorNWInvWords
import Derived.Test.YtcdleippdegibaaDoorNWGuard
import Derived.Test.YtcdleippdegibaaDoorNWNEv
import Derived.Test.YtcdleippdegibaaDoorNWMore
namespace Go.Proofs.YtcdleippdegibaaDoor.PB
open Go.RowKit Go.Proofs.YtcdleippdegibaaDoorW.PrintWords Go.Proofs.YtcdleippdegibaaDoorW.PrintLast Go.Proofs.YtcdleippdegibaaDoorW.PrintMore
open Go.Proofs.YtcdleippdegibaaDoor.PK
attribute [local go_sem] max2_int min2_int max_two min_two max_three min_three max_four min_four
set_option linter.unusedVariables false
set_option linter.unusedSimpArgs false
def errW : Option Int → Value
  | none => .nilIface
  | some c => .iface 0 (.int .i64 c)
theorem errW_none : errW none = .nilIface := rfl
theorem errW_some (c : Int) : errW (some c) = .iface 0 (.int .i64 c) := rfl
theorem info2 : (Tryd.prog.info? 2).map (fun i => (i.zero, i.size, i.bytes)) = some (some (.int .i64 0), 1, 8) := by kernel_rfl
theorem info23 : (Tryd.prog.info? 23).map (fun i => (i.zero, i.size, i.bytes)) = some (some (.agg #[(.int .i64 0), (.string ⟨#[]⟩)]), 2, 24) := by kernel_rfl
theorem info44 : (Tryd.prog.info? 44).map (fun i => (i.zero, i.size, i.bytes)) = some (some (.agg #[(.int .i64 0), (.string ⟨#[]⟩), (.int .i64 0), (.int .i64 0), (.bool false)]), 5, 48) := by kernel_rfl
end Go.Proofs.YtcdleippdegibaaDoor.PB
