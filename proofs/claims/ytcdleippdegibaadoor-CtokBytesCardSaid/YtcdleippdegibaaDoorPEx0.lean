-- PRINTED by print.py (a twelfth state) out of the translation. Not trusted: Lean checks it.
import Derived.Test.YtcdleippdegibaaDoorProg
import Derived.Below
import Derived.Deep.Draws
import Derived.Deep.AppendLies
import Derived.Maps.AppendAt
import Derived.OwnWalk
import Derived.Laws.BytesArg
import Derived.Laws.MakeOwn
import Derived.Laws.OwnMore
import Derived.Deep.OwnRows
import Derived.Tactics
import Derived.Lib.ConvBytes
import Derived.Laws.Slices
import Derived.WalkKit
import Derived.KernelRfl
import Derived.RowKit3
import Derived.Deep.LoopGhost
import Derived.Deep.QuietTactic
import Derived.BigQuiet
import Derived.WideLaws
import Derived.Deep.DeepCutAuto
import Derived.Deep.CutBlock
import Derived.Deep.RegionHeld3
import Derived.Laws.Rows
import Derived.Lib.AppendStr
import Derived.ArgAppend
import Derived.Laws.IdiomCopy
import Derived.OrdersHeld
import Derived.Laws.BitsLemmas
import Derived.RowKit
import Derived.Test.YtcdleippdegibaaDoorLibG
import Derived.Test.YtcdleippdegibaaDoorAlive
import Derived.Test.YtcdleippdegibaaDoorInt
import Derived.Test.YtcdleippdegibaaDoorEsc
import Derived.Test.YtcdleippdegibaaDoorOne
import Derived.Test.YtcdleippdegibaaDoorPBx3
import Derived.Test.YtcdleippdegibaaDoorPKx0
import Derived.Test.YtcdleippdegibaaDoorWWords
import Derived.Test.YtcdleippdegibaaDoorWLast
import Derived.Test.YtcdleippdegibaaDoorWTab
import Derived.Test.YtcdleippdegibaaDoorWFour
import Derived.Test.YtcdleippdegibaaDoorWQPut
import Derived.Test.YtcdleippdegibaaDoorWApart
import Derived.Test.YtcdleippdegibaaDoorWArr
import Derived.Test.YtcdleippdegibaaDoorWZeros
import Derived.Test.YtcdleippdegibaaDoorWFoot
import Derived.Test.YtcdleippdegibaaDoorWKept
import Derived.Test.YtcdleippdegibaaDoorWShare
import Derived.Test.YtcdleippdegibaaDoorWN
import Derived.Test.YtcdleippdegibaaDoorWFootNe
import Derived.Test.YtcdleippdegibaaDoorWAt
import Derived.Test.YtcdleippdegibaaDoorWEqStruct
import Derived.Test.YtcdleippdegibaaDoorWRepsOne
import Derived.Test.YtcdleippdegibaaDoorWInv
import Derived.Test.YtcdleippdegibaaDoorWInvWords
import Derived.Test.YtcdleippdegibaaDoorWGuard
import Derived.Test.YtcdleippdegibaaDoorWNEv
import Derived.Test.YtcdleippdegibaaDoorWMore
namespace Go.Proofs.YtcdleippdegibaaDoor.PE
open Go.RowKit Go.Proofs.YtcdleippdegibaaDoorW.PrintWords Go.Proofs.YtcdleippdegibaaDoorW.PrintLast Go.Proofs.YtcdleippdegibaaDoorW.PrintMore
open Go.Proofs.YtcdleippdegibaaDoor.LibG (SH SH.below SH.drewN SH.drew SH.alloc)
open Go.Proofs.YtcdleippdegibaaDoor.PK
attribute [local go_sem] max2_int min2_int max_two min_two max_three min_three max_four min_four   -- for this text's walks alone
set_option linter.unusedVariables false
set_option linter.unusedSimpArgs false



def errW : Option Int → Value
  | none => .nilIface
  | some c => .iface 0 (.int .i64 c)
theorem errW_none : errW none = .nilIface := rfl
theorem errW_some (c : Int) : errW (some c) = .iface 0 (.int .i64 c) := rfl

theorem info2 : (Tryd.prog.info? 2).map (fun i => (i.zero, i.size, i.bytes)) = some (some (.int .i64 0), 1, 8) := by kernel_rfl
theorem info5 : (Tryd.prog.info? 5).map (fun i => (i.zero, i.size, i.bytes)) = some (some (.int .u8 0), 1, 1) := by kernel_rfl
theorem info23 : (Tryd.prog.info? 23).map (fun i => (i.zero, i.size, i.bytes)) = some (some (.agg #[(.int .i64 0), (.string ⟨#[]⟩)]), 2, 24) := by kernel_rfl
theorem info44 : (Tryd.prog.info? 44).map (fun i => (i.zero, i.size, i.bytes)) = some (some (.agg #[(.int .i64 0), (.string ⟨#[]⟩), (.int .i64 0), (.int .i64 0), (.bool false)]), 5, 48) := by kernel_rfl
-- the values' own types

end Go.Proofs.YtcdleippdegibaaDoor.PE
