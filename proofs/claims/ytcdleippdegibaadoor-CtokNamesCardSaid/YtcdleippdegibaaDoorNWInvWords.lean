import Derived.Test.YtcdleippdegibaaDoorNWInv
import Derived.Test.YtcdleippdegibaaDoorNWFootNe
namespace Go.Proofs.YtcdleippdegibaaDoorW.PrintWords
open Go.RowKit
end Go.Proofs.YtcdleippdegibaaDoorW.PrintWords
namespace Go.Proofs.YtcdleippdegibaaDoorW.PrintLast
section
variable {ops : Array Oper} {a : Act} {o og : Oper} {g : Nat} {t : Tmp} {u : Bool}
end
end Go.Proofs.YtcdleippdegibaaDoorW.PrintLast
