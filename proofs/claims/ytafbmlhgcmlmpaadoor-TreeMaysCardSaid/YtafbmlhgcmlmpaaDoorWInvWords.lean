import Derived.Test.YtafbmlhgcmlmpaaDoorWInv
import Derived.Test.YtafbmlhgcmlmpaaDoorWFootNe
namespace Go.Proofs.YtafbmlhgcmlmpaaDoorW.PrintWords
open Go.RowKit
end Go.Proofs.YtafbmlhgcmlmpaaDoorW.PrintWords
namespace Go.Proofs.YtafbmlhgcmlmpaaDoorW.PrintLast
section
variable {ops : Array Oper} {a : Act} {o og : Oper} {g : Nat} {t : Tmp} {u : Bool}
end
end Go.Proofs.YtafbmlhgcmlmpaaDoorW.PrintLast

