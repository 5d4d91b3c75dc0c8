/- Words that the proofs share: InvWords. -/
import Derived.Test.YtidobdhkncaljaaDoorWInv
import Derived.Test.YtidobdhkncaljaaDoorWFootNe
namespace Go.Proofs.YtidobdhkncaljaaDoorW.PrintWords
open Go.RowKit
end Go.Proofs.YtidobdhkncaljaaDoorW.PrintWords
namespace Go.Proofs.YtidobdhkncaljaaDoorW.PrintLast
section
variable {ops : Array Oper} {a : Act} {o og : Oper} {g : Nat} {t : Tmp} {u : Bool}
end
end Go.Proofs.YtidobdhkncaljaaDoorW.PrintLast
