import Derived.Test.YtlceokefdihdkaaGreatDoorWInv
import Derived.Test.YtlceokefdihdkaaGreatDoorWFootNe
namespace Go.Proofs.YtlceokefdihdkaaGreatDoorW.PrintWords
open Go.RowKit
end Go.Proofs.YtlceokefdihdkaaGreatDoorW.PrintWords
namespace Go.Proofs.YtlceokefdihdkaaGreatDoorW.PrintLast
section
variable {ops : Array Oper} {a : Act} {o og : Oper} {g : Nat} {t : Tmp} {u : Bool}
end
end Go.Proofs.YtlceokefdihdkaaGreatDoorW.PrintLast
