-- What the texts of this claim use of the print's words.
import Derived.Test.YtbgfkpagkhofpaaVFnGroupsInv
import Derived.Test.YtbgfkpagkhofpaaVFnGroupsFootNe
namespace Go.Proofs.YtbgfkpagkhofpaaW.PrintWords
open Go.RowKit
end Go.Proofs.YtbgfkpagkhofpaaW.PrintWords
namespace Go.Proofs.YtbgfkpagkhofpaaW.PrintLast
section
variable {ops : Array Oper} {a : Act} {o og : Oper} {g : Nat} {t : Tmp} {u : Bool}
end
end Go.Proofs.YtbgfkpagkhofpaaW.PrintLast

