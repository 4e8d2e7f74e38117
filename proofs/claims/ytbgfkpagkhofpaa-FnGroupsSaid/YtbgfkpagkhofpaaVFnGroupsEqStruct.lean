-- What the texts of this claim use of the print's words.
import Derived.Test.YtbgfkpagkhofpaaVFnGroupsWords
import Derived.Laws.StructEq
/-! ### 53. '==' of structs as_ one Bool -/
namespace Go.Proofs.YtbgfkpagkhofpaaW.PrintWords
open Go.RowKit
section
variable {P : Program} {d : Nat} {xs ys : Array Value} {f : Field} {fs : List Field} {a b : Value} {r s : Bool} {w : World}
end
end Go.Proofs.YtbgfkpagkhofpaaW.PrintWords

