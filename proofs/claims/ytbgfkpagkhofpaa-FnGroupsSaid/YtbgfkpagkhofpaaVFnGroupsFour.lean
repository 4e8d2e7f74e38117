-- What the texts of this claim use of the print's words.
import Derived.Test.YtbgfkpagkhofpaaVFnGroupsTab
/-! ### 56. Four, five, six operations that may come up next, in any order -/
namespace Go.Proofs.YtbgfkpagkhofpaaW.PrintLast
section
variable {P : Program} {ops : Array Oper} {Q : Exit → Act → World → Prop} {md : Region.Mode} {S : World → Prop} {ds : List Nat} {T : Bool × List (List Nat × List Nat)}
end
end Go.Proofs.YtbgfkpagkhofpaaW.PrintLast

