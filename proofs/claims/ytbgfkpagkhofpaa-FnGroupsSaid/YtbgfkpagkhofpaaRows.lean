/-
  No cell of these rows narrows 'for every input' (looked for: loops, veiled, ifaces, maps, wideKeys, modest, calm, conditions, laid).
  DERIVED. THE GIVEN ROWS OF THIS SEAT. 8 by the template 'for every input the law returns true; each argument reads behind the call as it read before'; 0 by the template 'total and deterministic' (their statements: YtbgfkpagkhofpaaTotals.lean).
  GIVEN WITH THE SEED: the statements are not yours to turn. If you find one false, say at which input.
  Laid BY PROGRAM, IN A SANDBOX (cutbox-rows.mjs): the forced cells as the released guide's own fill.sh prints them over the translation 87120f1806d5ee88… (all of the seat's roots in one cut). By AI agents, Wed Nov 11 2026. No macro, syntax, notation, axiom, sorry.
-/
import Derived.Test.YtbgfkpagkhofpaaChecked
import GoSem.Claim
import GoSem.ClaimJoined
import GoSem.ClaimMapViews
import Derived.JoinedTies
import Derived.KernelRfl
namespace Go.Proofs.Ytbgfkpagkhofpaa
/- THE CELL 'sum', in the pinned program and in every row, IS THE sha256 OF THE DUMP (.gsa) THAT YtbgfkpagkhofpaaProg.lean LOADS. Nothing in Lean hashes anything: it is a label: what it is worth is what the hold of that sum in a sandbox is worth. -/
noncomputable def Try.pinned : Pinned := { name := "ytbgfkpagkhofpaa", sum := "87120f1806d5ee888e3e7c705650049a34588df98a2ac0bd0cf13947bb9c37ca", checked := Try.checked }
namespace Rows
def none {H : Type} : Left H := { results := [], args := [] }

/-- 'laws.FnHaves': WHATEVER THE INPUT: true; the input reads as it did. -/
def fnHavesSpec : ChangeSpec := { name := "fnHaves", fn := fun _ => fun
  | [d] => { results := [.lit (.bool true)], args := [d] }
  | _ => none }
def fnHavesRow : OpenClaim := { program := "ytbgfkpagkhofpaa", sum := "87120f1806d5ee888e3e7c705650049a34588df98a2ac0bd0cf13947bb9c37ca", func := "loop.example/g00769/laws.FnHaves", spec := "fnHaves", unfollowed := true, recurses := true, apart := false }
def FnHavesSaid : Prop := fnHavesRow.holds Try.pinned (OpenSpec.ofChange fnHavesSpec)

/-- ITS FALSE NEIGHBOUR: 'it returns false'. Refute it at one input. -/
def fnHavesWrong : ChangeSpec := { name := "fnHaves", fn := fun _ => fun
  | [d] => { results := [.lit (.bool false)], args := [d] }
  | _ => none }
def FnHavesWrongFalsely : Prop := fnHavesRow.holds Try.pinned (OpenSpec.ofChange fnHavesWrong)

/-- 'laws.FnExactSeenTry': WHATEVER THE INPUT: true; the input reads as it did. -/
def fnExactSeenTrySpec : ChangeSpec := { name := "fnExactSeenTry", fn := fun _ => fun
  | [d1, d2, d3] => { results := [.lit (.bool true)], args := [d1, d2, d3] }
  | _ => none }
def fnExactSeenTryRow : OpenClaim := { program := "ytbgfkpagkhofpaa", sum := "87120f1806d5ee888e3e7c705650049a34588df98a2ac0bd0cf13947bb9c37ca", func := "loop.example/g00769/laws.FnExactSeenTry", spec := "fnExactSeenTry", apart := false }
def FnExactSeenTrySaid : Prop := fnExactSeenTryRow.holds Try.pinned (OpenSpec.ofChange fnExactSeenTrySpec)

/-- ITS FALSE NEIGHBOUR: 'it returns false'. Refute it at one input. -/
def fnExactSeenTryWrong : ChangeSpec := { name := "fnExactSeenTry", fn := fun _ => fun
  | [d1, d2, d3] => { results := [.lit (.bool false)], args := [d1, d2, d3] }
  | _ => none }
def FnExactSeenTryWrongFalsely : Prop := fnExactSeenTryRow.holds Try.pinned (OpenSpec.ofChange fnExactSeenTryWrong)

/-- 'laws.FnClocks': WHATEVER THE INPUT: true; the input reads as it did. -/
def fnClocksSpec : ChangeSpec := { name := "fnClocks", fn := fun _ => fun
  | [d] => { results := [.lit (.bool true)], args := [d] }
  | _ => none }
def fnClocksRow : OpenClaim := { program := "ytbgfkpagkhofpaa", sum := "87120f1806d5ee888e3e7c705650049a34588df98a2ac0bd0cf13947bb9c37ca", func := "loop.example/g00769/laws.FnClocks", spec := "fnClocks", unfollowed := true, recurses := true, apart := false }
def FnClocksSaid : Prop := fnClocksRow.holds Try.pinned (OpenSpec.ofChange fnClocksSpec)

/-- ITS FALSE NEIGHBOUR: 'it returns false'. Refute it at one input. -/
def fnClocksWrong : ChangeSpec := { name := "fnClocks", fn := fun _ => fun
  | [d] => { results := [.lit (.bool false)], args := [d] }
  | _ => none }
def FnClocksWrongFalsely : Prop := fnClocksRow.holds Try.pinned (OpenSpec.ofChange fnClocksWrong)

/-- 'laws.FnTab': WHATEVER THE INPUT: true; the input reads as it did. -/
def fnTabSpec : ChangeSpec := { name := "fnTab", fn := fun _ => fun
  | [d] => { results := [.lit (.bool true)], args := [d] }
  | _ => none }
def fnTabRow : OpenClaim := { program := "ytbgfkpagkhofpaa", sum := "87120f1806d5ee888e3e7c705650049a34588df98a2ac0bd0cf13947bb9c37ca", func := "loop.example/g00769/laws.FnTab", spec := "fnTab", unfollowed := true, recurses := true, apart := false }
def FnTabSaid : Prop := fnTabRow.holds Try.pinned (OpenSpec.ofChange fnTabSpec)

/-- ITS FALSE NEIGHBOUR: 'it returns false'. Refute it at one input. -/
def fnTabWrong : ChangeSpec := { name := "fnTab", fn := fun _ => fun
  | [d] => { results := [.lit (.bool false)], args := [d] }
  | _ => none }
def FnTabWrongFalsely : Prop := fnTabRow.holds Try.pinned (OpenSpec.ofChange fnTabWrong)

/-- 'laws.FnExactMerge': WHATEVER THE INPUT: true; the input reads as it did. -/
def fnExactMergeSpec : ChangeSpec := { name := "fnExactMerge", fn := fun _ => fun
  | [d1, d2] => { results := [.lit (.bool true)], args := [d1, d2] }
  | _ => none }
def fnExactMergeRow : OpenClaim := { program := "ytbgfkpagkhofpaa", sum := "87120f1806d5ee888e3e7c705650049a34588df98a2ac0bd0cf13947bb9c37ca", func := "loop.example/g00769/laws.FnExactMerge", spec := "fnExactMerge", unfollowed := true, recurses := true, apart := false }
def FnExactMergeSaid : Prop := fnExactMergeRow.holds Try.pinned (OpenSpec.ofChange fnExactMergeSpec)

/-- ITS FALSE NEIGHBOUR: 'it returns false'. Refute it at one input. -/
def fnExactMergeWrong : ChangeSpec := { name := "fnExactMerge", fn := fun _ => fun
  | [d1, d2] => { results := [.lit (.bool false)], args := [d1, d2] }
  | _ => none }
def FnExactMergeWrongFalsely : Prop := fnExactMergeRow.holds Try.pinned (OpenSpec.ofChange fnExactMergeWrong)

/-- 'laws.FnGroups': WHATEVER THE INPUT: true; the input reads as it did. -/
def fnGroupsSpec : ChangeSpec := { name := "fnGroups", fn := fun _ => fun
  | [d] => { results := [.lit (.bool true)], args := [d] }
  | _ => none }
def fnGroupsRow : OpenClaim := { program := "ytbgfkpagkhofpaa", sum := "87120f1806d5ee888e3e7c705650049a34588df98a2ac0bd0cf13947bb9c37ca", func := "loop.example/g00769/laws.FnGroups", spec := "fnGroups", unfollowed := true, recurses := true, apart := false }
def FnGroupsSaid : Prop := fnGroupsRow.holds Try.pinned (OpenSpec.ofChange fnGroupsSpec)

/-- ITS FALSE NEIGHBOUR: 'it returns false'. Refute it at one input. -/
def fnGroupsWrong : ChangeSpec := { name := "fnGroups", fn := fun _ => fun
  | [d] => { results := [.lit (.bool false)], args := [d] }
  | _ => none }
def FnGroupsWrongFalsely : Prop := fnGroupsRow.holds Try.pinned (OpenSpec.ofChange fnGroupsWrong)

/-- 'laws.FnSteps': WHATEVER THE INPUT: true; the input reads as it did. -/
def fnStepsSpec : ChangeSpec := { name := "fnSteps", fn := fun _ => fun
  | [d] => { results := [.lit (.bool true)], args := [d] }
  | _ => none }
def fnStepsRow : OpenClaim := { program := "ytbgfkpagkhofpaa", sum := "87120f1806d5ee888e3e7c705650049a34588df98a2ac0bd0cf13947bb9c37ca", func := "loop.example/g00769/laws.FnSteps", spec := "fnSteps", unfollowed := true, recurses := true, apart := false }
def FnStepsSaid : Prop := fnStepsRow.holds Try.pinned (OpenSpec.ofChange fnStepsSpec)

/-- ITS FALSE NEIGHBOUR: 'it returns false'. Refute it at one input. -/
def fnStepsWrong : ChangeSpec := { name := "fnSteps", fn := fun _ => fun
  | [d] => { results := [.lit (.bool false)], args := [d] }
  | _ => none }
def FnStepsWrongFalsely : Prop := fnStepsRow.holds Try.pinned (OpenSpec.ofChange fnStepsWrong)

/-- 'laws.FnRules': WHATEVER THE INPUT: true; the input reads as it did. -/
def fnRulesSpec : ChangeSpec := { name := "fnRules", fn := fun _ => fun
  | [d] => { results := [.lit (.bool true)], args := [d] }
  | _ => none }
def fnRulesRow : OpenClaim := { program := "ytbgfkpagkhofpaa", sum := "87120f1806d5ee888e3e7c705650049a34588df98a2ac0bd0cf13947bb9c37ca", func := "loop.example/g00769/laws.FnRules", spec := "fnRules", unfollowed := true, recurses := true, apart := false }
def FnRulesSaid : Prop := fnRulesRow.holds Try.pinned (OpenSpec.ofChange fnRulesSpec)

/-- ITS FALSE NEIGHBOUR: 'it returns false'. Refute it at one input. -/
def fnRulesWrong : ChangeSpec := { name := "fnRules", fn := fun _ => fun
  | [d] => { results := [.lit (.bool false)], args := [d] }
  | _ => none }
def FnRulesWrongFalsely : Prop := fnRulesRow.holds Try.pinned (OpenSpec.ofChange fnRulesWrong)

/- THE SECOND FORM. 'bulk': how many values and letters a reading holds, each counted each time it is reached (what is shared counts as often as it is met; a slice's spare places count too). A statement '..UptoSaid' is the law's where the arguments, and the package variables that the reading takes, are together of bulk at most 1048576: NARROWER than '..Said'. Prove '..Said' where nothing that the law and all that it calls make is longer than what came in: it says more and counts as full. Else prove '..UptoSaid'. A law counts once. -/
mutual
def uptoBulk {H : Type} : DataW H → Nat
  | .lit (.string bytes) => bytes.length + 1
  | .lit _ => 1
  | .nil => 1
  | .ptr d => uptoBulk d + 1
  | .slice elems spare => uptoBulkAll elems + uptoBulkAll spare + 1
  | .agg parts => uptoBulkAll parts + 1
  | .iface _ d => uptoBulk d + 1
  | .map entries => uptoBulkEntries entries + 1
  | .held _ => 1
def uptoBulkAll {H : Type} : List (DataW H) → Nat
  | [] => 0
  | d :: r => uptoBulk d + uptoBulkAll r
def uptoBulkEntries {H : Type} : List (Lit × DataW H) → Nat
  | [] => 0
  | x :: r => uptoBulkEntry x + uptoBulkEntries r
def uptoBulkEntry {H : Type} : Lit × DataW H → Nat
  | (.string bytes, d) => bytes.length + uptoBulk d + 1
  | (_, d) => uptoBulk d + 1
 end
def uptoSmall : (H : Type) → List (DataW H) → Bool := fun _ ds => decide (uptoBulkAll ds ≤ 1048576)
def OpenSpec.upto (s : _root_.Go.ChangeSpec) : _root_.Go.OpenSpec := { _root_.Go.OpenSpec.ofChange s with cond := some uptoSmall }

/-- 'laws.FnHaves', WHERE WHAT IT READS IS OF BULK AT MOST 1048576: true; the input reads as it did. -/
def fnHavesUptoRow : OpenClaim := { program := "ytbgfkpagkhofpaa", sum := "87120f1806d5ee888e3e7c705650049a34588df98a2ac0bd0cf13947bb9c37ca", func := "loop.example/g00769/laws.FnHaves", spec := "fnHaves", unfollowed := true, recurses := true, apart := false, narrowed := true }
def FnHavesUptoSaid : Prop := fnHavesUptoRow.holds Try.pinned (OpenSpec.upto fnHavesSpec)

/-- 'laws.FnExactSeenTry', WHERE WHAT IT READS IS OF BULK AT MOST 1048576: true; the input reads as it did. -/
def fnExactSeenTryUptoRow : OpenClaim := { program := "ytbgfkpagkhofpaa", sum := "87120f1806d5ee888e3e7c705650049a34588df98a2ac0bd0cf13947bb9c37ca", func := "loop.example/g00769/laws.FnExactSeenTry", spec := "fnExactSeenTry", apart := false, narrowed := true }
def FnExactSeenTryUptoSaid : Prop := fnExactSeenTryUptoRow.holds Try.pinned (OpenSpec.upto fnExactSeenTrySpec)

/-- 'laws.FnClocks', WHERE WHAT IT READS IS OF BULK AT MOST 1048576: true; the input reads as it did. -/
def fnClocksUptoRow : OpenClaim := { program := "ytbgfkpagkhofpaa", sum := "87120f1806d5ee888e3e7c705650049a34588df98a2ac0bd0cf13947bb9c37ca", func := "loop.example/g00769/laws.FnClocks", spec := "fnClocks", unfollowed := true, recurses := true, apart := false, narrowed := true }
def FnClocksUptoSaid : Prop := fnClocksUptoRow.holds Try.pinned (OpenSpec.upto fnClocksSpec)

/-- 'laws.FnTab', WHERE WHAT IT READS IS OF BULK AT MOST 1048576: true; the input reads as it did. -/
def fnTabUptoRow : OpenClaim := { program := "ytbgfkpagkhofpaa", sum := "87120f1806d5ee888e3e7c705650049a34588df98a2ac0bd0cf13947bb9c37ca", func := "loop.example/g00769/laws.FnTab", spec := "fnTab", unfollowed := true, recurses := true, apart := false, narrowed := true }
def FnTabUptoSaid : Prop := fnTabUptoRow.holds Try.pinned (OpenSpec.upto fnTabSpec)

/-- 'laws.FnExactMerge', WHERE WHAT IT READS IS OF BULK AT MOST 1048576: true; the input reads as it did. -/
def fnExactMergeUptoRow : OpenClaim := { program := "ytbgfkpagkhofpaa", sum := "87120f1806d5ee888e3e7c705650049a34588df98a2ac0bd0cf13947bb9c37ca", func := "loop.example/g00769/laws.FnExactMerge", spec := "fnExactMerge", unfollowed := true, recurses := true, apart := false, narrowed := true }
def FnExactMergeUptoSaid : Prop := fnExactMergeUptoRow.holds Try.pinned (OpenSpec.upto fnExactMergeSpec)

/-- 'laws.FnGroups', WHERE WHAT IT READS IS OF BULK AT MOST 1048576: true; the input reads as it did. -/
def fnGroupsUptoRow : OpenClaim := { program := "ytbgfkpagkhofpaa", sum := "87120f1806d5ee888e3e7c705650049a34588df98a2ac0bd0cf13947bb9c37ca", func := "loop.example/g00769/laws.FnGroups", spec := "fnGroups", unfollowed := true, recurses := true, apart := false, narrowed := true }
def FnGroupsUptoSaid : Prop := fnGroupsUptoRow.holds Try.pinned (OpenSpec.upto fnGroupsSpec)

/-- 'laws.FnSteps', WHERE WHAT IT READS IS OF BULK AT MOST 1048576: true; the input reads as it did. -/
def fnStepsUptoRow : OpenClaim := { program := "ytbgfkpagkhofpaa", sum := "87120f1806d5ee888e3e7c705650049a34588df98a2ac0bd0cf13947bb9c37ca", func := "loop.example/g00769/laws.FnSteps", spec := "fnSteps", unfollowed := true, recurses := true, apart := false, narrowed := true }
def FnStepsUptoSaid : Prop := fnStepsUptoRow.holds Try.pinned (OpenSpec.upto fnStepsSpec)

/-- 'laws.FnRules', WHERE WHAT IT READS IS OF BULK AT MOST 1048576: true; the input reads as it did. -/
def fnRulesUptoRow : OpenClaim := { program := "ytbgfkpagkhofpaa", sum := "87120f1806d5ee888e3e7c705650049a34588df98a2ac0bd0cf13947bb9c37ca", func := "loop.example/g00769/laws.FnRules", spec := "fnRules", unfollowed := true, recurses := true, apart := false, narrowed := true }
def FnRulesUptoSaid : Prop := fnRulesUptoRow.holds Try.pinned (OpenSpec.upto fnRulesSpec)

end Rows
end Go.Proofs.Ytbgfkpagkhofpaa
