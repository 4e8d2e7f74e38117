-- Written by a program of this session: a Go function told as a Lean function, and the proof.
import Derived.Test.YtbgfkpagkhofpaaPFnGroupsx0
import Derived.Test.YtbgfkpagkhofpaaPFnGroupsx1
import Derived.Test.YtbgfkpagkhofpaaPFnGroupsx3
import Derived.Test.YtbgfkpagkhofpaaPFnGroupsx6
import Derived.Test.YtbgfkpagkhofpaaPFnGroupsx7
import Derived.Test.YtbgfkpagkhofpaaPFnGroupsx9
import Derived.Test.YtbgfkpagkhofpaaPFnGroupsx10
namespace Go.Proofs.Ytbgfkpagkhofpaa.PFnGroups
open Go.RowKit Go.Proofs.YtbgfkpagkhofpaaW.PrintWords Go.Proofs.YtbgfkpagkhofpaaW.PrintLast Go.Proofs.YtbgfkpagkhofpaaW.PrintMore
attribute [local go_sem] max2_int min2_int max_two min_two max_three min_three max_four min_four   -- for this text's walks alone
set_option linter.unusedVariables false
set_option linter.unusedSimpArgs false

/-! ### laws_FnGroups: function 8 -/
mutual
def laws_FnGroups.j0 : Nat → List Int → List (S95) → Int → List Int → Bool → Option (Bool)
 | 0, _, _, _, _, _ => none
 | k + 1, x0, x3, x4, x5, x42 => if x42 = true then (some false) else (laws_FnGroups.l0 k x0 x3 x4 x5 0)
def laws_FnGroups.l0 : Nat → List Int → List (S95) → Int → List Int → Int → Option (Bool)
 | 0, _, _, _, _, _ => none
 | k + 1, x0, x3, x4, x5, x6 => if x6 < (x3.length : Int) then ((spec_GroupsOk.f k x3).bind fun t370 => (laws_FnGroups.j2 k x0 x3 x4 x5 x6 t370)) else (laws_FnGroups.j2 k x0 x3 x4 x5 x6 false)
def laws_FnGroups.j2 : Nat → List Int → List (S95) → Int → List Int → Int → Bool → Option (Bool)
 | 0, _, _, _, _, _, _ => none
 | k + 1, x0, x3, x4, x5, x6, x50 => if x50 = true then ((impl_UsersOf.f k x3 x6).bind fun t371 => ((laws_has.f k t371 x4).bind fun t374 => ((laws_has.f k x5 x6).bind fun t375 => (if (t374 != t375) = true then (laws_FnGroups.j3 k x0 x3 x4 x5 x6 t371 true) else ((spec_UsersOf.f k x3 x6).bind fun t376 => ((laws_sameInts.f k t371 t376).bind fun t379 => (laws_FnGroups.j3 k x0 x3 x4 x5 x6 t371 (!t379)))))))) else ((spec_DrawMerge.f k x0).bind fun bt392 => ((impl_Merge.f k bt392.1 bt392.2).bind fun t398 => ((spec_GroupsOk.f k bt392.1).bind fun t401 => (if t401 = true then ((spec_GroupsOk.f k bt392.2).bind fun t402 => (laws_FnGroups.j7 k bt392.1 bt392.2 t398 (!t402))) else (laws_FnGroups.j7 k bt392.1 bt392.2 t398 true)))))
def laws_FnGroups.j3 : Nat → List Int → List (S95) → Int → List Int → Int → List Int → Bool → Option (Bool)
 | 0, _, _, _, _, _, _, _ => none
 | k + 1, x0, x3, x4, x5, x6, x7, x70 => if x70 = true then (some false) else (laws_FnGroups.l1 k x0 x3 x4 x5 x6 x7 0)
def laws_FnGroups.l1 : Nat → List Int → List (S95) → Int → List Int → Int → List Int → Int → Option (Bool)
 | 0, _, _, _, _, _, _, _ => none
 | k + 1, x0, x3, x4, x5, x6, x7, x8 => if 0 ≤ x6 then (if x6 < (x3.length : Int) then (if x8 < (((rd_T95 x3 x6).f0).length : Int) then (if 0 ≤ x8 then ((laws_has.f k x7 (rd ((rd_T95 x3 x6).f0) x8)).bind fun t383 => (if t383 = true then (laws_FnGroups.l1 k x0 x3 x4 x5 x6 x7 (wrap64 (x8 + 1))) else (some false))) else (none)) else (laws_FnGroups.l2 k x0 x3 x4 x5 x6 x7 0)) else (none)) else (none)
def laws_FnGroups.l2 : Nat → List Int → List (S95) → Int → List Int → Int → List Int → Int → Option (Bool)
 | 0, _, _, _, _, _, _, _ => none
 | k + 1, x0, x3, x4, x5, x6, x7, x9 => if 0 ≤ x6 then (if x6 < (x3.length : Int) then (if x9 < (((rd_T95 x3 x6).f1).length : Int) then (if 0 ≤ x9 then ((impl_UsersOf.f k x3 (rd ((rd_T95 x3 x6).f1) x9)).bind fun t387 => (laws_FnGroups.l3 k x0 x3 x4 x5 x6 x7 x9 t387 0)) else (none)) else (laws_FnGroups.l0 k x0 x3 x4 x5 (wrap64 (x6 + 1)))) else (none)) else (none)
def laws_FnGroups.l3 : Nat → List Int → List (S95) → Int → List Int → Int → List Int → Int → List Int → Int → Option (Bool)
 | 0, _, _, _, _, _, _, _, _, _ => none
 | k + 1, x0, x3, x4, x5, x6, x7, x9, x10, x11 => if x11 < (x10.length : Int) then (if 0 ≤ x11 then ((laws_has.f k x7 (rd x10 x11)).bind fun t391 => (if t391 = true then (laws_FnGroups.l3 k x0 x3 x4 x5 x6 x7 x9 x10 (wrap64 (x11 + 1))) else (some false))) else (none)) else (laws_FnGroups.l2 k x0 x3 x4 x5 x6 x7 (wrap64 (x9 + 1)))
def laws_FnGroups.j7 : Nat → List (S95) → List (S95) → List (S95) → Bool → Option (Bool)
 | 0, _, _, _, _ => none
 | k + 1, x12, x13, x14, x140 => if x140 = true then (some ((x14.length : Int) == 0)) else (laws_FnGroups.l4 k x12 x13 x14 0)
def laws_FnGroups.l4 : Nat → List (S95) → List (S95) → List (S95) → Int → Option (Bool)
 | 0, _, _, _, _ => none
 | k + 1, x12, x13, x14, x15 => if x15 < (x12.length : Int) then ((spec_UsersOf.f k x12 x15).bind fun t404 => ((impl_UsersOf.f k x14 x15).bind fun t407 => (laws_FnGroups.l5 k x12 x13 x14 x15 t404 t407 0))) else ((spec_GroupsOk.f k x14).bind fun t403 => (if t403 = true then (if (x14.length : Int) = (x12.length : Int) then (some true) else (some ((x14.length : Int) == (x13.length : Int)))) else (some false)))
def laws_FnGroups.l5 : Nat → List (S95) → List (S95) → List (S95) → Int → List Int → List Int → Int → Option (Bool)
 | 0, _, _, _, _, _, _, _ => none
 | k + 1, x12, x13, x14, x15, x16, x17, x18 => if x18 < (x16.length : Int) then (if 0 ≤ x18 then ((laws_has.f k x17 (rd x16 x18)).bind fun t411 => (if t411 = true then (laws_FnGroups.l5 k x12 x13 x14 x15 x16 x17 (wrap64 (x18 + 1))) else (some false))) else (none)) else (laws_FnGroups.l4 k x12 x13 x14 (wrap64 (x15 + 1)))
end
def laws_FnGroups.f (k : Nat) (l0 : List Int) : Option (Bool) := (laws_big.f l0).bind fun t351 => (if t351 = true then (some true) else ((spec_DrawGroupsOf.f k l0).bind fun bt352 => ((impl_GroupsOf.f k bt352.1 bt352.2).bind fun t356 => ((spec_GroupsOf.f k bt352.1 bt352.2).bind fun t359 => ((laws_sameInts.f k t356 t359).bind fun t362 => (if t362 = true then ((impl_Loops.f k bt352.1).bind fun t363 => ((spec_Loops.f k bt352.1).bind fun t366 => ((laws_sameInts.f k t363 t366).bind fun t369 => (laws_FnGroups.j0 k l0 bt352.1 bt352.2 t356 (!t369))))) else (laws_FnGroups.j0 k l0 bt352.1 bt352.2 t356 true)))))))
theorem laws_FnGroups.mono_l : ∀ k, (∀ y0 y1 y2 y3 y4, LeO (laws_FnGroups.j0 k y0 y1 y2 y3 y4) (laws_FnGroups.j0 (k + 1) y0 y1 y2 y3 y4)) ∧ (∀ y0 y1 y2 y3 y4, LeO (laws_FnGroups.l0 k y0 y1 y2 y3 y4) (laws_FnGroups.l0 (k + 1) y0 y1 y2 y3 y4)) ∧ (∀ y0 y1 y2 y3 y4 y5, LeO (laws_FnGroups.j2 k y0 y1 y2 y3 y4 y5) (laws_FnGroups.j2 (k + 1) y0 y1 y2 y3 y4 y5)) ∧ (∀ y0 y1 y2 y3 y4 y5 y6, LeO (laws_FnGroups.j3 k y0 y1 y2 y3 y4 y5 y6) (laws_FnGroups.j3 (k + 1) y0 y1 y2 y3 y4 y5 y6)) ∧ (∀ y0 y1 y2 y3 y4 y5 y6, LeO (laws_FnGroups.l1 k y0 y1 y2 y3 y4 y5 y6) (laws_FnGroups.l1 (k + 1) y0 y1 y2 y3 y4 y5 y6)) ∧ (∀ y0 y1 y2 y3 y4 y5 y6, LeO (laws_FnGroups.l2 k y0 y1 y2 y3 y4 y5 y6) (laws_FnGroups.l2 (k + 1) y0 y1 y2 y3 y4 y5 y6)) ∧ (∀ y0 y1 y2 y3 y4 y5 y6 y7 y8, LeO (laws_FnGroups.l3 k y0 y1 y2 y3 y4 y5 y6 y7 y8) (laws_FnGroups.l3 (k + 1) y0 y1 y2 y3 y4 y5 y6 y7 y8)) ∧ (∀ y0 y1 y2 y3, LeO (laws_FnGroups.j7 k y0 y1 y2 y3) (laws_FnGroups.j7 (k + 1) y0 y1 y2 y3)) ∧ (∀ y0 y1 y2 y3, LeO (laws_FnGroups.l4 k y0 y1 y2 y3) (laws_FnGroups.l4 (k + 1) y0 y1 y2 y3)) ∧ (∀ y0 y1 y2 y3 y4 y5 y6, LeO (laws_FnGroups.l5 k y0 y1 y2 y3 y4 y5 y6) (laws_FnGroups.l5 (k + 1) y0 y1 y2 y3 y4 y5 y6))
 | 0 => ⟨fun _ _ _ _ _ r h => by simp [laws_FnGroups.j0] at h, fun _ _ _ _ _ r h => by simp [laws_FnGroups.l0] at h, fun _ _ _ _ _ _ r h => by simp [laws_FnGroups.j2] at h, fun _ _ _ _ _ _ _ r h => by simp [laws_FnGroups.j3] at h, fun _ _ _ _ _ _ _ r h => by simp [laws_FnGroups.l1] at h, fun _ _ _ _ _ _ _ r h => by simp [laws_FnGroups.l2] at h, fun _ _ _ _ _ _ _ _ _ r h => by simp [laws_FnGroups.l3] at h, fun _ _ _ _ r h => by simp [laws_FnGroups.j7] at h, fun _ _ _ _ r h => by simp [laws_FnGroups.l4] at h, fun _ _ _ _ _ _ _ r h => by simp [laws_FnGroups.l5] at h⟩
 | k + 1 => by
  obtain ⟨ih0, ih1, ih2, ih3, ih4, ih5, ih6, ih7, ih8, ih9⟩ := laws_FnGroups.mono_l k
  refine ⟨?_, ?_, ?_, ?_, ?_, ?_, ?_, ?_, ?_, ?_⟩
  ·intro y0 y1 y2 y3 y4
   unfold laws_FnGroups.j0
   repeat' first
   | (with_reducible exact ih0 _ _ _ _ _)
   | (with_reducible exact ih1 _ _ _ _ _)
   | (with_reducible exact ih2 _ _ _ _ _ _)
   | (with_reducible exact ih3 _ _ _ _ _ _ _)
   | (with_reducible exact ih4 _ _ _ _ _ _ _)
   | (with_reducible exact ih5 _ _ _ _ _ _ _)
   | (with_reducible exact ih6 _ _ _ _ _ _ _ _ _)
   | (with_reducible exact ih7 _ _ _ _)
   | (with_reducible exact ih8 _ _ _ _)
   | (with_reducible exact ih9 _ _ _ _ _ _ _)
   | (with_reducible exact impl_GroupsOf.mono _ _ _)
   | (with_reducible exact impl_Loops.mono _ _)
   | (with_reducible exact impl_Merge.mono _ _ _)
   | (with_reducible exact impl_UsersOf.mono _ _ _)
   | (with_reducible exact laws_has.mono _ _ _)
   | (with_reducible exact laws_sameInts.mono _ _ _)
   | (with_reducible exact spec_DrawGroupsOf.mono _ _)
   | (with_reducible exact spec_DrawMerge.mono _ _)
   | (with_reducible exact spec_GroupsOf.mono _ _ _)
   | (with_reducible exact spec_GroupsOk.mono _ _)
   | (with_reducible exact spec_Loops.mono _ _)
   | (with_reducible exact spec_UsersOf.mono _ _ _)
   | (with_reducible exact LeO.refl _)
   | (with_reducible exact LeO.none _)
   | (with_reducible refine LeO.ite ?_ ?_)
   | (with_reducible refine LeO.bind ?_ (fun _ => ?_))
   | exact ih0 _ _ _ _ _
   | exact ih1 _ _ _ _ _
   | exact ih2 _ _ _ _ _ _
   | exact ih3 _ _ _ _ _ _ _
   | exact ih4 _ _ _ _ _ _ _
   | exact ih5 _ _ _ _ _ _ _
   | exact ih6 _ _ _ _ _ _ _ _ _
   | exact ih7 _ _ _ _
   | exact ih8 _ _ _ _
   | exact ih9 _ _ _ _ _ _ _
   | exact impl_GroupsOf.mono _ _ _
   | exact impl_Loops.mono _ _
   | exact impl_Merge.mono _ _ _
   | exact impl_UsersOf.mono _ _ _
   | exact laws_has.mono _ _ _
   | exact laws_sameInts.mono _ _ _
   | exact spec_DrawGroupsOf.mono _ _
   | exact spec_DrawMerge.mono _ _
   | exact spec_GroupsOf.mono _ _ _
   | exact spec_GroupsOk.mono _ _
   | exact spec_Loops.mono _ _
   | exact spec_UsersOf.mono _ _ _
   | exact LeO.none _
   | refine LeO.ite ?_ ?_
   | refine LeO.bind ?_ (fun _ => ?_)
  ·intro y0 y1 y2 y3 y4
   unfold laws_FnGroups.l0
   repeat' first
   | (with_reducible exact ih0 _ _ _ _ _)
   | (with_reducible exact ih1 _ _ _ _ _)
   | (with_reducible exact ih2 _ _ _ _ _ _)
   | (with_reducible exact ih3 _ _ _ _ _ _ _)
   | (with_reducible exact ih4 _ _ _ _ _ _ _)
   | (with_reducible exact ih5 _ _ _ _ _ _ _)
   | (with_reducible exact ih6 _ _ _ _ _ _ _ _ _)
   | (with_reducible exact ih7 _ _ _ _)
   | (with_reducible exact ih8 _ _ _ _)
   | (with_reducible exact ih9 _ _ _ _ _ _ _)
   | (with_reducible exact impl_GroupsOf.mono _ _ _)
   | (with_reducible exact impl_Loops.mono _ _)
   | (with_reducible exact impl_Merge.mono _ _ _)
   | (with_reducible exact impl_UsersOf.mono _ _ _)
   | (with_reducible exact laws_has.mono _ _ _)
   | (with_reducible exact laws_sameInts.mono _ _ _)
   | (with_reducible exact spec_DrawGroupsOf.mono _ _)
   | (with_reducible exact spec_DrawMerge.mono _ _)
   | (with_reducible exact spec_GroupsOf.mono _ _ _)
   | (with_reducible exact spec_GroupsOk.mono _ _)
   | (with_reducible exact spec_Loops.mono _ _)
   | (with_reducible exact spec_UsersOf.mono _ _ _)
   | (with_reducible exact LeO.refl _)
   | (with_reducible exact LeO.none _)
   | (with_reducible refine LeO.ite ?_ ?_)
   | (with_reducible refine LeO.bind ?_ (fun _ => ?_))
   | exact ih0 _ _ _ _ _
   | exact ih1 _ _ _ _ _
   | exact ih2 _ _ _ _ _ _
   | exact ih3 _ _ _ _ _ _ _
   | exact ih4 _ _ _ _ _ _ _
   | exact ih5 _ _ _ _ _ _ _
   | exact ih6 _ _ _ _ _ _ _ _ _
   | exact ih7 _ _ _ _
   | exact ih8 _ _ _ _
   | exact ih9 _ _ _ _ _ _ _
   | exact impl_GroupsOf.mono _ _ _
   | exact impl_Loops.mono _ _
   | exact impl_Merge.mono _ _ _
   | exact impl_UsersOf.mono _ _ _
   | exact laws_has.mono _ _ _
   | exact laws_sameInts.mono _ _ _
   | exact spec_DrawGroupsOf.mono _ _
   | exact spec_DrawMerge.mono _ _
   | exact spec_GroupsOf.mono _ _ _
   | exact spec_GroupsOk.mono _ _
   | exact spec_Loops.mono _ _
   | exact spec_UsersOf.mono _ _ _
   | exact LeO.none _
   | refine LeO.ite ?_ ?_
   | refine LeO.bind ?_ (fun _ => ?_)
  ·intro y0 y1 y2 y3 y4 y5
   unfold laws_FnGroups.j2
   repeat' first
   | (with_reducible exact ih0 _ _ _ _ _)
   | (with_reducible exact ih1 _ _ _ _ _)
   | (with_reducible exact ih2 _ _ _ _ _ _)
   | (with_reducible exact ih3 _ _ _ _ _ _ _)
   | (with_reducible exact ih4 _ _ _ _ _ _ _)
   | (with_reducible exact ih5 _ _ _ _ _ _ _)
   | (with_reducible exact ih6 _ _ _ _ _ _ _ _ _)
   | (with_reducible exact ih7 _ _ _ _)
   | (with_reducible exact ih8 _ _ _ _)
   | (with_reducible exact ih9 _ _ _ _ _ _ _)
   | (with_reducible exact impl_GroupsOf.mono _ _ _)
   | (with_reducible exact impl_Loops.mono _ _)
   | (with_reducible exact impl_Merge.mono _ _ _)
   | (with_reducible exact impl_UsersOf.mono _ _ _)
   | (with_reducible exact laws_has.mono _ _ _)
   | (with_reducible exact laws_sameInts.mono _ _ _)
   | (with_reducible exact spec_DrawGroupsOf.mono _ _)
   | (with_reducible exact spec_DrawMerge.mono _ _)
   | (with_reducible exact spec_GroupsOf.mono _ _ _)
   | (with_reducible exact spec_GroupsOk.mono _ _)
   | (with_reducible exact spec_Loops.mono _ _)
   | (with_reducible exact spec_UsersOf.mono _ _ _)
   | (with_reducible exact LeO.refl _)
   | (with_reducible exact LeO.none _)
   | (with_reducible refine LeO.ite ?_ ?_)
   | (with_reducible refine LeO.bind ?_ (fun _ => ?_))
   | exact ih0 _ _ _ _ _
   | exact ih1 _ _ _ _ _
   | exact ih2 _ _ _ _ _ _
   | exact ih3 _ _ _ _ _ _ _
   | exact ih4 _ _ _ _ _ _ _
   | exact ih5 _ _ _ _ _ _ _
   | exact ih6 _ _ _ _ _ _ _ _ _
   | exact ih7 _ _ _ _
   | exact ih8 _ _ _ _
   | exact ih9 _ _ _ _ _ _ _
   | exact impl_GroupsOf.mono _ _ _
   | exact impl_Loops.mono _ _
   | exact impl_Merge.mono _ _ _
   | exact impl_UsersOf.mono _ _ _
   | exact laws_has.mono _ _ _
   | exact laws_sameInts.mono _ _ _
   | exact spec_DrawGroupsOf.mono _ _
   | exact spec_DrawMerge.mono _ _
   | exact spec_GroupsOf.mono _ _ _
   | exact spec_GroupsOk.mono _ _
   | exact spec_Loops.mono _ _
   | exact spec_UsersOf.mono _ _ _
   | exact LeO.none _
   | refine LeO.ite ?_ ?_
   | refine LeO.bind ?_ (fun _ => ?_)
  ·intro y0 y1 y2 y3 y4 y5 y6
   unfold laws_FnGroups.j3
   repeat' first
   | (with_reducible exact ih0 _ _ _ _ _)
   | (with_reducible exact ih1 _ _ _ _ _)
   | (with_reducible exact ih2 _ _ _ _ _ _)
   | (with_reducible exact ih3 _ _ _ _ _ _ _)
   | (with_reducible exact ih4 _ _ _ _ _ _ _)
   | (with_reducible exact ih5 _ _ _ _ _ _ _)
   | (with_reducible exact ih6 _ _ _ _ _ _ _ _ _)
   | (with_reducible exact ih7 _ _ _ _)
   | (with_reducible exact ih8 _ _ _ _)
   | (with_reducible exact ih9 _ _ _ _ _ _ _)
   | (with_reducible exact impl_GroupsOf.mono _ _ _)
   | (with_reducible exact impl_Loops.mono _ _)
   | (with_reducible exact impl_Merge.mono _ _ _)
   | (with_reducible exact impl_UsersOf.mono _ _ _)
   | (with_reducible exact laws_has.mono _ _ _)
   | (with_reducible exact laws_sameInts.mono _ _ _)
   | (with_reducible exact spec_DrawGroupsOf.mono _ _)
   | (with_reducible exact spec_DrawMerge.mono _ _)
   | (with_reducible exact spec_GroupsOf.mono _ _ _)
   | (with_reducible exact spec_GroupsOk.mono _ _)
   | (with_reducible exact spec_Loops.mono _ _)
   | (with_reducible exact spec_UsersOf.mono _ _ _)
   | (with_reducible exact LeO.refl _)
   | (with_reducible exact LeO.none _)
   | (with_reducible refine LeO.ite ?_ ?_)
   | (with_reducible refine LeO.bind ?_ (fun _ => ?_))
   | exact ih0 _ _ _ _ _
   | exact ih1 _ _ _ _ _
   | exact ih2 _ _ _ _ _ _
   | exact ih3 _ _ _ _ _ _ _
   | exact ih4 _ _ _ _ _ _ _
   | exact ih5 _ _ _ _ _ _ _
   | exact ih6 _ _ _ _ _ _ _ _ _
   | exact ih7 _ _ _ _
   | exact ih8 _ _ _ _
   | exact ih9 _ _ _ _ _ _ _
   | exact impl_GroupsOf.mono _ _ _
   | exact impl_Loops.mono _ _
   | exact impl_Merge.mono _ _ _
   | exact impl_UsersOf.mono _ _ _
   | exact laws_has.mono _ _ _
   | exact laws_sameInts.mono _ _ _
   | exact spec_DrawGroupsOf.mono _ _
   | exact spec_DrawMerge.mono _ _
   | exact spec_GroupsOf.mono _ _ _
   | exact spec_GroupsOk.mono _ _
   | exact spec_Loops.mono _ _
   | exact spec_UsersOf.mono _ _ _
   | exact LeO.none _
   | refine LeO.ite ?_ ?_
   | refine LeO.bind ?_ (fun _ => ?_)
  ·intro y0 y1 y2 y3 y4 y5 y6
   unfold laws_FnGroups.l1
   repeat' first
   | (with_reducible exact ih0 _ _ _ _ _)
   | (with_reducible exact ih1 _ _ _ _ _)
   | (with_reducible exact ih2 _ _ _ _ _ _)
   | (with_reducible exact ih3 _ _ _ _ _ _ _)
   | (with_reducible exact ih4 _ _ _ _ _ _ _)
   | (with_reducible exact ih5 _ _ _ _ _ _ _)
   | (with_reducible exact ih6 _ _ _ _ _ _ _ _ _)
   | (with_reducible exact ih7 _ _ _ _)
   | (with_reducible exact ih8 _ _ _ _)
   | (with_reducible exact ih9 _ _ _ _ _ _ _)
   | (with_reducible exact impl_GroupsOf.mono _ _ _)
   | (with_reducible exact impl_Loops.mono _ _)
   | (with_reducible exact impl_Merge.mono _ _ _)
   | (with_reducible exact impl_UsersOf.mono _ _ _)
   | (with_reducible exact laws_has.mono _ _ _)
   | (with_reducible exact laws_sameInts.mono _ _ _)
   | (with_reducible exact spec_DrawGroupsOf.mono _ _)
   | (with_reducible exact spec_DrawMerge.mono _ _)
   | (with_reducible exact spec_GroupsOf.mono _ _ _)
   | (with_reducible exact spec_GroupsOk.mono _ _)
   | (with_reducible exact spec_Loops.mono _ _)
   | (with_reducible exact spec_UsersOf.mono _ _ _)
   | (with_reducible exact LeO.refl _)
   | (with_reducible exact LeO.none _)
   | (with_reducible refine LeO.ite ?_ ?_)
   | (with_reducible refine LeO.bind ?_ (fun _ => ?_))
   | exact ih0 _ _ _ _ _
   | exact ih1 _ _ _ _ _
   | exact ih2 _ _ _ _ _ _
   | exact ih3 _ _ _ _ _ _ _
   | exact ih4 _ _ _ _ _ _ _
   | exact ih5 _ _ _ _ _ _ _
   | exact ih6 _ _ _ _ _ _ _ _ _
   | exact ih7 _ _ _ _
   | exact ih8 _ _ _ _
   | exact ih9 _ _ _ _ _ _ _
   | exact impl_GroupsOf.mono _ _ _
   | exact impl_Loops.mono _ _
   | exact impl_Merge.mono _ _ _
   | exact impl_UsersOf.mono _ _ _
   | exact laws_has.mono _ _ _
   | exact laws_sameInts.mono _ _ _
   | exact spec_DrawGroupsOf.mono _ _
   | exact spec_DrawMerge.mono _ _
   | exact spec_GroupsOf.mono _ _ _
   | exact spec_GroupsOk.mono _ _
   | exact spec_Loops.mono _ _
   | exact spec_UsersOf.mono _ _ _
   | exact LeO.none _
   | refine LeO.ite ?_ ?_
   | refine LeO.bind ?_ (fun _ => ?_)
  ·intro y0 y1 y2 y3 y4 y5 y6
   unfold laws_FnGroups.l2
   repeat' first
   | (with_reducible exact ih0 _ _ _ _ _)
   | (with_reducible exact ih1 _ _ _ _ _)
   | (with_reducible exact ih2 _ _ _ _ _ _)
   | (with_reducible exact ih3 _ _ _ _ _ _ _)
   | (with_reducible exact ih4 _ _ _ _ _ _ _)
   | (with_reducible exact ih5 _ _ _ _ _ _ _)
   | (with_reducible exact ih6 _ _ _ _ _ _ _ _ _)
   | (with_reducible exact ih7 _ _ _ _)
   | (with_reducible exact ih8 _ _ _ _)
   | (with_reducible exact ih9 _ _ _ _ _ _ _)
   | (with_reducible exact impl_GroupsOf.mono _ _ _)
   | (with_reducible exact impl_Loops.mono _ _)
   | (with_reducible exact impl_Merge.mono _ _ _)
   | (with_reducible exact impl_UsersOf.mono _ _ _)
   | (with_reducible exact laws_has.mono _ _ _)
   | (with_reducible exact laws_sameInts.mono _ _ _)
   | (with_reducible exact spec_DrawGroupsOf.mono _ _)
   | (with_reducible exact spec_DrawMerge.mono _ _)
   | (with_reducible exact spec_GroupsOf.mono _ _ _)
   | (with_reducible exact spec_GroupsOk.mono _ _)
   | (with_reducible exact spec_Loops.mono _ _)
   | (with_reducible exact spec_UsersOf.mono _ _ _)
   | (with_reducible exact LeO.refl _)
   | (with_reducible exact LeO.none _)
   | (with_reducible refine LeO.ite ?_ ?_)
   | (with_reducible refine LeO.bind ?_ (fun _ => ?_))
   | exact ih0 _ _ _ _ _
   | exact ih1 _ _ _ _ _
   | exact ih2 _ _ _ _ _ _
   | exact ih3 _ _ _ _ _ _ _
   | exact ih4 _ _ _ _ _ _ _
   | exact ih5 _ _ _ _ _ _ _
   | exact ih6 _ _ _ _ _ _ _ _ _
   | exact ih7 _ _ _ _
   | exact ih8 _ _ _ _
   | exact ih9 _ _ _ _ _ _ _
   | exact impl_GroupsOf.mono _ _ _
   | exact impl_Loops.mono _ _
   | exact impl_Merge.mono _ _ _
   | exact impl_UsersOf.mono _ _ _
   | exact laws_has.mono _ _ _
   | exact laws_sameInts.mono _ _ _
   | exact spec_DrawGroupsOf.mono _ _
   | exact spec_DrawMerge.mono _ _
   | exact spec_GroupsOf.mono _ _ _
   | exact spec_GroupsOk.mono _ _
   | exact spec_Loops.mono _ _
   | exact spec_UsersOf.mono _ _ _
   | exact LeO.none _
   | refine LeO.ite ?_ ?_
   | refine LeO.bind ?_ (fun _ => ?_)
  ·intro y0 y1 y2 y3 y4 y5 y6 y7 y8
   unfold laws_FnGroups.l3
   repeat' first
   | (with_reducible exact ih0 _ _ _ _ _)
   | (with_reducible exact ih1 _ _ _ _ _)
   | (with_reducible exact ih2 _ _ _ _ _ _)
   | (with_reducible exact ih3 _ _ _ _ _ _ _)
   | (with_reducible exact ih4 _ _ _ _ _ _ _)
   | (with_reducible exact ih5 _ _ _ _ _ _ _)
   | (with_reducible exact ih6 _ _ _ _ _ _ _ _ _)
   | (with_reducible exact ih7 _ _ _ _)
   | (with_reducible exact ih8 _ _ _ _)
   | (with_reducible exact ih9 _ _ _ _ _ _ _)
   | (with_reducible exact impl_GroupsOf.mono _ _ _)
   | (with_reducible exact impl_Loops.mono _ _)
   | (with_reducible exact impl_Merge.mono _ _ _)
   | (with_reducible exact impl_UsersOf.mono _ _ _)
   | (with_reducible exact laws_has.mono _ _ _)
   | (with_reducible exact laws_sameInts.mono _ _ _)
   | (with_reducible exact spec_DrawGroupsOf.mono _ _)
   | (with_reducible exact spec_DrawMerge.mono _ _)
   | (with_reducible exact spec_GroupsOf.mono _ _ _)
   | (with_reducible exact spec_GroupsOk.mono _ _)
   | (with_reducible exact spec_Loops.mono _ _)
   | (with_reducible exact spec_UsersOf.mono _ _ _)
   | (with_reducible exact LeO.refl _)
   | (with_reducible exact LeO.none _)
   | (with_reducible refine LeO.ite ?_ ?_)
   | (with_reducible refine LeO.bind ?_ (fun _ => ?_))
   | exact ih0 _ _ _ _ _
   | exact ih1 _ _ _ _ _
   | exact ih2 _ _ _ _ _ _
   | exact ih3 _ _ _ _ _ _ _
   | exact ih4 _ _ _ _ _ _ _
   | exact ih5 _ _ _ _ _ _ _
   | exact ih6 _ _ _ _ _ _ _ _ _
   | exact ih7 _ _ _ _
   | exact ih8 _ _ _ _
   | exact ih9 _ _ _ _ _ _ _
   | exact impl_GroupsOf.mono _ _ _
   | exact impl_Loops.mono _ _
   | exact impl_Merge.mono _ _ _
   | exact impl_UsersOf.mono _ _ _
   | exact laws_has.mono _ _ _
   | exact laws_sameInts.mono _ _ _
   | exact spec_DrawGroupsOf.mono _ _
   | exact spec_DrawMerge.mono _ _
   | exact spec_GroupsOf.mono _ _ _
   | exact spec_GroupsOk.mono _ _
   | exact spec_Loops.mono _ _
   | exact spec_UsersOf.mono _ _ _
   | exact LeO.none _
   | refine LeO.ite ?_ ?_
   | refine LeO.bind ?_ (fun _ => ?_)
  ·intro y0 y1 y2 y3
   unfold laws_FnGroups.j7
   repeat' first
   | (with_reducible exact ih0 _ _ _ _ _)
   | (with_reducible exact ih1 _ _ _ _ _)
   | (with_reducible exact ih2 _ _ _ _ _ _)
   | (with_reducible exact ih3 _ _ _ _ _ _ _)
   | (with_reducible exact ih4 _ _ _ _ _ _ _)
   | (with_reducible exact ih5 _ _ _ _ _ _ _)
   | (with_reducible exact ih6 _ _ _ _ _ _ _ _ _)
   | (with_reducible exact ih7 _ _ _ _)
   | (with_reducible exact ih8 _ _ _ _)
   | (with_reducible exact ih9 _ _ _ _ _ _ _)
   | (with_reducible exact impl_GroupsOf.mono _ _ _)
   | (with_reducible exact impl_Loops.mono _ _)
   | (with_reducible exact impl_Merge.mono _ _ _)
   | (with_reducible exact impl_UsersOf.mono _ _ _)
   | (with_reducible exact laws_has.mono _ _ _)
   | (with_reducible exact laws_sameInts.mono _ _ _)
   | (with_reducible exact spec_DrawGroupsOf.mono _ _)
   | (with_reducible exact spec_DrawMerge.mono _ _)
   | (with_reducible exact spec_GroupsOf.mono _ _ _)
   | (with_reducible exact spec_GroupsOk.mono _ _)
   | (with_reducible exact spec_Loops.mono _ _)
   | (with_reducible exact spec_UsersOf.mono _ _ _)
   | (with_reducible exact LeO.refl _)
   | (with_reducible exact LeO.none _)
   | (with_reducible refine LeO.ite ?_ ?_)
   | (with_reducible refine LeO.bind ?_ (fun _ => ?_))
   | exact ih0 _ _ _ _ _
   | exact ih1 _ _ _ _ _
   | exact ih2 _ _ _ _ _ _
   | exact ih3 _ _ _ _ _ _ _
   | exact ih4 _ _ _ _ _ _ _
   | exact ih5 _ _ _ _ _ _ _
   | exact ih6 _ _ _ _ _ _ _ _ _
   | exact ih7 _ _ _ _
   | exact ih8 _ _ _ _
   | exact ih9 _ _ _ _ _ _ _
   | exact impl_GroupsOf.mono _ _ _
   | exact impl_Loops.mono _ _
   | exact impl_Merge.mono _ _ _
   | exact impl_UsersOf.mono _ _ _
   | exact laws_has.mono _ _ _
   | exact laws_sameInts.mono _ _ _
   | exact spec_DrawGroupsOf.mono _ _
   | exact spec_DrawMerge.mono _ _
   | exact spec_GroupsOf.mono _ _ _
   | exact spec_GroupsOk.mono _ _
   | exact spec_Loops.mono _ _
   | exact spec_UsersOf.mono _ _ _
   | exact LeO.none _
   | refine LeO.ite ?_ ?_
   | refine LeO.bind ?_ (fun _ => ?_)
  ·intro y0 y1 y2 y3
   unfold laws_FnGroups.l4
   repeat' first
   | (with_reducible exact ih0 _ _ _ _ _)
   | (with_reducible exact ih1 _ _ _ _ _)
   | (with_reducible exact ih2 _ _ _ _ _ _)
   | (with_reducible exact ih3 _ _ _ _ _ _ _)
   | (with_reducible exact ih4 _ _ _ _ _ _ _)
   | (with_reducible exact ih5 _ _ _ _ _ _ _)
   | (with_reducible exact ih6 _ _ _ _ _ _ _ _ _)
   | (with_reducible exact ih7 _ _ _ _)
   | (with_reducible exact ih8 _ _ _ _)
   | (with_reducible exact ih9 _ _ _ _ _ _ _)
   | (with_reducible exact impl_GroupsOf.mono _ _ _)
   | (with_reducible exact impl_Loops.mono _ _)
   | (with_reducible exact impl_Merge.mono _ _ _)
   | (with_reducible exact impl_UsersOf.mono _ _ _)
   | (with_reducible exact laws_has.mono _ _ _)
   | (with_reducible exact laws_sameInts.mono _ _ _)
   | (with_reducible exact spec_DrawGroupsOf.mono _ _)
   | (with_reducible exact spec_DrawMerge.mono _ _)
   | (with_reducible exact spec_GroupsOf.mono _ _ _)
   | (with_reducible exact spec_GroupsOk.mono _ _)
   | (with_reducible exact spec_Loops.mono _ _)
   | (with_reducible exact spec_UsersOf.mono _ _ _)
   | (with_reducible exact LeO.refl _)
   | (with_reducible exact LeO.none _)
   | (with_reducible refine LeO.ite ?_ ?_)
   | (with_reducible refine LeO.bind ?_ (fun _ => ?_))
   | exact ih0 _ _ _ _ _
   | exact ih1 _ _ _ _ _
   | exact ih2 _ _ _ _ _ _
   | exact ih3 _ _ _ _ _ _ _
   | exact ih4 _ _ _ _ _ _ _
   | exact ih5 _ _ _ _ _ _ _
   | exact ih6 _ _ _ _ _ _ _ _ _
   | exact ih7 _ _ _ _
   | exact ih8 _ _ _ _
   | exact ih9 _ _ _ _ _ _ _
   | exact impl_GroupsOf.mono _ _ _
   | exact impl_Loops.mono _ _
   | exact impl_Merge.mono _ _ _
   | exact impl_UsersOf.mono _ _ _
   | exact laws_has.mono _ _ _
   | exact laws_sameInts.mono _ _ _
   | exact spec_DrawGroupsOf.mono _ _
   | exact spec_DrawMerge.mono _ _
   | exact spec_GroupsOf.mono _ _ _
   | exact spec_GroupsOk.mono _ _
   | exact spec_Loops.mono _ _
   | exact spec_UsersOf.mono _ _ _
   | exact LeO.none _
   | refine LeO.ite ?_ ?_
   | refine LeO.bind ?_ (fun _ => ?_)
  ·intro y0 y1 y2 y3 y4 y5 y6
   unfold laws_FnGroups.l5
   repeat' first
   | (with_reducible exact ih0 _ _ _ _ _)
   | (with_reducible exact ih1 _ _ _ _ _)
   | (with_reducible exact ih2 _ _ _ _ _ _)
   | (with_reducible exact ih3 _ _ _ _ _ _ _)
   | (with_reducible exact ih4 _ _ _ _ _ _ _)
   | (with_reducible exact ih5 _ _ _ _ _ _ _)
   | (with_reducible exact ih6 _ _ _ _ _ _ _ _ _)
   | (with_reducible exact ih7 _ _ _ _)
   | (with_reducible exact ih8 _ _ _ _)
   | (with_reducible exact ih9 _ _ _ _ _ _ _)
   | (with_reducible exact impl_GroupsOf.mono _ _ _)
   | (with_reducible exact impl_Loops.mono _ _)
   | (with_reducible exact impl_Merge.mono _ _ _)
   | (with_reducible exact impl_UsersOf.mono _ _ _)
   | (with_reducible exact laws_has.mono _ _ _)
   | (with_reducible exact laws_sameInts.mono _ _ _)
   | (with_reducible exact spec_DrawGroupsOf.mono _ _)
   | (with_reducible exact spec_DrawMerge.mono _ _)
   | (with_reducible exact spec_GroupsOf.mono _ _ _)
   | (with_reducible exact spec_GroupsOk.mono _ _)
   | (with_reducible exact spec_Loops.mono _ _)
   | (with_reducible exact spec_UsersOf.mono _ _ _)
   | (with_reducible exact LeO.refl _)
   | (with_reducible exact LeO.none _)
   | (with_reducible refine LeO.ite ?_ ?_)
   | (with_reducible refine LeO.bind ?_ (fun _ => ?_))
   | exact ih0 _ _ _ _ _
   | exact ih1 _ _ _ _ _
   | exact ih2 _ _ _ _ _ _
   | exact ih3 _ _ _ _ _ _ _
   | exact ih4 _ _ _ _ _ _ _
   | exact ih5 _ _ _ _ _ _ _
   | exact ih6 _ _ _ _ _ _ _ _ _
   | exact ih7 _ _ _ _
   | exact ih8 _ _ _ _
   | exact ih9 _ _ _ _ _ _ _
   | exact impl_GroupsOf.mono _ _ _
   | exact impl_Loops.mono _ _
   | exact impl_Merge.mono _ _ _
   | exact impl_UsersOf.mono _ _ _
   | exact laws_has.mono _ _ _
   | exact laws_sameInts.mono _ _ _
   | exact spec_DrawGroupsOf.mono _ _
   | exact spec_DrawMerge.mono _ _
   | exact spec_GroupsOf.mono _ _ _
   | exact spec_GroupsOk.mono _ _
   | exact spec_Loops.mono _ _
   | exact spec_UsersOf.mono _ _ _
   | exact LeO.none _
   | refine LeO.ite ?_ ?_
   | refine LeO.bind ?_ (fun _ => ?_)
theorem laws_FnGroups.mono : ∀ a0 k, LeO (laws_FnGroups.f k a0) (laws_FnGroups.f (k + 1) a0) := by
 intro a0 k
 obtain ⟨ih0, ih1, ih2, ih3, ih4, ih5, ih6, ih7, ih8, ih9⟩ := laws_FnGroups.mono_l k
 unfold laws_FnGroups.f
 repeat' first
   | (with_reducible exact ih0 _ _ _ _ _)
   | (with_reducible exact ih1 _ _ _ _ _)
   | (with_reducible exact ih2 _ _ _ _ _ _)
   | (with_reducible exact ih3 _ _ _ _ _ _ _)
   | (with_reducible exact ih4 _ _ _ _ _ _ _)
   | (with_reducible exact ih5 _ _ _ _ _ _ _)
   | (with_reducible exact ih6 _ _ _ _ _ _ _ _ _)
   | (with_reducible exact ih7 _ _ _ _)
   | (with_reducible exact ih8 _ _ _ _)
   | (with_reducible exact ih9 _ _ _ _ _ _ _)
   | (with_reducible exact impl_GroupsOf.mono _ _ _)
   | (with_reducible exact impl_Loops.mono _ _)
   | (with_reducible exact impl_Merge.mono _ _ _)
   | (with_reducible exact impl_UsersOf.mono _ _ _)
   | (with_reducible exact laws_has.mono _ _ _)
   | (with_reducible exact laws_sameInts.mono _ _ _)
   | (with_reducible exact spec_DrawGroupsOf.mono _ _)
   | (with_reducible exact spec_DrawMerge.mono _ _)
   | (with_reducible exact spec_GroupsOf.mono _ _ _)
   | (with_reducible exact spec_GroupsOk.mono _ _)
   | (with_reducible exact spec_Loops.mono _ _)
   | (with_reducible exact spec_UsersOf.mono _ _ _)
   | (with_reducible exact LeO.refl _)
   | (with_reducible exact LeO.none _)
   | (with_reducible refine LeO.ite ?_ ?_)
   | (with_reducible refine LeO.bind ?_ (fun _ => ?_))
   | exact ih0 _ _ _ _ _
   | exact ih1 _ _ _ _ _
   | exact ih2 _ _ _ _ _ _
   | exact ih3 _ _ _ _ _ _ _
   | exact ih4 _ _ _ _ _ _ _
   | exact ih5 _ _ _ _ _ _ _
   | exact ih6 _ _ _ _ _ _ _ _ _
   | exact ih7 _ _ _ _
   | exact ih8 _ _ _ _
   | exact ih9 _ _ _ _ _ _ _
   | exact impl_GroupsOf.mono _ _ _
   | exact impl_Loops.mono _ _
   | exact impl_Merge.mono _ _ _
   | exact impl_UsersOf.mono _ _ _
   | exact laws_has.mono _ _ _
   | exact laws_sameInts.mono _ _ _
   | exact spec_DrawGroupsOf.mono _ _
   | exact spec_DrawMerge.mono _ _
   | exact spec_GroupsOf.mono _ _ _
   | exact spec_GroupsOk.mono _ _
   | exact spec_Loops.mono _ _
   | exact spec_UsersOf.mono _ _ _
   | exact LeO.none _
   | refine LeO.ite ?_ ?_
   | refine LeO.bind ?_ (fun _ => ?_)
set_option maxHeartbeats 8000000 in
set_option maxRecDepth 100000 in
theorem laws_FnGroups.calls (k : Nat) (A0 : Option Addr) (c0 : Nat) (l0 : List Int) (w : World) (hr0 : Kd.C (Kd.int .u8) w A0 l0.length l0) (hc0 : l0.length ≤ c0) (h : laws_FnGroups.f k l0 = some true) :
  Calls Try.prog 8 #[.slice A0 l0.length c0] w fun e w' => e = .returned (.bool true) ∧ Below w.heap.size w w' := by
 have HR0 := Aside0.mk hr0
 have HC0 := Aside0.mk hc0
 clear hr0 hc0
 have HB := Aside0.mk (Below.refl w.heap.size w)
 have H : ((laws_big.f l0).bind fun t351 => (if t351 = true then (some true) else ((spec_DrawGroupsOf.f k l0).bind fun bt352 => ((impl_GroupsOf.f k bt352.1 bt352.2).bind fun t356 => ((spec_GroupsOf.f k bt352.1 bt352.2).bind fun t359 => ((laws_sameInts.f k t356 t359).bind fun t362 => (if t362 = true then ((impl_Loops.f k bt352.1).bind fun t363 => ((spec_Loops.f k bt352.1).bind fun t366 => ((laws_sameInts.f k t363 t366).bind fun t369 => (laws_FnGroups.j0 k l0 bt352.1 bt352.2 t356 (!t369))))) else (laws_FnGroups.j0 k l0 bt352.1 bt352.2 t356 true)))))))) = some true := h
 clear h
 obtain ⟨t351, A20, H⟩ := bnd_ H
 have A2 := Aside0.mk A20
 clear A20
 by_cases c3 : t351 = true
 ·subst c3
  have H1 : (some true) = some true := by first | rfl | (rw [if_pos rfl] at H; exact H)
  clear H
  have H := H1
  clear H1
  clear H
  go_enter Try.func8, Try.ntmps8
  go_wp2_with (first | ((with_reducible refine gate_callee (f := 11) rfl ?_); refine goesL_ (some 20) rfl rfl Try.func11 (by kernel_rfl) rfl #[.slice A0 l0.length c0] rfl (by (try simp only [List.map_toArray, List.map_cons, List.map_nil]); first | done | rfl | (simp only [List.length_drop, List.length_take]; rfl)) ?_; (with_reducible refine (laws_big.calls _ _ l0 true _ ?side1 ?side2 A2.out).mono ?_); (case side1 => repeat (first | exact HR0.out | (with_reducible refine Kd.C_alloc ?_ _) | (with_reducible refine Kd.C_drewN ?_ _) | (with_reducible refine Kd.C_drew ?_))); (case side2 => exact HC0.out); rintro e w' ⟨rfl, ⟨nd, rfl⟩⟩; refine ⟨_, rfl, ?_⟩))
  go_ret
  exact ⟨by first | rfl | (simp [errW_none, errW_some] <;> rfl) | (simp [*, errW_none, errW_some] <;> rfl), by repeat (first | (with_reducible first | exact HB.out | apply below_alloc | apply pw_below_drewN | apply below_drew1) | exact HB.out)⟩
 ·replace c3 := Bool.eq_false_iff.mpr c3
  subst c3
  have H1 : ((spec_DrawGroupsOf.f k l0).bind fun bt352 => ((impl_GroupsOf.f k bt352.1 bt352.2).bind fun t356 => ((spec_GroupsOf.f k bt352.1 bt352.2).bind fun t359 => ((laws_sameInts.f k t356 t359).bind fun t362 => (if t362 = true then ((impl_Loops.f k bt352.1).bind fun t363 => ((spec_Loops.f k bt352.1).bind fun t366 => ((laws_sameInts.f k t363 t366).bind fun t369 => (laws_FnGroups.j0 k l0 bt352.1 bt352.2 t356 (!t369))))) else (laws_FnGroups.j0 k l0 bt352.1 bt352.2 t356 true)))))) = some true := by first | rfl | (rw [if_neg (show ¬ (false = true) by decide)] at H; exact H)
  clear H
  have H := H1
  clear H1
  replace H := Option.bind_eq_some_iff.mp H
  obtain ⟨⟨t352, t353⟩, A40, H⟩ := H
  replace H : ((impl_GroupsOf.f k t352 t353).bind fun t356 => ((spec_GroupsOf.f k t352 t353).bind fun t359 => ((laws_sameInts.f k t356 t359).bind fun t362 => (if t362 = true then ((impl_Loops.f k t352).bind fun t363 => ((spec_Loops.f k t352).bind fun t366 => ((laws_sameInts.f k t363 t366).bind fun t369 => (laws_FnGroups.j0 k l0 t352 t353 t356 (!t369))))) else (laws_FnGroups.j0 k l0 t352 t353 t356 true))))) = some true := H
  have A4 := Aside0.mk A40
  clear A40
  obtain ⟨t356, A50, H⟩ := bnd_ H
  have A5 := Aside0.mk A50
  clear A50
  have HC6 := Aside0.mk H
  clear H
  go_enter Try.func8, Try.ntmps8
  go_upto_region 5 with (first | ((with_reducible refine gate_callee (f := 11) rfl ?_); refine goesL_ (some 20) rfl rfl Try.func11 (by kernel_rfl) rfl #[.slice A0 l0.length c0] rfl (by (try simp only [List.map_toArray, List.map_cons, List.map_nil]); first | done | rfl | (simp only [List.length_drop, List.length_take]; rfl)) ?_; (with_reducible refine (laws_big.calls _ _ l0 false _ ?side1 ?side2 A2.out).mono ?_); (case side1 => repeat (first | exact HR0.out | (with_reducible refine Kd.C_alloc ?_ _) | (with_reducible refine Kd.C_drewN ?_ _) | (with_reducible refine Kd.C_drew ?_))); (case side2 => exact HC0.out); rintro e w' ⟨rfl, ⟨nd, rfl⟩⟩; refine ⟨_, rfl, ?_⟩) | ((with_reducible refine gate_callee (f := 57) rfl ?_); refine goesL_ (some 23) rfl rfl Try.func57 (by kernel_rfl) rfl #[.slice A0 l0.length c0] rfl (by (try simp only [List.map_toArray, List.map_cons, List.map_nil]); first | done | rfl | (simp only [List.length_drop, List.length_take]; rfl)) ?_; (with_reducible refine (spec_DrawGroupsOf.calls k _ _ l0 t352 t353 _ ?side1 ?side2 A4.out).mono ?_); (case side1 => repeat (first | exact HR0.out | (with_reducible refine Kd.C_alloc ?_ _) | (with_reducible refine Kd.C_drewN ?_ _) | (with_reducible refine Kd.C_drew ?_))); (case side2 => exact HC0.out); rintro e w7 ⟨v354, rfl, ho0, hb⟩; refine ⟨_, rfl, ?_⟩; have n0_ := Aside0.mk (Kd.N_lower (Kd.N_mono (ok' := fun k_ => True) (Kd.S_N (Kd.S_bound ho0)) (fun k_ hk_ => trivial)) (below_size (by repeat (first | (with_reducible first | exact HB.out | apply below_alloc | apply pw_below_drewN | apply below_drew1) | exact HB.out)))); have n1_ := Aside0.mk (below_step (by repeat (first | (with_reducible first | exact HB.out | apply below_alloc | apply pw_below_drewN | apply below_drew1) | exact HB.out)) hb); clear HB; have HO355 := n0_; have HB := n1_; clear n0_ n1_; (try clear hb); (try clear hb2); (try clear hk); (try clear hi); (try clear ho0); obtain ⟨Ao8, co8, eo8⟩ := Kd.N_slice HO355.out; subst eo8) | ((with_reducible refine gate_callee (f := 58) rfl ?_); refine goesL_ (some 28) rfl rfl Try.func58 (by kernel_rfl) rfl #[.slice Ao8 t352.length co8, .int .i64 t353] rfl (by (try simp only [List.map_toArray, List.map_cons, List.map_nil]); first | done | rfl | (simp only [List.length_drop, List.length_take]; rfl)) ?_; (with_reducible refine (impl_GroupsOf.calls k _ _ t352 t353 t356 _ ?side1 ?side2 A5.out).mono ?_); (case side1 => repeat (first | exact (Kd.N_reads' HO355.out).2.2 | (with_reducible refine Kd.C_alloc ?_ _) | (with_reducible refine Kd.C_drewN ?_ _) | (with_reducible refine Kd.C_drew ?_))); (case side2 => exact (Kd.N_reads' HO355.out).2.1); rintro e w9 ⟨v357, rfl, ho0, hb⟩; refine ⟨_, rfl, ?_⟩; have n0_ := Aside0.mk (Kd.N_elder' (by (with_reducible repeat (first | apply Kd.N_alloc | apply Kd.N_drewN | apply Kd.N_drew)); exact HO355.out) (Kd.R_base ho0) hb); have n1_ := Aside0.mk (Kd.R_lower ho0 (below_size (by repeat (first | (with_reducible first | exact HB.out | apply below_alloc | apply pw_below_drewN | apply below_drew1) | exact HB.out)))); have n2_ := Aside0.mk (below_step (by repeat (first | (with_reducible first | exact HB.out | apply below_alloc | apply pw_below_drewN | apply below_drew1) | exact HB.out)) hb); clear HO355; clear HB; have HO355 := n0_; have HO358 := n1_; have HB := n2_; clear n0_ n1_ n2_; (try clear hb); (try clear hb2); (try clear hk); (try clear hi); (try clear ho0)))
  (try simp only [Act.put, List.setIfInBounds_toArray, List.set_cons_zero, List.set_cons_succ])
  go_cut [42] (fun v42 wc => ∃ (kq : Nat) (x42_5 : Bool), v42 = .bool x42_5 ∧ Aside0 (laws_FnGroups.j0 kq l0 t352 t353 t356 x42_5 = some true) ∧ Aside0 (kq ≤ k) ∧ Aside0 (Kd.N k95 95 wc w.heap.size (fun k_ => some k_ ≠ (v357 : Value).ownBlock) (.slice Ao8 t352.length co8) t352) ∧ Aside0 (Kd.R (Kd.int .i64) 3 wc w.heap.size (fun _ => True) v357 t356) ∧ Aside0 (Below w.heap.size w wc))
  case first =>
   have H := HC6.out
   clear HC6
   obtain ⟨t359, A100, H⟩ := bnd_ H
   have A10 := Aside0.mk A100
   clear A100
   obtain ⟨t362, A110, H⟩ := bnd_ H
   have A11 := Aside0.mk A110
   clear A110
   by_cases c12 : t362 = true
   ·subst c12
    have H1 : ((impl_Loops.f k t352).bind fun t363 => ((spec_Loops.f k t352).bind fun t366 => ((laws_sameInts.f k t363 t366).bind fun t369 => (laws_FnGroups.j0 k l0 t352 t353 t356 (!t369))))) = some true := by first | rfl | (rw [if_pos rfl] at H; exact H)
    clear H
    have H := H1
    clear H1
    obtain ⟨t363, A130, H⟩ := bnd_ H
    have A13 := Aside0.mk A130
    clear A130
    obtain ⟨t366, A140, H⟩ := bnd_ H
    have A14 := Aside0.mk A140
    clear A140
    obtain ⟨t369, A150, H⟩ := bnd_ H
    have A15 := Aside0.mk A150
    clear A150
    have H' := Aside0.mk H
    clear H
    go_wp2_with (first | ((with_reducible refine gate_callee (f := 59) rfl ?_); refine goesL_ (some 32) rfl rfl Try.func59 (by kernel_rfl) rfl #[.slice Ao8 t352.length co8, .int .i64 t353] rfl (by (try simp only [List.map_toArray, List.map_cons, List.map_nil]); first | done | rfl | (simp only [List.length_drop, List.length_take]; rfl)) ?_; (with_reducible refine (spec_GroupsOf.calls k _ _ t352 t353 t359 _ ?side1 ?side2 A10.out).mono ?_); (case side1 => repeat (first | exact (Kd.N_reads' HO355.out).2.2 | (with_reducible refine Kd.C_alloc ?_ _) | (with_reducible refine Kd.C_drewN ?_ _) | (with_reducible refine Kd.C_drew ?_))); (case side2 => exact (Kd.N_reads' HO355.out).2.1); rintro e w16 ⟨v360, rfl, ho0, hb⟩; refine ⟨_, rfl, ?_⟩; have n0_ := Aside0.mk (Kd.N_elder' (by (with_reducible repeat (first | apply Kd.N_alloc | apply Kd.N_drewN | apply Kd.N_drew)); exact HO355.out) (Kd.R_base ho0) hb); have n1_ := Aside0.mk (Kd.R_elder' (by (with_reducible repeat (first | apply Kd.R_alloc | apply Kd.R_drewN | apply Kd.R_drew)); exact HO358.out) (Kd.R_base ho0) hb); have n2_ := Aside0.mk (Kd.R_lower (Kd.R_new' ho0 (Kd.R_lt (by (with_reducible repeat (first | apply Kd.R_alloc | apply Kd.R_drewN | apply Kd.R_drew)); exact HO358.out))) (below_size (by repeat (first | (with_reducible first | exact HB.out | apply below_alloc | apply pw_below_drewN | apply below_drew1) | exact HB.out)))); have n3_ := Aside0.mk (below_step (by repeat (first | (with_reducible first | exact HB.out | apply below_alloc | apply pw_below_drewN | apply below_drew1) | exact HB.out)) hb); clear HO355; clear HO358; clear HB; have HO355 := n0_; have HO358 := n1_; have HO361 := n2_; have HB := n3_; clear n0_ n1_ n2_ n3_; (try clear hb); (try clear hb2); (try clear hk); (try clear hi); (try clear ho0); obtain ⟨Ao17, co17, eo17⟩ := Kd.R_slice HO358.out; subst eo17; obtain ⟨Ao18, co18, eo18⟩ := Kd.R_slice HO361.out; subst eo18) | ((with_reducible refine gate_callee (f := 31) rfl ?_); refine goesL_ (some 33) rfl rfl Try.func31 (by kernel_rfl) rfl #[.slice Ao17 t356.length co17, .slice Ao18 t359.length co18] rfl (by (try simp only [List.map_toArray, List.map_cons, List.map_nil]); first | done | rfl | (simp only [List.length_drop, List.length_take]; rfl)) ?_; (with_reducible refine (laws_sameInts.calls k _ _ t356 _ _ t359 true _ ?side1 ?side2 ?side3 ?side4 A11.out).mono ?_); (case side1 => repeat (first | exact (Kd.R_reads' HO358.out).2.2 | (with_reducible refine Kd.C_alloc ?_ _) | (with_reducible refine Kd.C_drewN ?_ _) | (with_reducible refine Kd.C_drew ?_))); (case side2 => exact (Kd.R_reads' HO358.out).2.1); (case side3 => repeat (first | exact (Kd.R_reads' HO361.out).2.2 | (with_reducible refine Kd.C_alloc ?_ _) | (with_reducible refine Kd.C_drewN ?_ _) | (with_reducible refine Kd.C_drew ?_))); (case side4 => exact (Kd.R_reads' HO361.out).2.1); rintro e w' ⟨rfl, ⟨nd, rfl⟩⟩; refine ⟨_, rfl, ?_⟩) | (go_at_call 60; (with_reducible refine (impl_Loops.calls k _ _ t352 t363 _ ?side1 ?side2 A13.out).mono ?_); (case side1 => repeat (first | exact (Kd.N_reads' HO355.out).2.2 | (with_reducible refine Kd.C_alloc ?_ _) | (with_reducible refine Kd.C_drewN ?_ _) | (with_reducible refine Kd.C_drew ?_))); (case side2 => exact (Kd.N_reads' HO355.out).2.1); rintro e w19 ⟨v364, rfl, ho0, hb⟩; have n0_ := Aside0.mk (Kd.N_elder' (by (with_reducible repeat (first | apply Kd.N_alloc | apply Kd.N_drewN | apply Kd.N_drew)); exact HO355.out) (Kd.R_base ho0) hb); have n1_ := Aside0.mk (Kd.R_elder' (by (with_reducible repeat (first | apply Kd.R_alloc | apply Kd.R_drewN | apply Kd.R_drew)); exact HO358.out) (Kd.R_base ho0) hb); have n2_ := Aside0.mk (Kd.R_elder' (by (with_reducible repeat (first | apply Kd.R_alloc | apply Kd.R_drewN | apply Kd.R_drew)); exact HO361.out) (Kd.R_base ho0) hb); have n3_ := Aside0.mk (Kd.R_lower (Kd.R_new' (Kd.R_new' ho0 (Kd.R_lt (by (with_reducible repeat (first | apply Kd.R_alloc | apply Kd.R_drewN | apply Kd.R_drew)); exact HO358.out))) (Kd.R_lt (by (with_reducible repeat (first | apply Kd.R_alloc | apply Kd.R_drewN | apply Kd.R_drew)); exact HO361.out))) (below_size (by repeat (first | (with_reducible first | exact HB.out | apply below_alloc | apply pw_below_drewN | apply below_drew1) | exact HB.out)))); have n4_ := Aside0.mk (below_step (by repeat (first | (with_reducible first | exact HB.out | apply below_alloc | apply pw_below_drewN | apply below_drew1) | exact HB.out)) hb); clear HO355; clear HO358; clear HO361; clear HB; have HO355 := n0_; have HO358 := n1_; have HO361 := n2_; have HO365 := n3_; have HB := n4_; clear n0_ n1_ n2_ n3_ n4_; (try clear hb); (try clear hb2); (try clear hk); (try clear hi); (try clear ho0)) | (go_at_call 61; (with_reducible refine (spec_Loops.calls k _ _ t352 t366 _ ?side1 ?side2 A14.out).mono ?_); (case side1 => repeat (first | exact (Kd.N_reads' HO355.out).2.2 | (with_reducible refine Kd.C_alloc ?_ _) | (with_reducible refine Kd.C_drewN ?_ _) | (with_reducible refine Kd.C_drew ?_))); (case side2 => exact (Kd.N_reads' HO355.out).2.1); rintro e w20 ⟨v367, rfl, ho0, hb⟩; have n0_ := Aside0.mk (Kd.N_elder' (by (with_reducible repeat (first | apply Kd.N_alloc | apply Kd.N_drewN | apply Kd.N_drew)); exact HO355.out) (Kd.R_base ho0) hb); have n1_ := Aside0.mk (Kd.R_elder' (by (with_reducible repeat (first | apply Kd.R_alloc | apply Kd.R_drewN | apply Kd.R_drew)); exact HO358.out) (Kd.R_base ho0) hb); have n2_ := Aside0.mk (Kd.R_elder' (by (with_reducible repeat (first | apply Kd.R_alloc | apply Kd.R_drewN | apply Kd.R_drew)); exact HO361.out) (Kd.R_base ho0) hb); have n3_ := Aside0.mk (Kd.R_elder' (by (with_reducible repeat (first | apply Kd.R_alloc | apply Kd.R_drewN | apply Kd.R_drew)); exact HO365.out) (Kd.R_base ho0) hb); have n4_ := Aside0.mk (Kd.R_lower (Kd.R_new' (Kd.R_new' (Kd.R_new' ho0 (Kd.R_lt (by (with_reducible repeat (first | apply Kd.R_alloc | apply Kd.R_drewN | apply Kd.R_drew)); exact HO358.out))) (Kd.R_lt (by (with_reducible repeat (first | apply Kd.R_alloc | apply Kd.R_drewN | apply Kd.R_drew)); exact HO361.out))) (Kd.R_lt (by (with_reducible repeat (first | apply Kd.R_alloc | apply Kd.R_drewN | apply Kd.R_drew)); exact HO365.out))) (below_size (by repeat (first | (with_reducible first | exact HB.out | apply below_alloc | apply pw_below_drewN | apply below_drew1) | exact HB.out)))); have n5_ := Aside0.mk (below_step (by repeat (first | (with_reducible first | exact HB.out | apply below_alloc | apply pw_below_drewN | apply below_drew1) | exact HB.out)) hb); clear HO355; clear HO358; clear HO361; clear HO365; clear HB; have HO355 := n0_; have HO358 := n1_; have HO361 := n2_; have HO365 := n3_; have HO368 := n4_; have HB := n5_; clear n0_ n1_ n2_ n3_ n4_ n5_; (try clear hb); (try clear hb2); (try clear hk); (try clear hi); (try clear ho0); obtain ⟨Ao21, co21, eo21⟩ := Kd.R_slice HO365.out; subst eo21; obtain ⟨Ao22, co22, eo22⟩ := Kd.R_slice HO368.out; subst eo22) | (go_at_call 31; (with_reducible refine (laws_sameInts.calls k _ _ t363 _ _ t366 t369 _ ?side1 ?side2 ?side3 ?side4 A15.out).mono ?_); (case side1 => repeat (first | exact (Kd.R_reads' HO365.out).2.2 | (with_reducible refine Kd.C_alloc ?_ _) | (with_reducible refine Kd.C_drewN ?_ _) | (with_reducible refine Kd.C_drew ?_))); (case side2 => exact (Kd.R_reads' HO365.out).2.1); (case side3 => repeat (first | exact (Kd.R_reads' HO368.out).2.2 | (with_reducible refine Kd.C_alloc ?_ _) | (with_reducible refine Kd.C_drewN ?_ _) | (with_reducible refine Kd.C_drew ?_))); (case side4 => exact (Kd.R_reads' HO368.out).2.1); rintro e w' ⟨rfl, ⟨nd, rfl⟩⟩))
    go_meet
    case rel => exact ⟨_, (!t369), (by first | rfl | (simp; done) | (simp [*]; done)), H', ⟨by first | omega | exact Nat.le_refl _⟩, ⟨by (with_reducible repeat (first | apply Kd.N_alloc | apply Kd.N_drewN | apply Kd.N_drew)); exact Kd.N_mono HO355.out (fun _ hk => hk.1.1.1.2)⟩, ⟨by (with_reducible repeat (first | apply Kd.R_alloc | apply Kd.R_drewN | apply Kd.R_drew)); exact Kd.R_mono HO358.out (fun _ hk => trivial)⟩, ⟨by repeat (first | (with_reducible first | exact HB.out | apply below_alloc | apply pw_below_drewN | apply below_drew1) | exact HB.out)⟩⟩
   ·replace c12 := Bool.eq_false_iff.mpr c12
    subst c12
    have H1 : (laws_FnGroups.j0 k l0 t352 t353 t356 true) = some true := by first | rfl | (rw [if_neg (show ¬ (false = true) by decide)] at H; exact H)
    clear H
    have H := H1
    clear H1
    have H' := Aside0.mk H
    clear H
    go_wp2_with (first | ((with_reducible refine gate_callee (f := 59) rfl ?_); refine goesL_ (some 32) rfl rfl Try.func59 (by kernel_rfl) rfl #[.slice Ao8 t352.length co8, .int .i64 t353] rfl (by (try simp only [List.map_toArray, List.map_cons, List.map_nil]); first | done | rfl | (simp only [List.length_drop, List.length_take]; rfl)) ?_; (with_reducible refine (spec_GroupsOf.calls k _ _ t352 t353 t359 _ ?side1 ?side2 A10.out).mono ?_); (case side1 => repeat (first | exact (Kd.N_reads' HO355.out).2.2 | (with_reducible refine Kd.C_alloc ?_ _) | (with_reducible refine Kd.C_drewN ?_ _) | (with_reducible refine Kd.C_drew ?_))); (case side2 => exact (Kd.N_reads' HO355.out).2.1); rintro e w23 ⟨v360, rfl, ho0, hb⟩; refine ⟨_, rfl, ?_⟩; have n0_ := Aside0.mk (Kd.N_elder' (by (with_reducible repeat (first | apply Kd.N_alloc | apply Kd.N_drewN | apply Kd.N_drew)); exact HO355.out) (Kd.R_base ho0) hb); have n1_ := Aside0.mk (Kd.R_elder' (by (with_reducible repeat (first | apply Kd.R_alloc | apply Kd.R_drewN | apply Kd.R_drew)); exact HO358.out) (Kd.R_base ho0) hb); have n2_ := Aside0.mk (Kd.R_lower (Kd.R_new' ho0 (Kd.R_lt (by (with_reducible repeat (first | apply Kd.R_alloc | apply Kd.R_drewN | apply Kd.R_drew)); exact HO358.out))) (below_size (by repeat (first | (with_reducible first | exact HB.out | apply below_alloc | apply pw_below_drewN | apply below_drew1) | exact HB.out)))); have n3_ := Aside0.mk (below_step (by repeat (first | (with_reducible first | exact HB.out | apply below_alloc | apply pw_below_drewN | apply below_drew1) | exact HB.out)) hb); clear HO355; clear HO358; clear HB; have HO355 := n0_; have HO358 := n1_; have HO361 := n2_; have HB := n3_; clear n0_ n1_ n2_ n3_; (try clear hb); (try clear hb2); (try clear hk); (try clear hi); (try clear ho0); obtain ⟨Ao24, co24, eo24⟩ := Kd.R_slice HO358.out; subst eo24; obtain ⟨Ao25, co25, eo25⟩ := Kd.R_slice HO361.out; subst eo25) | ((with_reducible refine gate_callee (f := 31) rfl ?_); refine goesL_ (some 33) rfl rfl Try.func31 (by kernel_rfl) rfl #[.slice Ao24 t356.length co24, .slice Ao25 t359.length co25] rfl (by (try simp only [List.map_toArray, List.map_cons, List.map_nil]); first | done | rfl | (simp only [List.length_drop, List.length_take]; rfl)) ?_; (with_reducible refine (laws_sameInts.calls k _ _ t356 _ _ t359 false _ ?side1 ?side2 ?side3 ?side4 A11.out).mono ?_); (case side1 => repeat (first | exact (Kd.R_reads' HO358.out).2.2 | (with_reducible refine Kd.C_alloc ?_ _) | (with_reducible refine Kd.C_drewN ?_ _) | (with_reducible refine Kd.C_drew ?_))); (case side2 => exact (Kd.R_reads' HO358.out).2.1); (case side3 => repeat (first | exact (Kd.R_reads' HO361.out).2.2 | (with_reducible refine Kd.C_alloc ?_ _) | (with_reducible refine Kd.C_drewN ?_ _) | (with_reducible refine Kd.C_drew ?_))); (case side4 => exact (Kd.R_reads' HO361.out).2.1); rintro e w' ⟨rfl, ⟨nd, rfl⟩⟩; refine ⟨_, rfl, ?_⟩))
    go_meet
    case rel => exact ⟨_, (true), (by first | rfl | (simp; done) | (simp [*]; done)), H', ⟨by first | omega | exact Nat.le_refl _⟩, ⟨by (with_reducible repeat (first | apply Kd.N_alloc | apply Kd.N_drewN | apply Kd.N_drew)); exact Kd.N_mono HO355.out (fun _ hk => hk.1.2)⟩, ⟨by (with_reducible repeat (first | apply Kd.R_alloc | apply Kd.R_drewN | apply Kd.R_drew)); exact Kd.R_mono HO358.out (fun _ hk => trivial)⟩, ⟨by repeat (first | (with_reducible first | exact HB.out | apply below_alloc | apply pw_below_drewN | apply below_drew1) | exact HB.out)⟩⟩
  case rest =>
   clear HC6
   try clear c1
   try clear p2
   try clear c3
   try clear c5
   try clear c8
   try clear c11
   try clear c12
   obtain ⟨kq, x42_5, rfl, HA, HJ5, HO_3, HO_5, HB⟩ := hcut
   cases kq with
   | zero => exact absurd HA.out (by simp [laws_FnGroups.j0])
   | succ kj5 =>
    have H := HA.out
    clear HA
    simp only [laws_FnGroups.j0] at H
    by_cases c26 : x42_5 = true
    ·subst c26
     have H1 : (some false) = some true := by first | rfl | (rw [if_pos rfl] at H; exact H)
     clear H
     have H := H1
     clear H1
     exact absurd H (by simp)
    ·replace c26 := Bool.eq_false_iff.mpr c26
     subst c26
     have H1 : (laws_FnGroups.l0 kj5 l0 t352 t353 t356 0) = some true := by first | rfl | (rw [if_neg (show ¬ (false = true) by decide)] at H; exact H)
     clear H
     have H := H1
     clear H1
     have H' := Aside0.mk H
     clear H
     go_wp2
     go_loopg [6] kj5 (fun kq v6 w' => ∃ (x6_2 : Int), v6 = .int .i64 x6_2 ∧ Aside0 (laws_FnGroups.l0 kq l0 t352 t353 t356 x6_2 = some true) ∧ Aside0 (kq ≤ kj5) ∧ Aside0 (Kd.N k95 95 w' w.heap.size (fun k_ => some k_ ≠ (v357 : Value).ownBlock) (.slice Ao8 t352.length co8) t352) ∧ Aside0 (Kd.R (Kd.int .i64) 3 w' w.heap.size (fun _ => True) v357 t356) ∧ Aside0 (Below w.heap.size w w'))
     case atStart => exact ⟨(0), (by first | rfl | (simp; done) | (simp [*]; done)), H', ⟨Nat.le_refl _⟩, ⟨by (with_reducible repeat (first | apply Kd.N_alloc | apply Kd.N_drewN | apply Kd.N_drew)); exact HO_3.out⟩, ⟨by (with_reducible repeat (first | apply Kd.R_alloc | apply Kd.R_drewN | apply Kd.R_drew)); exact HO_5.out⟩, ⟨by repeat (first | (with_reducible first | exact HB.out | apply below_alloc | apply pw_below_drewN | apply below_drew1) | exact HB.out)⟩⟩
     case round =>
      clear H'
      try clear c1
      try clear c2
      try clear p2
      try clear c3
      try clear c5
      try clear c8
      try clear c11
      try clear c12
      try clear c26
      try clear p2
      obtain ⟨x6_2, rfl, HA, HK2, HO_3, HO_5, HB⟩ := hrel
      cases gk with
      | zero => exact absurd HA.out (by simp [laws_FnGroups.l0])
      | succ k2 =>
       have H := HA.out
       clear HA
       simp only [laws_FnGroups.l0] at H
       have HC27 := Aside0.mk H
       clear H
       go_upto_region 8 with (fail)
       go_cut [50] (fun v50 wc => ∃ (kq : Nat) (x50_26 : Bool), v50 = .bool x50_26 ∧ Aside0 (laws_FnGroups.j2 kq l0 t352 t353 t356 x6_2 x50_26 = some true) ∧ Aside0 (kq ≤ k2) ∧ Aside0 (Kd.N k95 95 wc w.heap.size (fun k_ => some k_ ≠ (v357 : Value).ownBlock) (.slice Ao8 t352.length co8) t352) ∧ Aside0 (Kd.R (Kd.int .i64) 3 wc w.heap.size (fun _ => True) v357 t356) ∧ Aside0 (Below w.heap.size w wc))
       case first =>
        have H := HC27.out
        clear HC27
        by_cases c28 : x6_2 < (t352.length : Int)
        ·rw [if_pos c28] at H
         have c28b0 : decide (x6_2 < (t352.length : Int)) = true := decide_eq_true c28
         clear c28
         (first | rw [c28b0] | (simp only [i64_w, i32_w]; rw [c28b0]) | skip)
         obtain ⟨t370, A290, H⟩ := bnd_ H
         have A29 := Aside0.mk A290
         clear A290
         have H' := Aside0.mk H
         clear H
         go_wp2_with (first | (go_at_call 62; (with_reducible refine (spec_GroupsOk.calls k2 _ _ t352 t370 _ ?side1 ?side2 A29.out).mono ?_); (case side1 => repeat (first | exact (Kd.N_reads' HO_3.out).2.2 | (with_reducible refine Kd.C_alloc ?_ _) | (with_reducible refine Kd.C_drewN ?_ _) | (with_reducible refine Kd.C_drew ?_))); (case side2 => exact (Kd.N_reads' HO_3.out).2.1); rintro e w' ⟨rfl, ⟨nd, rfl⟩⟩))
         go_meet
         case rel => exact ⟨_, (t370), (by first | rfl | (simp; done) | (simp [*]; done)), H', ⟨by have := HJ5.out; have := HK2.out; first | omega | exact Nat.le_refl _⟩, ⟨by (with_reducible repeat (first | apply Kd.N_alloc | apply Kd.N_drewN | apply Kd.N_drew)); exact HO_3.out⟩, ⟨by (with_reducible repeat (first | apply Kd.R_alloc | apply Kd.R_drewN | apply Kd.R_drew)); exact HO_5.out⟩, ⟨by repeat (first | (with_reducible first | exact HB.out | apply below_alloc | apply pw_below_drewN | apply below_drew1) | exact HB.out)⟩⟩
        ·rw [if_neg c28] at H
         have c28b0 : decide (x6_2 < (t352.length : Int)) = false := decide_eq_false c28
         clear c28
         (first | rw [c28b0] | (simp only [i64_w, i32_w]; rw [c28b0]) | skip)
         have H' := Aside0.mk H
         clear H
         go_wp2
         go_meet
         case rel => exact ⟨_, (false), (by first | rfl | (simp; done) | (simp [*]; done)), H', ⟨by have := HJ5.out; have := HK2.out; first | omega | exact Nat.le_refl _⟩, ⟨by (with_reducible repeat (first | apply Kd.N_alloc | apply Kd.N_drewN | apply Kd.N_drew)); exact HO_3.out⟩, ⟨by (with_reducible repeat (first | apply Kd.R_alloc | apply Kd.R_drewN | apply Kd.R_drew)); exact HO_5.out⟩, ⟨by repeat (first | (with_reducible first | exact HB.out | apply below_alloc | apply pw_below_drewN | apply below_drew1) | exact HB.out)⟩⟩
       case rest =>
        clear HC27
        try clear c1
        try clear c2
        try clear p2
        try clear c3
        try clear c5
        try clear c8
        try clear c11
        try clear c12
        try clear c26
        try clear c28
        try clear c28b0
        try clear p2
        obtain ⟨kq, x50_26, rfl, HA, HJ26, HO_3, HO_5, HB⟩ := hcut
        cases kq with
        | zero => exact absurd HA.out (by simp [laws_FnGroups.j2])
        | succ kj26 =>
         have H := HA.out
         clear HA
         simp only [laws_FnGroups.j2] at H
         by_cases c30 : x50_26 = true
         ·subst c30
          have H1 : ((impl_UsersOf.f kj26 t352 x6_2).bind fun t371 => ((laws_has.f kj26 t371 t353).bind fun t374 => ((laws_has.f kj26 t356 x6_2).bind fun t375 => (if (t374 != t375) = true then (laws_FnGroups.j3 kj26 l0 t352 t353 t356 x6_2 t371 true) else ((spec_UsersOf.f kj26 t352 x6_2).bind fun t376 => ((laws_sameInts.f kj26 t371 t376).bind fun t379 => (laws_FnGroups.j3 kj26 l0 t352 t353 t356 x6_2 t371 (!t379)))))))) = some true := by first | rfl | (rw [if_pos rfl] at H; exact H)
          clear H
          have H := H1
          clear H1
          obtain ⟨t371, A310, H⟩ := bnd_ H
          have A31 := Aside0.mk A310
          clear A310
          have HC32 := Aside0.mk H
          clear H
          go_upto_region 11 with (first | ((with_reducible refine gate_callee (f := 63) rfl ?_); refine goesL_ (some 55) rfl rfl Try.func63 (by kernel_rfl) rfl #[.slice Ao8 t352.length co8, .int .i64 x6_2] rfl (by (try simp only [List.map_toArray, List.map_cons, List.map_nil]); first | done | rfl | (simp only [List.length_drop, List.length_take]; rfl)) ?_; (with_reducible refine (impl_UsersOf.calls kj26 _ _ t352 x6_2 t371 _ ?side1 ?side2 A31.out).mono ?_); (case side1 => repeat (first | exact (Kd.N_reads' HO_3.out).2.2 | (with_reducible refine Kd.C_alloc ?_ _) | (with_reducible refine Kd.C_drewN ?_ _) | (with_reducible refine Kd.C_drew ?_))); (case side2 => exact (Kd.N_reads' HO_3.out).2.1); rintro e w33 ⟨v372, rfl, ho0, hb⟩; refine ⟨_, rfl, ?_⟩; have n0_ := Aside0.mk (Kd.N_elder' (by (with_reducible repeat (first | apply Kd.N_alloc | apply Kd.N_drewN | apply Kd.N_drew)); exact HO_3.out) (Kd.R_base ho0) hb); have n1_ := Aside0.mk (Kd.R_elder' (by (with_reducible repeat (first | apply Kd.R_alloc | apply Kd.R_drewN | apply Kd.R_drew)); exact HO_5.out) (Kd.R_base ho0) hb); have n2_ := Aside0.mk (Kd.R_lower (Kd.R_new' ho0 (Kd.R_lt (by (with_reducible repeat (first | apply Kd.R_alloc | apply Kd.R_drewN | apply Kd.R_drew)); exact HO_5.out))) (below_size (by repeat (first | (with_reducible first | exact HB.out | apply below_alloc | apply pw_below_drewN | apply below_drew1) | exact HB.out)))); have n3_ := Aside0.mk (below_step (by repeat (first | (with_reducible first | exact HB.out | apply below_alloc | apply pw_below_drewN | apply below_drew1) | exact HB.out)) hb); clear HO_3; clear HO_5; clear HB; have HO_3 := n0_; have HO_5 := n1_; have HO373 := n2_; have HB := n3_; clear n0_ n1_ n2_ n3_; (try clear hb); (try clear hb2); (try clear hk); (try clear hi); (try clear ho0)))
          (try simp only [Act.put, List.setIfInBounds_toArray, List.set_cons_zero, List.set_cons_succ])
          go_cut [70] (fun v70 wc => ∃ (kq : Nat) (x70_31 : Bool), v70 = .bool x70_31 ∧ Aside0 (laws_FnGroups.j3 kq l0 t352 t353 t356 x6_2 t371 x70_31 = some true) ∧ Aside0 (kq ≤ kj26) ∧ Aside0 (Kd.N k95 95 wc w.heap.size (fun k_ => some k_ ≠ (v357 : Value).ownBlock ∧ some k_ ≠ (v372 : Value).ownBlock) (.slice Ao8 t352.length co8) t352) ∧ Aside0 (Kd.R (Kd.int .i64) 3 wc w.heap.size (fun k_ => some k_ ≠ (v372 : Value).ownBlock) v357 t356) ∧ Aside0 (Kd.R (Kd.int .i64) 3 wc w.heap.size (fun k_ => some k_ ≠ (v357 : Value).ownBlock) v372 t371) ∧ Aside0 (Below w.heap.size w wc))
          case first =>
           have H := HC32.out
           clear HC32
           obtain ⟨t374, A340, H⟩ := bnd_ H
           have A34 := Aside0.mk A340
           clear A340
           obtain ⟨t375, A350, H⟩ := bnd_ H
           have A35 := Aside0.mk A350
           clear A350
           by_cases c36 : (t374 != t375) = true
           ·rw [if_pos c36] at H
            have c36b0 : (t374 != t375) = true := c36
            (try (have c36b1 : decide (t374 = t375) = false := by simpa using c36))
            (try (have c36b2 : (t374 == t375) = false := by simpa using c36))
            (try (have c36b3 : ¬ (t374 = t375) := by simpa using c36))
            clear c36
            (first | rw [c36b0] | (simp only [i64_w, i32_w]; rw [c36b0]) | skip)
            have H' := Aside0.mk H
            clear H
            obtain ⟨Ao37, co37, eo37⟩ := Kd.R_slice HO373.out
            subst eo37
            go_wp2_with (first | ((with_reducible refine gate_callee (f := 64) rfl ?_); refine goesL_ (some 58) rfl rfl Try.func64 (by kernel_rfl) rfl #[.slice Ao37 t371.length co37, .int .i64 t353] rfl (by (try simp only [List.map_toArray, List.map_cons, List.map_nil]); first | done | rfl | (simp only [List.length_drop, List.length_take]; rfl)) ?_; (with_reducible refine (laws_has.calls kj26 _ _ t371 t353 t374 _ ?side1 ?side2 A34.out).mono ?_); (case side1 => repeat (first | exact (Kd.R_reads' HO373.out).2.2 | (with_reducible refine Kd.C_alloc ?_ _) | (with_reducible refine Kd.C_drewN ?_ _) | (with_reducible refine Kd.C_drew ?_))); (case side2 => exact (Kd.R_reads' HO373.out).2.1); rintro e w' ⟨rfl, ⟨nd, rfl⟩⟩; refine ⟨_, rfl, ?_⟩; obtain ⟨Ao38, co38, eo38⟩ := Kd.R_slice HO_5.out; subst eo38) | ((with_reducible refine gate_callee (f := 64) rfl ?_); refine goesL_ (some 61) rfl rfl Try.func64 (by kernel_rfl) rfl #[.slice Ao38 t356.length co38, .int .i64 x6_2] rfl (by (try simp only [List.map_toArray, List.map_cons, List.map_nil]); first | done | rfl | (simp only [List.length_drop, List.length_take]; rfl)) ?_; (with_reducible refine (laws_has.calls kj26 _ _ t356 x6_2 t375 _ ?side1 ?side2 A35.out).mono ?_); (case side1 => repeat (first | exact (Kd.R_reads' HO_5.out).2.2 | (with_reducible refine Kd.C_alloc ?_ _) | (with_reducible refine Kd.C_drewN ?_ _) | (with_reducible refine Kd.C_drew ?_))); (case side2 => exact (Kd.R_reads' HO_5.out).2.1); rintro e w' ⟨rfl, ⟨nd, rfl⟩⟩; refine ⟨_, rfl, ?_⟩))
            go_meet
            case rel => exact ⟨_, (true), (by first | rfl | (simp; done) | (simp [*]; done)), H', ⟨by have := HJ5.out; have := HK2.out; have := HJ26.out; first | omega | exact Nat.le_refl _⟩, ⟨by (with_reducible repeat (first | apply Kd.N_alloc | apply Kd.N_drewN | apply Kd.N_drew)); exact HO_3.out⟩, ⟨by (with_reducible repeat (first | apply Kd.R_alloc | apply Kd.R_drewN | apply Kd.R_drew)); exact Kd.R_mono HO_5.out (fun _ hk => hk.2)⟩, ⟨by (with_reducible repeat (first | apply Kd.R_alloc | apply Kd.R_drewN | apply Kd.R_drew)); exact Kd.R_mono HO373.out (fun _ hk => hk.2)⟩, ⟨by repeat (first | (with_reducible first | exact HB.out | apply below_alloc | apply pw_below_drewN | apply below_drew1) | exact HB.out)⟩⟩
           ·rw [if_neg c36] at H
            have c36b0 : (t374 != t375) = false := by simpa using c36
            (try (have c36b1 : decide (t374 = t375) = true := by simpa using c36))
            (try (have c36b2 : (t374 == t375) = true := by simpa using c36))
            clear c36
            (first | rw [c36b0] | (simp only [i64_w, i32_w]; rw [c36b0]) | skip)
            obtain ⟨t376, A390, H⟩ := bnd_ H
            have A39 := Aside0.mk A390
            clear A390
            obtain ⟨t379, A400, H⟩ := bnd_ H
            have A40 := Aside0.mk A400
            clear A400
            have H' := Aside0.mk H
            clear H
            obtain ⟨Ao41, co41, eo41⟩ := Kd.R_slice HO373.out
            subst eo41
            go_wp2_with (first | ((with_reducible refine gate_callee (f := 64) rfl ?_); refine goesL_ (some 58) rfl rfl Try.func64 (by kernel_rfl) rfl #[.slice Ao41 t371.length co41, .int .i64 t353] rfl (by (try simp only [List.map_toArray, List.map_cons, List.map_nil]); first | done | rfl | (simp only [List.length_drop, List.length_take]; rfl)) ?_; (with_reducible refine (laws_has.calls kj26 _ _ t371 t353 t374 _ ?side1 ?side2 A34.out).mono ?_); (case side1 => repeat (first | exact (Kd.R_reads' HO373.out).2.2 | (with_reducible refine Kd.C_alloc ?_ _) | (with_reducible refine Kd.C_drewN ?_ _) | (with_reducible refine Kd.C_drew ?_))); (case side2 => exact (Kd.R_reads' HO373.out).2.1); rintro e w' ⟨rfl, ⟨nd, rfl⟩⟩; refine ⟨_, rfl, ?_⟩; obtain ⟨Ao42, co42, eo42⟩ := Kd.R_slice HO_5.out; subst eo42) | ((with_reducible refine gate_callee (f := 64) rfl ?_); refine goesL_ (some 61) rfl rfl Try.func64 (by kernel_rfl) rfl #[.slice Ao42 t356.length co42, .int .i64 x6_2] rfl (by (try simp only [List.map_toArray, List.map_cons, List.map_nil]); first | done | rfl | (simp only [List.length_drop, List.length_take]; rfl)) ?_; (with_reducible refine (laws_has.calls kj26 _ _ t356 x6_2 t375 _ ?side1 ?side2 A35.out).mono ?_); (case side1 => repeat (first | exact (Kd.R_reads' HO_5.out).2.2 | (with_reducible refine Kd.C_alloc ?_ _) | (with_reducible refine Kd.C_drewN ?_ _) | (with_reducible refine Kd.C_drew ?_))); (case side2 => exact (Kd.R_reads' HO_5.out).2.1); rintro e w' ⟨rfl, ⟨nd, rfl⟩⟩; refine ⟨_, rfl, ?_⟩) | (go_at_call 65; (with_reducible refine (spec_UsersOf.calls kj26 _ _ t352 x6_2 t376 _ ?side1 ?side2 A39.out).mono ?_); (case side1 => repeat (first | exact (Kd.N_reads' HO_3.out).2.2 | (with_reducible refine Kd.C_alloc ?_ _) | (with_reducible refine Kd.C_drewN ?_ _) | (with_reducible refine Kd.C_drew ?_))); (case side2 => exact (Kd.N_reads' HO_3.out).2.1); rintro e w43 ⟨v377, rfl, ho0, hb⟩; have n0_ := Aside0.mk (Kd.N_elder' (by (with_reducible repeat (first | apply Kd.N_alloc | apply Kd.N_drewN | apply Kd.N_drew)); exact HO_3.out) (Kd.R_base ho0) hb); have n1_ := Aside0.mk (Kd.R_elder' (by (with_reducible repeat (first | apply Kd.R_alloc | apply Kd.R_drewN | apply Kd.R_drew)); exact HO_5.out) (Kd.R_base ho0) hb); have n2_ := Aside0.mk (Kd.R_elder' (by (with_reducible repeat (first | apply Kd.R_alloc | apply Kd.R_drewN | apply Kd.R_drew)); exact HO373.out) (Kd.R_base ho0) hb); have n3_ := Aside0.mk (Kd.R_lower (Kd.R_new' (Kd.R_new' ho0 (Kd.R_lt (by (with_reducible repeat (first | apply Kd.R_alloc | apply Kd.R_drewN | apply Kd.R_drew)); exact HO_5.out))) (Kd.R_lt (by (with_reducible repeat (first | apply Kd.R_alloc | apply Kd.R_drewN | apply Kd.R_drew)); exact HO373.out))) (below_size (by repeat (first | (with_reducible first | exact HB.out | apply below_alloc | apply pw_below_drewN | apply below_drew1) | exact HB.out)))); have n4_ := Aside0.mk (below_step (by repeat (first | (with_reducible first | exact HB.out | apply below_alloc | apply pw_below_drewN | apply below_drew1) | exact HB.out)) hb); clear HO_3; clear HO_5; clear HO373; clear HB; have HO_3 := n0_; have HO_5 := n1_; have HO373 := n2_; have HO378 := n3_; have HB := n4_; clear n0_ n1_ n2_ n3_ n4_; (try clear hb); (try clear hb2); (try clear hk); (try clear hi); (try clear ho0); obtain ⟨Ao44, co44, eo44⟩ := Kd.R_slice HO378.out; subst eo44) | (go_at_call 31; (with_reducible refine (laws_sameInts.calls kj26 _ _ t371 _ _ t376 t379 _ ?side1 ?side2 ?side3 ?side4 A40.out).mono ?_); (case side1 => repeat (first | exact (Kd.R_reads' HO373.out).2.2 | (with_reducible refine Kd.C_alloc ?_ _) | (with_reducible refine Kd.C_drewN ?_ _) | (with_reducible refine Kd.C_drew ?_))); (case side2 => exact (Kd.R_reads' HO373.out).2.1); (case side3 => repeat (first | exact (Kd.R_reads' HO378.out).2.2 | (with_reducible refine Kd.C_alloc ?_ _) | (with_reducible refine Kd.C_drewN ?_ _) | (with_reducible refine Kd.C_drew ?_))); (case side4 => exact (Kd.R_reads' HO378.out).2.1); rintro e w' ⟨rfl, ⟨nd, rfl⟩⟩))
            go_meet
            case rel => exact ⟨_, (!t379), (by first | rfl | (simp; done) | (simp [*]; done)), H', ⟨by have := HJ5.out; have := HK2.out; have := HJ26.out; first | omega | exact Nat.le_refl _⟩, ⟨by (with_reducible repeat (first | apply Kd.N_alloc | apply Kd.N_drewN | apply Kd.N_drew)); exact Kd.N_mono HO_3.out (fun _ hk => ⟨hk.1.1, hk.1.2⟩)⟩, ⟨by (with_reducible repeat (first | apply Kd.R_alloc | apply Kd.R_drewN | apply Kd.R_drew)); exact Kd.R_mono HO_5.out (fun _ hk => hk.1.2)⟩, ⟨by (with_reducible repeat (first | apply Kd.R_alloc | apply Kd.R_drewN | apply Kd.R_drew)); exact Kd.R_mono HO373.out (fun _ hk => hk.1.2)⟩, ⟨by repeat (first | (with_reducible first | exact HB.out | apply below_alloc | apply pw_below_drewN | apply below_drew1) | exact HB.out)⟩⟩
          case rest =>
           clear HC32
           try clear c1
           try clear c2
           try clear p2
           try clear c3
           try clear c5
           try clear c6
           try clear c8
           try clear c11
           try clear c12
           try clear c26
           try clear c28
           try clear c28b0
           try clear c30
           try clear c31
           try clear c36
           try clear c36b0
           try clear c36b1
           try clear c36b2
           try clear p2
           obtain ⟨kq, x70_31, rfl, HA, HJ31, HO_3, HO_5, HO_7, HB⟩ := hcut
           cases kq with
           | zero => exact absurd HA.out (by simp [laws_FnGroups.j3])
           | succ kj31 =>
            have H := HA.out
            clear HA
            simp only [laws_FnGroups.j3] at H
            by_cases c45 : x70_31 = true
            ·subst c45
             have H1 : (some false) = some true := by first | rfl | (rw [if_pos rfl] at H; exact H)
             clear H
             have H := H1
             clear H1
             exact absurd H (by simp)
            ·replace c45 := Bool.eq_false_iff.mpr c45
             subst c45
             have H1 : (laws_FnGroups.l1 kj31 l0 t352 t353 t356 x6_2 t371 0) = some true := by first | rfl | (rw [if_neg (show ¬ (false = true) by decide)] at H; exact H)
             clear H
             have H := H1
             clear H1
             have H' := Aside0.mk H
             clear H
             go_wp2
             go_loopg [8] kj31 (fun kq v8 w' => ∃ (x8_5 : Int), v8 = .int .i64 x8_5 ∧ Aside0 (laws_FnGroups.l1 kq l0 t352 t353 t356 x6_2 t371 x8_5 = some true) ∧ Aside0 (kq ≤ kj31) ∧ Aside0 (Kd.N k95 95 w' w.heap.size (fun k_ => some k_ ≠ (v357 : Value).ownBlock ∧ some k_ ≠ (v372 : Value).ownBlock) (.slice Ao8 t352.length co8) t352) ∧ Aside0 (Kd.R (Kd.int .i64) 3 w' w.heap.size (fun k_ => some k_ ≠ (v372 : Value).ownBlock) v357 t356) ∧ Aside0 (Kd.R (Kd.int .i64) 3 w' w.heap.size (fun k_ => some k_ ≠ (v357 : Value).ownBlock) v372 t371) ∧ Aside0 (Below w.heap.size w w'))
             case atStart => exact ⟨(0), (by first | rfl | (simp; done) | (simp [*]; done)), H', ⟨Nat.le_refl _⟩, ⟨by (with_reducible repeat (first | apply Kd.N_alloc | apply Kd.N_drewN | apply Kd.N_drew)); exact HO_3.out⟩, ⟨by (with_reducible repeat (first | apply Kd.R_alloc | apply Kd.R_drewN | apply Kd.R_drew)); exact HO_5.out⟩, ⟨by (with_reducible repeat (first | apply Kd.R_alloc | apply Kd.R_drewN | apply Kd.R_drew)); exact HO_7.out⟩, ⟨by repeat (first | (with_reducible first | exact HB.out | apply below_alloc | apply pw_below_drewN | apply below_drew1) | exact HB.out)⟩⟩
             case round =>
              clear H'
              try clear c1
              try clear c2
              try clear p2
              try clear c3
              try clear c4
              try clear c5
              try clear c6
              try clear c8
              try clear c11
              try clear c12
              try clear c26
              try clear c28
              try clear c28b0
              try clear c30
              try clear c31
              try clear c36
              try clear c36b0
              try clear c36b1
              try clear c36b2
              try clear c45
              try clear p2
              obtain ⟨x8_5, rfl, HA, HK5, HO_3, HO_5, HO_7, HB⟩ := hrel
              cases gk with
              | zero => exact absurd HA.out (by simp [laws_FnGroups.l1])
              | succ k5 =>
               have H := HA.out
               clear HA
               simp only [laws_FnGroups.l1] at H
               by_cases c46 : 0 ≤ x6_2
               ·rw [if_pos c46] at H
                have c46b0 : decide (0 ≤ x6_2) = true := decide_eq_true c46
                clear c46
                by_cases c47 : x6_2 < (t352.length : Int)
                ·rw [if_pos c47] at H
                 have c47b0 : decide (x6_2 < (t352.length : Int)) = true := decide_eq_true c47
                 clear c47
                 by_cases c48 : x8_5 < (((rd_T95 t352 x6_2).f0).length : Int)
                 ·rw [if_pos c48] at H
                  have c48b0 : decide (x8_5 < (((rd_T95 t352 x6_2).f0).length : Int)) = true := decide_eq_true c48
                  clear c48
                  by_cases c49 : 0 ≤ x8_5
                  ·rw [if_pos c49] at H
                   have c49b0 : decide (0 ≤ x8_5) = true := decide_eq_true c49
                   clear c49
                   obtain ⟨t383, A500, H⟩ := bnd_ H
                   have A50 := Aside0.mk A500
                   clear A500
                   by_cases c51 : t383 = true
                   ·subst c51
                    have H1 : (laws_FnGroups.l1 k5 l0 t352 t353 t356 x6_2 t371 (wrap64 (x8_5 + 1))) = some true := by first | rfl | (rw [if_pos rfl] at H; exact H)
                    clear H
                    have H := H1
                    clear H1
                    have H' := Aside0.mk H
                    clear H
                    have p380 : 0 ≤ (x6_2 : Int) := of_decide_eq_true (by first | (with_reducible assumption) | assumption)
                    have q380 : x6_2 < (t352.length : Int) := of_decide_eq_true (by first | (with_reducible assumption) | assumption)
                    obtain ⟨ad380, A380_0, c380_0, A380_1, c380_1, e380, hx380_0, hx380_1, hl380_0, hi380_0, hl380_1, hi380_1⟩ := at_T95 (Kd.N_reads' HO_3.out).2.2 x6_2 p380 q380
                    cases e380
                    obtain ⟨ce380, hce380, hMe380, hcc380⟩ := Kd.N_get HO_3.out z95 x6_2 p380 (by first | exact q380 | exact of_decide_eq_true (by first | (with_reducible assumption) | assumption) | (have e_ := (Kd.N_reads' HO_3.out).1; omega))
                    obtain ⟨ua380_0, uc380_0, ua380_1, uc380_1, rfl, ul380_0, ge380_0, ul380_1, ge380_1⟩ := k95_openF hMe380
                    have hv380_0 := hcc380 0 _ rfl
                    rw [Nat.add_zero] at hv380_0
                    replace hv380_0 := Option.some.inj (hv380_0.symm.trans hx380_0)
                    injection hv380_0 with hva_ hvn_ hvc_
                    rw [hva_] at ge380_0
                    rw [hvc_] at ul380_0
                    have HL380_0 := Aside0.mk (show Kd.V (Kd.int .i64) 3 _ w.heap.size _ _ ((rd_T95 t352 x6_2).f0) from Kd.V_mk ul380_0 ge380_0)
                    clear hva_ hvn_ hvc_ ge380_0 ul380_0
                    have hv380_1 := hcc380 1 _ rfl
                    rw [add_field _ _ 1 (by omega)] at hv380_1
                    replace hv380_1 := Option.some.inj (hv380_1.symm.trans hx380_1)
                    injection hv380_1 with hva_ hvn_ hvc_
                    rw [hva_] at ge380_1
                    rw [hvc_] at ul380_1
                    have HL380_1 := Aside0.mk (show Kd.V (Kd.int .i64) 3 _ w.heap.size _ _ ((rd_T95 t352 x6_2).f1) from Kd.V_mk ul380_1 ge380_1)
                    clear hva_ hvn_ hvc_ ge380_1 ul380_1
                    clear hcc380 hce380
                    have HR380_0 := Aside0.mk hi380_0
                    have HC380_0 := Aside0.mk hl380_0
                    clear hi380_0 hl380_0
                    have HR380_1 := Aside0.mk hi380_1
                    have HC380_1 := Aside0.mk hl380_1
                    clear hi380_1 hl380_1
                    replace p380 := eq_true p380
                    replace q380 := eq_true q380
                    have p381 : 0 ≤ (x6_2 : Int) := of_decide_eq_true (by first | (with_reducible assumption) | assumption)
                    have q381 : x6_2 < (t352.length : Int) := of_decide_eq_true (by first | (with_reducible assumption) | assumption)
                    obtain ⟨ad381, A381_0, c381_0, A381_1, c381_1, e381, hx381_0, hx381_1, hl381_0, hi381_0, hl381_1, hi381_1⟩ := at_T95 (Kd.N_reads' HO_3.out).2.2 x6_2 p381 q381
                    obtain rfl : ad380 = ad381 := (by injection e381)
                    obtain ⟨ce381, hce381, hMe381, hcc381⟩ := Kd.N_get HO_3.out z95 x6_2 p381 (by first | exact q381 | exact of_decide_eq_true (by first | (with_reducible assumption) | assumption) | (have e_ := (Kd.N_reads' HO_3.out).1; omega))
                    obtain ⟨ua381_0, uc381_0, ua381_1, uc381_1, rfl, ul381_0, ge381_0, ul381_1, ge381_1⟩ := k95_openF hMe381
                    have hv381_0 := hcc381 0 _ rfl
                    rw [Nat.add_zero] at hv381_0
                    replace hv381_0 := Option.some.inj (hv381_0.symm.trans hx381_0)
                    injection hv381_0 with hva_ hvn_ hvc_
                    rw [hva_] at ge381_0
                    rw [hvc_] at ul381_0
                    have HL381_0 := Aside0.mk (show Kd.V (Kd.int .i64) 3 _ w.heap.size _ _ ((rd_T95 t352 x6_2).f0) from Kd.V_mk ul381_0 ge381_0)
                    clear hva_ hvn_ hvc_ ge381_0 ul381_0
                    have hv381_1 := hcc381 1 _ rfl
                    rw [add_field _ _ 1 (by omega)] at hv381_1
                    replace hv381_1 := Option.some.inj (hv381_1.symm.trans hx381_1)
                    injection hv381_1 with hva_ hvn_ hvc_
                    rw [hva_] at ge381_1
                    rw [hvc_] at ul381_1
                    have HL381_1 := Aside0.mk (show Kd.V (Kd.int .i64) 3 _ w.heap.size _ _ ((rd_T95 t352 x6_2).f1) from Kd.V_mk ul381_1 ge381_1)
                    clear hva_ hvn_ hvc_ ge381_1 ul381_1
                    clear hcc381 hce381
                    have HR381_0 := Aside0.mk hi381_0
                    have HC381_0 := Aside0.mk hl381_0
                    clear hi381_0 hl381_0
                    have HR381_1 := Aside0.mk hi381_1
                    have HC381_1 := Aside0.mk hl381_1
                    clear hi381_1 hl381_1
                    replace p381 := eq_true p381
                    replace q381 := eq_true q381
                    have ea_ := Option.some.inj (hx380_0.symm.trans hx381_0)
                    injection ea_ with ea_ en_ ec_
                    subst ea_
                    subst ec_
                    clear en_
                    have ea_ := Option.some.inj (hx380_1.symm.trans hx381_1)
                    injection ea_ with ea_ en_ ec_
                    subst ea_
                    subst ec_
                    clear en_
                    have p382 : 0 ≤ (x8_5 : Int) := of_decide_eq_true (by first | (with_reducible assumption) | assumption)
                    have q382 : x8_5 < (((rd_T95 t352 x6_2).f0).length : Int) := of_decide_eq_true (by first | (with_reducible assumption) | assumption)
                    obtain ⟨ad382, e382, hx382_0⟩ := Kd.at_int (by repeat (first | (with_reducible exact HR381_0.out) | (with_reducible refine Kd.C_alloc ?_ _) | (with_reducible refine Kd.C_drewN ?_ _) | (with_reducible refine Kd.C_drew ?_) | exact HR381_0.out)) x8_5 p382 q382
                    cases e382
                    replace p382 := eq_true p382
                    replace q382 := eq_true q382
                    obtain ⟨Ao52, co52, eo52⟩ := Kd.R_slice HO_7.out
                    subst eo52
                    go_wp2_with (first | ((with_reducible refine gate_callee (f := 64) rfl ?_); refine goesL_ (some 90) rfl rfl Try.func64 (by kernel_rfl) rfl #[.slice Ao52 t371.length co52, .int .i64 (rd ((rd_T95 t352 x6_2).f0) x8_5)] rfl (by (try simp only [List.map_toArray, List.map_cons, List.map_nil]); first | done | rfl | (simp only [List.length_drop, List.length_take]; rfl)) ?_; (with_reducible refine (laws_has.calls k5 _ _ t371 (rd ((rd_T95 t352 x6_2).f0) x8_5) true _ ?side1 ?side2 A50.out).mono ?_); (case side1 => repeat (first | exact (Kd.R_reads' HO_7.out).2.2 | (with_reducible refine Kd.C_alloc ?_ _) | (with_reducible refine Kd.C_drewN ?_ _) | (with_reducible refine Kd.C_drew ?_))); (case side2 => exact (Kd.R_reads' HO_7.out).2.1); rintro e w' ⟨rfl, ⟨nd, rfl⟩⟩; refine ⟨_, rfl, ?_⟩))
                    go_roundg k5
                    case measure => have := HJ5.out; have := HK2.out; have := HJ26.out; have := HJ31.out; have := HK5.out; omega
                    case rel => exact ⟨(wrap64 (x8_5 + 1)), (by first | rfl | (simp; done) | (simp [*]; done)), H', ⟨by have := HJ5.out; have := HK2.out; have := HJ26.out; have := HJ31.out; have := HK5.out; omega⟩, ⟨by (with_reducible repeat (first | apply Kd.N_alloc | apply Kd.N_drewN | apply Kd.N_drew)); exact HO_3.out⟩, ⟨by (with_reducible repeat (first | apply Kd.R_alloc | apply Kd.R_drewN | apply Kd.R_drew)); exact HO_5.out⟩, ⟨by (with_reducible repeat (first | apply Kd.R_alloc | apply Kd.R_drewN | apply Kd.R_drew)); exact HO_7.out⟩, ⟨by repeat (first | (with_reducible first | exact HB.out | apply below_alloc | apply pw_below_drewN | apply below_drew1) | exact HB.out)⟩⟩
                   ·replace c51 := Bool.eq_false_iff.mpr c51
                    subst c51
                    have H1 : (some false) = some true := by first | rfl | (rw [if_neg (show ¬ (false = true) by decide)] at H; exact H)
                    clear H
                    have H := H1
                    clear H1
                    exact absurd H (by simp)
                  ·rw [if_neg c49] at H
                   exact absurd H (by simp)
                 ·rw [if_neg c48] at H
                  have c48b0 : decide (x8_5 < (((rd_T95 t352 x6_2).f0).length : Int)) = false := decide_eq_false c48
                  clear c48
                  have H' := Aside0.mk H
                  clear H
                  have p380 : 0 ≤ (x6_2 : Int) := of_decide_eq_true (by first | (with_reducible assumption) | assumption)
                  have q380 : x6_2 < (t352.length : Int) := of_decide_eq_true (by first | (with_reducible assumption) | assumption)
                  obtain ⟨ad380, A380_0, c380_0, A380_1, c380_1, e380, hx380_0, hx380_1, hl380_0, hi380_0, hl380_1, hi380_1⟩ := at_T95 (Kd.N_reads' HO_3.out).2.2 x6_2 p380 q380
                  cases e380
                  obtain ⟨ce380, hce380, hMe380, hcc380⟩ := Kd.N_get HO_3.out z95 x6_2 p380 (by first | exact q380 | exact of_decide_eq_true (by first | (with_reducible assumption) | assumption) | (have e_ := (Kd.N_reads' HO_3.out).1; omega))
                  obtain ⟨ua380_0, uc380_0, ua380_1, uc380_1, rfl, ul380_0, ge380_0, ul380_1, ge380_1⟩ := k95_openF hMe380
                  have hv380_0 := hcc380 0 _ rfl
                  rw [Nat.add_zero] at hv380_0
                  replace hv380_0 := Option.some.inj (hv380_0.symm.trans hx380_0)
                  injection hv380_0 with hva_ hvn_ hvc_
                  rw [hva_] at ge380_0
                  rw [hvc_] at ul380_0
                  have HL380_0 := Aside0.mk (show Kd.V (Kd.int .i64) 3 _ w.heap.size _ _ ((rd_T95 t352 x6_2).f0) from Kd.V_mk ul380_0 ge380_0)
                  clear hva_ hvn_ hvc_ ge380_0 ul380_0
                  have hv380_1 := hcc380 1 _ rfl
                  rw [add_field _ _ 1 (by omega)] at hv380_1
                  replace hv380_1 := Option.some.inj (hv380_1.symm.trans hx380_1)
                  injection hv380_1 with hva_ hvn_ hvc_
                  rw [hva_] at ge380_1
                  rw [hvc_] at ul380_1
                  have HL380_1 := Aside0.mk (show Kd.V (Kd.int .i64) 3 _ w.heap.size _ _ ((rd_T95 t352 x6_2).f1) from Kd.V_mk ul380_1 ge380_1)
                  clear hva_ hvn_ hvc_ ge380_1 ul380_1
                  clear hcc380 hce380
                  have HR380_0 := Aside0.mk hi380_0
                  have HC380_0 := Aside0.mk hl380_0
                  clear hi380_0 hl380_0
                  have HR380_1 := Aside0.mk hi380_1
                  have HC380_1 := Aside0.mk hl380_1
                  clear hi380_1 hl380_1
                  replace p380 := eq_true p380
                  replace q380 := eq_true q380
                  go_wp2
                  go_loopg [9] k5 (fun kq v9 w' => ∃ (x9_6 : Int), v9 = .int .i64 x9_6 ∧ Aside0 (laws_FnGroups.l2 kq l0 t352 t353 t356 x6_2 t371 x9_6 = some true) ∧ Aside0 (kq ≤ k5) ∧ Aside0 (Kd.N k95 95 w' w.heap.size (fun k_ => some k_ ≠ (v357 : Value).ownBlock ∧ some k_ ≠ (v372 : Value).ownBlock) (.slice (some ad380) t352.length co8) t352) ∧ Aside0 (Kd.R (Kd.int .i64) 3 w' w.heap.size (fun k_ => some k_ ≠ (v372 : Value).ownBlock) v357 t356) ∧ Aside0 (Kd.R (Kd.int .i64) 3 w' w.heap.size (fun k_ => some k_ ≠ (v357 : Value).ownBlock) v372 t371) ∧ Aside0 (Kd.C (Kd.int .i64) w' A380_0 ((rd_T95 t352 x6_2).f0).length ((rd_T95 t352 x6_2).f0)) ∧ Aside0 (Kd.C (Kd.int .i64) w' A380_1 ((rd_T95 t352 x6_2).f1).length ((rd_T95 t352 x6_2).f1)) ∧ Aside0 (Below w.heap.size w w'))
                  case atStart => exact ⟨(0), (by first | rfl | (simp; done) | (simp [*]; done)), H', ⟨Nat.le_refl _⟩, ⟨by (with_reducible repeat (first | apply Kd.N_alloc | apply Kd.N_drewN | apply Kd.N_drew)); exact HO_3.out⟩, ⟨by (with_reducible repeat (first | apply Kd.R_alloc | apply Kd.R_drewN | apply Kd.R_drew)); exact HO_5.out⟩, ⟨by (with_reducible repeat (first | apply Kd.R_alloc | apply Kd.R_drewN | apply Kd.R_drew)); exact HO_7.out⟩, ⟨by repeat (first | (with_reducible exact HR380_0.out) | (with_reducible refine Kd.C_alloc ?_ _) | (with_reducible refine Kd.C_drewN ?_ _) | (with_reducible refine Kd.C_drew ?_) | exact HR380_0.out)⟩, ⟨by repeat (first | (with_reducible exact HR380_1.out) | (with_reducible refine Kd.C_alloc ?_ _) | (with_reducible refine Kd.C_drewN ?_ _) | (with_reducible refine Kd.C_drew ?_) | exact HR380_1.out)⟩, ⟨by repeat (first | (with_reducible first | exact HB.out | apply below_alloc | apply pw_below_drewN | apply below_drew1) | exact HB.out)⟩⟩
                  case round =>
                   clear H'
                   try clear c1
                   try clear c2
                   try clear p2
                   try clear c3
                   try clear p3
                   try clear q3
                   try clear hx3
                   try clear c4
                   try clear c5
                   try clear c6
                   try clear p6
                   try clear c8
                   try clear c11
                   try clear c12
                   try clear c26
                   try clear c28
                   try clear c28b0
                   try clear c30
                   try clear c31
                   try clear c36
                   try clear c36b0
                   try clear c36b1
                   try clear c36b2
                   try clear c38
                   try clear p38
                   try clear q38
                   try clear hx38
                   try clear c45
                   try clear c46
                   try clear c46b0
                   try clear c47
                   try clear c47b0
                   try clear c48
                   try clear c48b0
                   try clear c49
                   try clear c49b0
                   try clear c51
                   try clear hx380_0
                   try clear hx380_1
                   try clear hx381_0
                   try clear hx381_1
                   try clear hx382_0
                   try clear p2
                   try clear p380
                   try clear p381
                   try clear p382
                   try clear q380
                   try clear q381
                   try clear q382
                   obtain ⟨x9_6, rfl, HA, HK6, HO_3, HO_5, HO_7, HR380_0, HR380_1, HB⟩ := hrel
                   cases gk with
                   | zero => exact absurd HA.out (by simp [laws_FnGroups.l2])
                   | succ k6 =>
                    have H := HA.out
                    clear HA
                    simp only [laws_FnGroups.l2] at H
                    by_cases c53 : 0 ≤ x6_2
                    ·rw [if_pos c53] at H
                     have c53b0 : decide (0 ≤ x6_2) = true := decide_eq_true c53
                     clear c53
                     by_cases c54 : x6_2 < (t352.length : Int)
                     ·rw [if_pos c54] at H
                      have c54b0 : decide (x6_2 < (t352.length : Int)) = true := decide_eq_true c54
                      clear c54
                      by_cases c55 : x9_6 < (((rd_T95 t352 x6_2).f1).length : Int)
                      ·rw [if_pos c55] at H
                       have c55b0 : decide (x9_6 < (((rd_T95 t352 x6_2).f1).length : Int)) = true := decide_eq_true c55
                       clear c55
                       by_cases c56 : 0 ≤ x9_6
                       ·rw [if_pos c56] at H
                        have c56b0 : decide (0 ≤ x9_6) = true := decide_eq_true c56
                        clear c56
                        obtain ⟨t387, A570, H⟩ := bnd_ H
                        have A57 := Aside0.mk A570
                        clear A570
                        have H' := Aside0.mk H
                        clear H
                        have p384 : 0 ≤ (x6_2 : Int) := of_decide_eq_true (by first | (with_reducible assumption) | assumption)
                        have q384 : x6_2 < (t352.length : Int) := of_decide_eq_true (by first | (with_reducible assumption) | assumption)
                        obtain ⟨ad384, A384_0, c384_0, A384_1, c384_1, e384, hx384_0, hx384_1, hl384_0, hi384_0, hl384_1, hi384_1⟩ := at_T95 (Kd.N_reads' HO_3.out).2.2 x6_2 p384 q384
                        obtain rfl : ad380 = ad384 := (by injection e384)
                        obtain ⟨ce384, hce384, hMe384, hcc384⟩ := Kd.N_get HO_3.out z95 x6_2 p384 (by first | exact q384 | exact of_decide_eq_true (by first | (with_reducible assumption) | assumption) | (have e_ := (Kd.N_reads' HO_3.out).1; omega))
                        obtain ⟨ua384_0, uc384_0, ua384_1, uc384_1, rfl, ul384_0, ge384_0, ul384_1, ge384_1⟩ := k95_openF hMe384
                        have hv384_0 := hcc384 0 _ rfl
                        rw [Nat.add_zero] at hv384_0
                        replace hv384_0 := Option.some.inj (hv384_0.symm.trans hx384_0)
                        injection hv384_0 with hva_ hvn_ hvc_
                        rw [hva_] at ge384_0
                        rw [hvc_] at ul384_0
                        have HL384_0 := Aside0.mk (show Kd.V (Kd.int .i64) 3 _ w.heap.size _ _ ((rd_T95 t352 x6_2).f0) from Kd.V_mk ul384_0 ge384_0)
                        clear hva_ hvn_ hvc_ ge384_0 ul384_0
                        have hv384_1 := hcc384 1 _ rfl
                        rw [add_field _ _ 1 (by omega)] at hv384_1
                        replace hv384_1 := Option.some.inj (hv384_1.symm.trans hx384_1)
                        injection hv384_1 with hva_ hvn_ hvc_
                        rw [hva_] at ge384_1
                        rw [hvc_] at ul384_1
                        have HL384_1 := Aside0.mk (show Kd.V (Kd.int .i64) 3 _ w.heap.size _ _ ((rd_T95 t352 x6_2).f1) from Kd.V_mk ul384_1 ge384_1)
                        clear hva_ hvn_ hvc_ ge384_1 ul384_1
                        clear hcc384 hce384
                        have HR384_0 := Aside0.mk hi384_0
                        have HC384_0 := Aside0.mk hl384_0
                        clear hi384_0 hl384_0
                        have HR384_1 := Aside0.mk hi384_1
                        have HC384_1 := Aside0.mk hl384_1
                        clear hi384_1 hl384_1
                        replace p384 := eq_true p384
                        replace q384 := eq_true q384
                        have p385 : 0 ≤ (x6_2 : Int) := of_decide_eq_true (by first | (with_reducible assumption) | assumption)
                        have q385 : x6_2 < (t352.length : Int) := of_decide_eq_true (by first | (with_reducible assumption) | assumption)
                        obtain ⟨ad385, A385_0, c385_0, A385_1, c385_1, e385, hx385_0, hx385_1, hl385_0, hi385_0, hl385_1, hi385_1⟩ := at_T95 (Kd.N_reads' HO_3.out).2.2 x6_2 p385 q385
                        obtain rfl : ad380 = ad385 := (by injection e385)
                        obtain ⟨ce385, hce385, hMe385, hcc385⟩ := Kd.N_get HO_3.out z95 x6_2 p385 (by first | exact q385 | exact of_decide_eq_true (by first | (with_reducible assumption) | assumption) | (have e_ := (Kd.N_reads' HO_3.out).1; omega))
                        obtain ⟨ua385_0, uc385_0, ua385_1, uc385_1, rfl, ul385_0, ge385_0, ul385_1, ge385_1⟩ := k95_openF hMe385
                        have hv385_0 := hcc385 0 _ rfl
                        rw [Nat.add_zero] at hv385_0
                        replace hv385_0 := Option.some.inj (hv385_0.symm.trans hx385_0)
                        injection hv385_0 with hva_ hvn_ hvc_
                        rw [hva_] at ge385_0
                        rw [hvc_] at ul385_0
                        have HL385_0 := Aside0.mk (show Kd.V (Kd.int .i64) 3 _ w.heap.size _ _ ((rd_T95 t352 x6_2).f0) from Kd.V_mk ul385_0 ge385_0)
                        clear hva_ hvn_ hvc_ ge385_0 ul385_0
                        have hv385_1 := hcc385 1 _ rfl
                        rw [add_field _ _ 1 (by omega)] at hv385_1
                        replace hv385_1 := Option.some.inj (hv385_1.symm.trans hx385_1)
                        injection hv385_1 with hva_ hvn_ hvc_
                        rw [hva_] at ge385_1
                        rw [hvc_] at ul385_1
                        have HL385_1 := Aside0.mk (show Kd.V (Kd.int .i64) 3 _ w.heap.size _ _ ((rd_T95 t352 x6_2).f1) from Kd.V_mk ul385_1 ge385_1)
                        clear hva_ hvn_ hvc_ ge385_1 ul385_1
                        clear hcc385 hce385
                        have HR385_0 := Aside0.mk hi385_0
                        have HC385_0 := Aside0.mk hl385_0
                        clear hi385_0 hl385_0
                        have HR385_1 := Aside0.mk hi385_1
                        have HC385_1 := Aside0.mk hl385_1
                        clear hi385_1 hl385_1
                        replace p385 := eq_true p385
                        replace q385 := eq_true q385
                        have ea_ := Option.some.inj (hx384_0.symm.trans hx385_0)
                        injection ea_ with ea_ en_ ec_
                        subst ea_
                        subst ec_
                        clear en_
                        have ea_ := Option.some.inj (hx384_1.symm.trans hx385_1)
                        injection ea_ with ea_ en_ ec_
                        subst ea_
                        subst ec_
                        clear en_
                        have p386 : 0 ≤ (x9_6 : Int) := of_decide_eq_true (by first | (with_reducible assumption) | assumption)
                        have q386 : x9_6 < (((rd_T95 t352 x6_2).f1).length : Int) := of_decide_eq_true (by first | (with_reducible assumption) | assumption)
                        obtain ⟨ad386, e386, hx386_0⟩ := Kd.at_int (by repeat (first | (with_reducible exact HR385_1.out) | (with_reducible refine Kd.C_alloc ?_ _) | (with_reducible refine Kd.C_drewN ?_ _) | (with_reducible refine Kd.C_drew ?_) | exact HR385_1.out)) x9_6 p386 q386
                        cases e386
                        replace p386 := eq_true p386
                        replace q386 := eq_true q386
                        go_wp2_with (first | ((with_reducible refine gate_callee (f := 63) rfl ?_); refine goesL_ (some 111) rfl rfl Try.func63 (by kernel_rfl) rfl #[.slice (some ad380) t352.length co8, .int .i64 (rd ((rd_T95 t352 x6_2).f1) x9_6)] rfl (by (try simp only [List.map_toArray, List.map_cons, List.map_nil]); first | done | rfl | (simp only [List.length_drop, List.length_take]; rfl)) ?_; (with_reducible refine (impl_UsersOf.calls k6 _ _ t352 (rd ((rd_T95 t352 x6_2).f1) x9_6) t387 _ ?side1 ?side2 A57.out).mono ?_); (case side1 => repeat (first | exact (Kd.N_reads' HO_3.out).2.2 | (with_reducible refine Kd.C_alloc ?_ _) | (with_reducible refine Kd.C_drewN ?_ _) | (with_reducible refine Kd.C_drew ?_))); (case side2 => exact (Kd.N_reads' HO_3.out).2.1); rintro e w58 ⟨v388, rfl, ho0, hb⟩; refine ⟨_, rfl, ?_⟩; have n0_ := Aside0.mk (Kd.N_elder' (by (with_reducible repeat (first | apply Kd.N_alloc | apply Kd.N_drewN | apply Kd.N_drew)); exact HO_3.out) (Kd.R_base ho0) hb); have n1_ := Aside0.mk (Kd.R_elder' (by (with_reducible repeat (first | apply Kd.R_alloc | apply Kd.R_drewN | apply Kd.R_drew)); exact HO_5.out) (Kd.R_base ho0) hb); have n2_ := Aside0.mk (Kd.R_elder' (by (with_reducible repeat (first | apply Kd.R_alloc | apply Kd.R_drewN | apply Kd.R_drew)); exact HO_7.out) (Kd.R_base ho0) hb); have n3_ := Aside0.mk (Kd.V_elder' (by (with_reducible repeat (first | apply Kd.V_alloc | apply Kd.V_drewN | apply Kd.V_drew)); exact HL384_0.out) (Kd.R_base ho0) hb); have n4_ := Aside0.mk (Kd.V_elder' (by (with_reducible repeat (first | apply Kd.V_alloc | apply Kd.V_drewN | apply Kd.V_drew)); exact HL384_1.out) (Kd.R_base ho0) hb); have n5_ := Aside0.mk (Kd.V_elder' (by (with_reducible repeat (first | apply Kd.V_alloc | apply Kd.V_drewN | apply Kd.V_drew)); exact HL385_0.out) (Kd.R_base ho0) hb); have n6_ := Aside0.mk (Kd.V_elder' (by (with_reducible repeat (first | apply Kd.V_alloc | apply Kd.V_drewN | apply Kd.V_drew)); exact HL385_1.out) (Kd.R_base ho0) hb); have n7_ := Aside0.mk (Kd.R_lower (Kd.R_new' (Kd.R_new' ho0 (Kd.R_lt (by (with_reducible repeat (first | apply Kd.R_alloc | apply Kd.R_drewN | apply Kd.R_drew)); exact HO_5.out))) (Kd.R_lt (by (with_reducible repeat (first | apply Kd.R_alloc | apply Kd.R_drewN | apply Kd.R_drew)); exact HO_7.out))) (below_size (by repeat (first | (with_reducible first | exact HB.out | apply below_alloc | apply pw_below_drewN | apply below_drew1) | exact HB.out)))); have n8_ := Aside0.mk (Kd.C_below (by repeat (first | (with_reducible exact HR380_0.out) | (with_reducible refine Kd.C_alloc ?_ _) | (with_reducible refine Kd.C_drewN ?_ _) | (with_reducible refine Kd.C_drew ?_) | exact HR380_0.out)) hb); have n9_ := Aside0.mk (Kd.C_below (by repeat (first | (with_reducible exact HR380_1.out) | (with_reducible refine Kd.C_alloc ?_ _) | (with_reducible refine Kd.C_drewN ?_ _) | (with_reducible refine Kd.C_drew ?_) | exact HR380_1.out)) hb); have n10_ := Aside0.mk (Kd.C_below (by repeat (first | (with_reducible exact HR384_0.out) | (with_reducible refine Kd.C_alloc ?_ _) | (with_reducible refine Kd.C_drewN ?_ _) | (with_reducible refine Kd.C_drew ?_) | exact HR384_0.out)) hb); have n11_ := Aside0.mk (Kd.C_below (by repeat (first | (with_reducible exact HR384_1.out) | (with_reducible refine Kd.C_alloc ?_ _) | (with_reducible refine Kd.C_drewN ?_ _) | (with_reducible refine Kd.C_drew ?_) | exact HR384_1.out)) hb); have n12_ := Aside0.mk (Kd.C_below (by repeat (first | (with_reducible exact HR385_0.out) | (with_reducible refine Kd.C_alloc ?_ _) | (with_reducible refine Kd.C_drewN ?_ _) | (with_reducible refine Kd.C_drew ?_) | exact HR385_0.out)) hb); have n13_ := Aside0.mk (Kd.C_below (by repeat (first | (with_reducible exact HR385_1.out) | (with_reducible refine Kd.C_alloc ?_ _) | (with_reducible refine Kd.C_drewN ?_ _) | (with_reducible refine Kd.C_drew ?_) | exact HR385_1.out)) hb); have n14_ := Aside0.mk (below_step (by repeat (first | (with_reducible first | exact HB.out | apply below_alloc | apply pw_below_drewN | apply below_drew1) | exact HB.out)) hb); clear HO_3; clear HO_5; clear HO_7; clear HL384_0; clear HL384_1; clear HL385_0; clear HL385_1; clear HR380_0; clear HR380_1; clear HR384_0; clear HR384_1; clear HR385_0; clear HR385_1; clear HB; have HO_3 := n0_; have HO_5 := n1_; have HO_7 := n2_; have HL384_0 := n3_; have HL384_1 := n4_; have HL385_0 := n5_; have HL385_1 := n6_; have HO389 := n7_; have HR380_0 := n8_; have HR380_1 := n9_; have HR384_0 := n10_; have HR384_1 := n11_; have HR385_0 := n12_; have HR385_1 := n13_; have HB := n14_; clear n0_ n1_ n2_ n3_ n4_ n5_ n6_ n7_ n8_ n9_ n10_ n11_ n12_ n13_ n14_; (try clear hb); (try clear hb2); (try clear hk); (try clear hi); (try clear ho0)))
                        go_loopg [11] k6 (fun kq v11 w' => ∃ (x11_7 : Int), v11 = .int .i64 x11_7 ∧ Aside0 (laws_FnGroups.l3 kq l0 t352 t353 t356 x6_2 t371 x9_6 t387 x11_7 = some true) ∧ Aside0 (kq ≤ k6) ∧ Aside0 (Kd.N k95 95 w' w.heap.size (fun k_ => some k_ ≠ (v357 : Value).ownBlock ∧ some k_ ≠ (v372 : Value).ownBlock ∧ some k_ ≠ (v388 : Value).ownBlock) (.slice (some ad380) t352.length co8) t352) ∧ Aside0 (Kd.R (Kd.int .i64) 3 w' w.heap.size (fun k_ => some k_ ≠ (v372 : Value).ownBlock ∧ some k_ ≠ (v388 : Value).ownBlock) v357 t356) ∧ Aside0 (Kd.R (Kd.int .i64) 3 w' w.heap.size (fun k_ => some k_ ≠ (v357 : Value).ownBlock ∧ some k_ ≠ (v388 : Value).ownBlock) v372 t371) ∧ Aside0 (Kd.R (Kd.int .i64) 3 w' w.heap.size (fun k_ => some k_ ≠ (v357 : Value).ownBlock ∧ some k_ ≠ (v372 : Value).ownBlock) v388 t387) ∧ Aside0 (Kd.C (Kd.int .i64) w' A380_0 ((rd_T95 t352 x6_2).f0).length ((rd_T95 t352 x6_2).f0)) ∧ Aside0 (Kd.C (Kd.int .i64) w' A380_1 ((rd_T95 t352 x6_2).f1).length ((rd_T95 t352 x6_2).f1)) ∧ Aside0 (Kd.C (Kd.int .i64) w' A384_0 ((rd_T95 t352 x6_2).f0).length ((rd_T95 t352 x6_2).f0)) ∧ Aside0 (Kd.C (Kd.int .i64) w' (some ad386) ((rd_T95 t352 x6_2).f1).length ((rd_T95 t352 x6_2).f1)) ∧ Aside0 (Kd.C (Kd.int .i64) w' A384_0 ((rd_T95 t352 x6_2).f0).length ((rd_T95 t352 x6_2).f0)) ∧ Aside0 (Kd.C (Kd.int .i64) w' (some ad386) ((rd_T95 t352 x6_2).f1).length ((rd_T95 t352 x6_2).f1)) ∧ Aside0 (Below w.heap.size w w'))
                        case atStart => exact ⟨(0), (by first | rfl | (simp; done) | (simp [*]; done)), H', ⟨Nat.le_refl _⟩, ⟨by (with_reducible repeat (first | apply Kd.N_alloc | apply Kd.N_drewN | apply Kd.N_drew)); exact Kd.N_mono HO_3.out (fun _ hk => ⟨hk.1.1, ⟨hk.1.2, hk.2⟩⟩)⟩, ⟨by (with_reducible repeat (first | apply Kd.R_alloc | apply Kd.R_drewN | apply Kd.R_drew)); exact HO_5.out⟩, ⟨by (with_reducible repeat (first | apply Kd.R_alloc | apply Kd.R_drewN | apply Kd.R_drew)); exact HO_7.out⟩, ⟨by (with_reducible repeat (first | apply Kd.R_alloc | apply Kd.R_drewN | apply Kd.R_drew)); exact Kd.R_mono HO389.out (fun _ hk => ⟨hk.1.2, hk.2⟩)⟩, ⟨by repeat (first | (with_reducible exact HR380_0.out) | (with_reducible refine Kd.C_alloc ?_ _) | (with_reducible refine Kd.C_drewN ?_ _) | (with_reducible refine Kd.C_drew ?_) | exact HR380_0.out)⟩, ⟨by repeat (first | (with_reducible exact HR380_1.out) | (with_reducible refine Kd.C_alloc ?_ _) | (with_reducible refine Kd.C_drewN ?_ _) | (with_reducible refine Kd.C_drew ?_) | exact HR380_1.out)⟩, ⟨by repeat (first | (with_reducible exact HR384_0.out) | (with_reducible refine Kd.C_alloc ?_ _) | (with_reducible refine Kd.C_drewN ?_ _) | (with_reducible refine Kd.C_drew ?_) | exact HR384_0.out)⟩, ⟨by repeat (first | (with_reducible exact HR384_1.out) | (with_reducible refine Kd.C_alloc ?_ _) | (with_reducible refine Kd.C_drewN ?_ _) | (with_reducible refine Kd.C_drew ?_) | exact HR384_1.out)⟩, ⟨by repeat (first | (with_reducible exact HR385_0.out) | (with_reducible refine Kd.C_alloc ?_ _) | (with_reducible refine Kd.C_drewN ?_ _) | (with_reducible refine Kd.C_drew ?_) | exact HR385_0.out)⟩, ⟨by repeat (first | (with_reducible exact HR385_1.out) | (with_reducible refine Kd.C_alloc ?_ _) | (with_reducible refine Kd.C_drewN ?_ _) | (with_reducible refine Kd.C_drew ?_) | exact HR385_1.out)⟩, ⟨by repeat (first | (with_reducible first | exact HB.out | apply below_alloc | apply pw_below_drewN | apply below_drew1) | exact HB.out)⟩⟩
                        case round =>
                         clear H'
                         try clear c1
                         try clear c2
                         try clear p2
                         try clear c3
                         try clear p3
                         try clear q3
                         try clear hx3
                         try clear c4
                         try clear c5
                         try clear c6
                         try clear p6
                         try clear c8
                         try clear c11
                         try clear c12
                         try clear c26
                         try clear c28
                         try clear c28b0
                         try clear c30
                         try clear c31
                         try clear c36
                         try clear c36b0
                         try clear c36b1
                         try clear c36b2
                         try clear c38
                         try clear p38
                         try clear q38
                         try clear hx38
                         try clear c45
                         try clear c46
                         try clear c46b0
                         try clear c47
                         try clear c47b0
                         try clear c48
                         try clear c48b0
                         try clear c49
                         try clear c49b0
                         try clear c51
                         try clear c53
                         try clear c53b0
                         try clear c54
                         try clear c54b0
                         try clear c55
                         try clear c55b0
                         try clear c56
                         try clear c56b0
                         try clear hx380_0
                         try clear hx380_1
                         try clear hx381_0
                         try clear hx381_1
                         try clear hx382_0
                         try clear hx384_0
                         try clear hx384_1
                         try clear hx385_0
                         try clear hx385_1
                         try clear hx386_0
                         try clear p2
                         try clear p3
                         try clear p38
                         try clear p380
                         try clear p381
                         try clear p382
                         try clear p384
                         try clear p385
                         try clear p386
                         try clear p6
                         try clear q3
                         try clear q38
                         try clear q380
                         try clear q381
                         try clear q382
                         try clear q384
                         try clear q385
                         try clear q386
                         obtain ⟨x11_7, rfl, HA, HK7, HO_3, HO_5, HO_7, HO_10, HR380_0, HR380_1, HR384_0, HR384_1, HR385_0, HR385_1, HB⟩ := hrel
                         cases gk with
                         | zero => exact absurd HA.out (by simp [laws_FnGroups.l3])
                         | succ k7 =>
                          have H := HA.out
                          clear HA
                          simp only [laws_FnGroups.l3] at H
                          by_cases c59 : x11_7 < (t387.length : Int)
                          ·rw [if_pos c59] at H
                           have c59b0 : decide (x11_7 < (t387.length : Int)) = true := decide_eq_true c59
                           clear c59
                           by_cases c60 : 0 ≤ x11_7
                           ·rw [if_pos c60] at H
                            have c60b0 : decide (0 ≤ x11_7) = true := decide_eq_true c60
                            clear c60
                            obtain ⟨t391, A610, H⟩ := bnd_ H
                            have A61 := Aside0.mk A610
                            clear A610
                            by_cases c62 : t391 = true
                            ·subst c62
                             have H1 : (laws_FnGroups.l3 k7 l0 t352 t353 t356 x6_2 t371 x9_6 t387 (wrap64 (x11_7 + 1))) = some true := by first | rfl | (rw [if_pos rfl] at H; exact H)
                             clear H
                             have H := H1
                             clear H1
                             have H' := Aside0.mk H
                             clear H
                             obtain ⟨Ao63, co63, eo63⟩ := Kd.R_slice HO_10.out
                             subst eo63
                             have p390 : 0 ≤ (x11_7 : Int) := of_decide_eq_true (by first | (with_reducible assumption) | assumption)
                             have q390 : x11_7 < (t387.length : Int) := of_decide_eq_true (by first | (with_reducible assumption) | assumption)
                             obtain ⟨ad390, e390, hx390_0⟩ := Kd.at_int (Kd.R_reads' HO_10.out).2.2 x11_7 p390 q390
                             cases e390
                             replace p390 := eq_true p390
                             replace q390 := eq_true q390
                             obtain ⟨Ao64, co64, eo64⟩ := Kd.R_slice HO_7.out
                             subst eo64
                             go_wp2_with (first | ((with_reducible refine gate_callee (f := 64) rfl ?_); refine goesL_ (some 123) rfl rfl Try.func64 (by kernel_rfl) rfl #[.slice Ao64 t371.length co64, .int .i64 (rd t387 x11_7)] rfl (by (try simp only [List.map_toArray, List.map_cons, List.map_nil]); first | done | rfl | (simp only [List.length_drop, List.length_take]; rfl)) ?_; (with_reducible refine (laws_has.calls k7 _ _ t371 (rd t387 x11_7) true _ ?side1 ?side2 A61.out).mono ?_); (case side1 => repeat (first | exact (Kd.R_reads' HO_7.out).2.2 | (with_reducible refine Kd.C_alloc ?_ _) | (with_reducible refine Kd.C_drewN ?_ _) | (with_reducible refine Kd.C_drew ?_))); (case side2 => exact (Kd.R_reads' HO_7.out).2.1); rintro e w' ⟨rfl, ⟨nd, rfl⟩⟩; refine ⟨_, rfl, ?_⟩))
                             go_roundg k7
                             case measure => have := HJ5.out; have := HK2.out; have := HJ26.out; have := HJ31.out; have := HK5.out; have := HK6.out; have := HK7.out; omega
                             case rel => exact ⟨(wrap64 (x11_7 + 1)), (by first | rfl | (simp; done) | (simp [*]; done)), H', ⟨by have := HJ5.out; have := HK2.out; have := HJ26.out; have := HJ31.out; have := HK5.out; have := HK6.out; have := HK7.out; omega⟩, ⟨by (with_reducible repeat (first | apply Kd.N_alloc | apply Kd.N_drewN | apply Kd.N_drew)); exact HO_3.out⟩, ⟨by (with_reducible repeat (first | apply Kd.R_alloc | apply Kd.R_drewN | apply Kd.R_drew)); exact HO_5.out⟩, ⟨by (with_reducible repeat (first | apply Kd.R_alloc | apply Kd.R_drewN | apply Kd.R_drew)); exact HO_7.out⟩, ⟨by (with_reducible repeat (first | apply Kd.R_alloc | apply Kd.R_drewN | apply Kd.R_drew)); exact HO_10.out⟩, ⟨by repeat (first | (with_reducible exact HR380_0.out) | (with_reducible refine Kd.C_alloc ?_ _) | (with_reducible refine Kd.C_drewN ?_ _) | (with_reducible refine Kd.C_drew ?_) | exact HR380_0.out)⟩, ⟨by repeat (first | (with_reducible exact HR380_1.out) | (with_reducible refine Kd.C_alloc ?_ _) | (with_reducible refine Kd.C_drewN ?_ _) | (with_reducible refine Kd.C_drew ?_) | exact HR380_1.out)⟩, ⟨by repeat (first | (with_reducible exact HR384_0.out) | (with_reducible refine Kd.C_alloc ?_ _) | (with_reducible refine Kd.C_drewN ?_ _) | (with_reducible refine Kd.C_drew ?_) | exact HR384_0.out)⟩, ⟨by repeat (first | (with_reducible exact HR384_1.out) | (with_reducible refine Kd.C_alloc ?_ _) | (with_reducible refine Kd.C_drewN ?_ _) | (with_reducible refine Kd.C_drew ?_) | exact HR384_1.out)⟩, ⟨by repeat (first | (with_reducible exact HR385_0.out) | (with_reducible refine Kd.C_alloc ?_ _) | (with_reducible refine Kd.C_drewN ?_ _) | (with_reducible refine Kd.C_drew ?_) | exact HR385_0.out)⟩, ⟨by repeat (first | (with_reducible exact HR385_1.out) | (with_reducible refine Kd.C_alloc ?_ _) | (with_reducible refine Kd.C_drewN ?_ _) | (with_reducible refine Kd.C_drew ?_) | exact HR385_1.out)⟩, ⟨by repeat (first | (with_reducible first | exact HB.out | apply below_alloc | apply pw_below_drewN | apply below_drew1) | exact HB.out)⟩⟩
                            ·replace c62 := Bool.eq_false_iff.mpr c62
                             subst c62
                             have H1 : (some false) = some true := by first | rfl | (rw [if_neg (show ¬ (false = true) by decide)] at H; exact H)
                             clear H
                             have H := H1
                             clear H1
                             exact absurd H (by simp)
                           ·rw [if_neg c60] at H
                            exact absurd H (by simp)
                          ·rw [if_neg c59] at H
                           have c59b0 : decide (x11_7 < (t387.length : Int)) = false := decide_eq_false c59
                           clear c59
                           have H' := Aside0.mk H
                           clear H
                           obtain ⟨Ao65, co65, eo65⟩ := Kd.R_slice HO_10.out
                           subst eo65
                           go_wp2
                           go_roundg k7
                           case measure => have := HJ5.out; have := HK2.out; have := HJ26.out; have := HJ31.out; have := HK5.out; have := HK6.out; have := HK7.out; omega
                           case rel => exact ⟨(wrap64 (x9_6 + 1)), (by first | rfl | (simp; done) | (simp [*]; done)), H', ⟨by have := HJ5.out; have := HK2.out; have := HJ26.out; have := HJ31.out; have := HK5.out; have := HK6.out; have := HK7.out; omega⟩, ⟨by (with_reducible repeat (first | apply Kd.N_alloc | apply Kd.N_drewN | apply Kd.N_drew)); exact Kd.N_mono HO_3.out (fun _ hk => ⟨hk.1, hk.2.1⟩)⟩, ⟨by (with_reducible repeat (first | apply Kd.R_alloc | apply Kd.R_drewN | apply Kd.R_drew)); exact Kd.R_mono HO_5.out (fun _ hk => hk.1)⟩, ⟨by (with_reducible repeat (first | apply Kd.R_alloc | apply Kd.R_drewN | apply Kd.R_drew)); exact Kd.R_mono HO_7.out (fun _ hk => hk.1)⟩, ⟨by repeat (first | (with_reducible exact HR380_0.out) | (with_reducible refine Kd.C_alloc ?_ _) | (with_reducible refine Kd.C_drewN ?_ _) | (with_reducible refine Kd.C_drew ?_) | exact HR380_0.out)⟩, ⟨by repeat (first | (with_reducible exact HR380_1.out) | (with_reducible refine Kd.C_alloc ?_ _) | (with_reducible refine Kd.C_drewN ?_ _) | (with_reducible refine Kd.C_drew ?_) | exact HR380_1.out)⟩, ⟨by repeat (first | (with_reducible first | exact HB.out | apply below_alloc | apply pw_below_drewN | apply below_drew1) | exact HB.out)⟩⟩
                       ·rw [if_neg c56] at H
                        exact absurd H (by simp)
                      ·rw [if_neg c55] at H
                       have c55b0 : decide (x9_6 < (((rd_T95 t352 x6_2).f1).length : Int)) = false := decide_eq_false c55
                       clear c55
                       have H' := Aside0.mk H
                       clear H
                       have p384 : 0 ≤ (x6_2 : Int) := of_decide_eq_true (by first | (with_reducible assumption) | assumption)
                       have q384 : x6_2 < (t352.length : Int) := of_decide_eq_true (by first | (with_reducible assumption) | assumption)
                       obtain ⟨ad384, A384_0, c384_0, A384_1, c384_1, e384, hx384_0, hx384_1, hl384_0, hi384_0, hl384_1, hi384_1⟩ := at_T95 (Kd.N_reads' HO_3.out).2.2 x6_2 p384 q384
                       obtain rfl : ad380 = ad384 := (by injection e384)
                       obtain ⟨ce384, hce384, hMe384, hcc384⟩ := Kd.N_get HO_3.out z95 x6_2 p384 (by first | exact q384 | exact of_decide_eq_true (by first | (with_reducible assumption) | assumption) | (have e_ := (Kd.N_reads' HO_3.out).1; omega))
                       obtain ⟨ua384_0, uc384_0, ua384_1, uc384_1, rfl, ul384_0, ge384_0, ul384_1, ge384_1⟩ := k95_openF hMe384
                       have hv384_0 := hcc384 0 _ rfl
                       rw [Nat.add_zero] at hv384_0
                       replace hv384_0 := Option.some.inj (hv384_0.symm.trans hx384_0)
                       injection hv384_0 with hva_ hvn_ hvc_
                       rw [hva_] at ge384_0
                       rw [hvc_] at ul384_0
                       have HL384_0 := Aside0.mk (show Kd.V (Kd.int .i64) 3 _ w.heap.size _ _ ((rd_T95 t352 x6_2).f0) from Kd.V_mk ul384_0 ge384_0)
                       clear hva_ hvn_ hvc_ ge384_0 ul384_0
                       have hv384_1 := hcc384 1 _ rfl
                       rw [add_field _ _ 1 (by omega)] at hv384_1
                       replace hv384_1 := Option.some.inj (hv384_1.symm.trans hx384_1)
                       injection hv384_1 with hva_ hvn_ hvc_
                       rw [hva_] at ge384_1
                       rw [hvc_] at ul384_1
                       have HL384_1 := Aside0.mk (show Kd.V (Kd.int .i64) 3 _ w.heap.size _ _ ((rd_T95 t352 x6_2).f1) from Kd.V_mk ul384_1 ge384_1)
                       clear hva_ hvn_ hvc_ ge384_1 ul384_1
                       clear hcc384 hce384
                       have HR384_0 := Aside0.mk hi384_0
                       have HC384_0 := Aside0.mk hl384_0
                       clear hi384_0 hl384_0
                       have HR384_1 := Aside0.mk hi384_1
                       have HC384_1 := Aside0.mk hl384_1
                       clear hi384_1 hl384_1
                       replace p384 := eq_true p384
                       replace q384 := eq_true q384
                       go_wp2
                       go_roundg k6
                       case measure => have := HJ5.out; have := HK2.out; have := HJ26.out; have := HJ31.out; have := HK5.out; have := HK6.out; omega
                       case rel => exact ⟨(wrap64 (x6_2 + 1)), (by first | rfl | (simp; done) | (simp [*]; done)), H', ⟨by have := HJ5.out; have := HK2.out; have := HJ26.out; have := HJ31.out; have := HK5.out; have := HK6.out; omega⟩, ⟨by (with_reducible repeat (first | apply Kd.N_alloc | apply Kd.N_drewN | apply Kd.N_drew)); exact Kd.N_mono HO_3.out (fun _ hk => hk.1)⟩, ⟨by (with_reducible repeat (first | apply Kd.R_alloc | apply Kd.R_drewN | apply Kd.R_drew)); exact Kd.R_mono HO_5.out (fun _ hk => trivial)⟩, ⟨by repeat (first | (with_reducible first | exact HB.out | apply below_alloc | apply pw_below_drewN | apply below_drew1) | exact HB.out)⟩⟩
                     ·rw [if_neg c54] at H
                      exact absurd H (by simp)
                    ·rw [if_neg c53] at H
                     exact absurd H (by simp)
                ·rw [if_neg c47] at H
                 exact absurd H (by simp)
               ·rw [if_neg c46] at H
                exact absurd H (by simp)
         ·replace c30 := Bool.eq_false_iff.mpr c30
          subst c30
          have H1 : ((spec_DrawMerge.f kj26 l0).bind fun bt392 => ((impl_Merge.f kj26 bt392.1 bt392.2).bind fun t398 => ((spec_GroupsOk.f kj26 bt392.1).bind fun t401 => (if t401 = true then ((spec_GroupsOk.f kj26 bt392.2).bind fun t402 => (laws_FnGroups.j7 kj26 bt392.1 bt392.2 t398 (!t402))) else (laws_FnGroups.j7 kj26 bt392.1 bt392.2 t398 true))))) = some true := by first | rfl | (rw [if_neg (show ¬ (false = true) by decide)] at H; exact H)
          clear H
          have H := H1
          clear H1
          replace H := Option.bind_eq_some_iff.mp H
          obtain ⟨⟨t392, t393⟩, A660, H⟩ := H
          replace H : ((impl_Merge.f kj26 t392 t393).bind fun t398 => ((spec_GroupsOk.f kj26 t392).bind fun t401 => (if t401 = true then ((spec_GroupsOk.f kj26 t393).bind fun t402 => (laws_FnGroups.j7 kj26 t392 t393 t398 (!t402))) else (laws_FnGroups.j7 kj26 t392 t393 t398 true)))) = some true := H
          have A66 := Aside0.mk A660
          clear A660
          obtain ⟨t398, A670, H⟩ := bnd_ H
          have A67 := Aside0.mk A670
          clear A670
          have HC68 := Aside0.mk H
          clear H
          go_upto_region 29 with (first | ((with_reducible refine gate_callee (f := 66) rfl ?_); refine goesL_ (some 127) rfl rfl Try.func66 (by kernel_rfl) rfl #[.slice A0 l0.length c0] rfl (by (try simp only [List.map_toArray, List.map_cons, List.map_nil]); first | done | rfl | (simp only [List.length_drop, List.length_take]; rfl)) ?_; (with_reducible refine (spec_DrawMerge.calls kj26 _ _ l0 t392 t393 _ ?side1 ?side2 A66.out).mono ?_); (case side1 => repeat (first | exact (Kd.C_below HR0.out HB.out) | (with_reducible refine Kd.C_alloc ?_ _) | (with_reducible refine Kd.C_drewN ?_ _) | (with_reducible refine Kd.C_drew ?_))); (case side2 => exact HC0.out); rintro e w69 ⟨v394, v396, rfl, ho0, ho1, hb⟩; refine ⟨_, rfl, ?_⟩; have n0_ := Aside0.mk (Kd.N_mono (Kd.N_told (Kd.N_told (Kd.N_old (by (with_reducible repeat (first | apply Kd.N_alloc | apply Kd.N_drewN | apply Kd.N_drew)); exact HO_3.out) hb) (Kd.S_base ho0)) (Kd.S_base ho1)) (fun _ h_ => h_.1)); have n1_ := Aside0.mk (Kd.R_below (by (with_reducible repeat (first | apply Kd.R_alloc | apply Kd.R_drewN | apply Kd.R_drew)); exact HO_5.out) hb); have n2_ := Aside0.mk (Kd.N_lower (Kd.N_mono (ok' := fun k_ => some k_ ≠ (v396 : Value).ownBlock ∧ some k_ ≠ (.slice Ao8 t352.length co8 : Value).ownBlock ∧ some k_ ≠ (v357 : Value).ownBlock) (Kd.S_N (Kd.S_bound ho0)) (fun k_ hk_ => ⟨hk_.1, (Kd.fresh' (Kd.N_lt (by (with_reducible repeat (first | apply Kd.N_alloc | apply Kd.N_drewN | apply Kd.N_drew)); exact HO_3.out)) k_ hk_.2.1), (Kd.fresh' (Kd.R_lt (by (with_reducible repeat (first | apply Kd.R_alloc | apply Kd.R_drewN | apply Kd.R_drew)); exact HO_5.out)) k_ hk_.2.1)⟩)) (below_size (by repeat (first | (with_reducible first | exact HB.out | apply below_alloc | apply pw_below_drewN | apply below_drew1) | exact HB.out)))); have n3_ := Aside0.mk (Kd.N_lower (Kd.N_mono (ok' := fun k_ => some k_ ≠ (v394 : Value).ownBlock ∧ some k_ ≠ (.slice Ao8 t352.length co8 : Value).ownBlock ∧ some k_ ≠ (v357 : Value).ownBlock) (Kd.S_N (Kd.S_bound ho1)) (fun k_ hk_ => ⟨hk_.1, (Kd.fresh' (Kd.N_lt (by (with_reducible repeat (first | apply Kd.N_alloc | apply Kd.N_drewN | apply Kd.N_drew)); exact HO_3.out)) k_ hk_.2.1), (Kd.fresh' (Kd.R_lt (by (with_reducible repeat (first | apply Kd.R_alloc | apply Kd.R_drewN | apply Kd.R_drew)); exact HO_5.out)) k_ hk_.2.1)⟩)) (below_size (by repeat (first | (with_reducible first | exact HB.out | apply below_alloc | apply pw_below_drewN | apply below_drew1) | exact HB.out)))); have n4_ := Aside0.mk (below_step (by repeat (first | (with_reducible first | exact HB.out | apply below_alloc | apply pw_below_drewN | apply below_drew1) | exact HB.out)) hb); clear HO_3; clear HO_5; clear HB; have HO_3 := n0_; have HO_5 := n1_; have HO395 := n2_; have HO397 := n3_; have HB := n4_; clear n0_ n1_ n2_ n3_ n4_; (try clear hb); (try clear hb2); (try clear hk); (try clear hi); (try clear ho0); (try clear ho1); obtain ⟨Ao70, co70, eo70⟩ := Kd.N_slice HO395.out; subst eo70; obtain ⟨Ao71, co71, eo71⟩ := Kd.N_slice HO397.out; subst eo71) | ((with_reducible refine gate_callee (f := 53) rfl ?_); refine goesL_ (some 132) rfl rfl Try.func53 (by kernel_rfl) rfl #[.slice Ao70 t392.length co70, .slice Ao71 t393.length co71] rfl (by (try simp only [List.map_toArray, List.map_cons, List.map_nil]); first | done | rfl | (simp only [List.length_drop, List.length_take]; rfl)) ?_; (with_reducible refine (impl_Merge.calls kj26 (fun k_ => (some k_ ≠ (.slice Ao71 t393.length co71 : Value).ownBlock ∧ (some k_ ≠ (.slice Ao8 t352.length co8 : Value).ownBlock ∧ some k_ ≠ (v357 : Value).ownBlock))) _ _ t392 (fun k_ => (some k_ ≠ (.slice Ao70 t392.length co70 : Value).ownBlock ∧ (some k_ ≠ (.slice Ao8 t352.length co8 : Value).ownBlock ∧ some k_ ≠ (v357 : Value).ownBlock))) _ _ t393 t398 _ ?side1 ?side2 A67.out).mono ?_); (case side1 => exact Kd.N_V (HO395.out)); (case side2 => exact Kd.N_V (HO397.out)); rintro e w72 ⟨v399, rfl, ho0, hb⟩; refine ⟨_, rfl, ?_⟩; have n0_ := Aside0.mk (Kd.N_elder' (by (with_reducible repeat (first | apply Kd.N_alloc | apply Kd.N_drewN | apply Kd.N_drew)); exact HO_3.out) (Kd.N_base ho0) hb); have n1_ := Aside0.mk (Kd.R_below (by (with_reducible repeat (first | apply Kd.R_alloc | apply Kd.R_drewN | apply Kd.R_drew)); exact HO_5.out) hb); have n2_ := Aside0.mk (Kd.N_elder' (by (with_reducible repeat (first | apply Kd.N_alloc | apply Kd.N_drewN | apply Kd.N_drew)); exact HO395.out) (Kd.N_base ho0) hb); have n3_ := Aside0.mk (Kd.N_elder' (by (with_reducible repeat (first | apply Kd.N_alloc | apply Kd.N_drewN | apply Kd.N_drew)); exact HO397.out) (Kd.N_base ho0) hb); have n4_ := Aside0.mk (Kd.N_lower (Kd.N_mono (ok' := fun k_ => some k_ ≠ (.slice Ao8 t352.length co8 : Value).ownBlock ∧ some k_ ≠ (v357 : Value).ownBlock) ho0 (fun k_ hk_ => ⟨Or.elim hk_ (fun hs_ => Or.elim hs_ (fun hs_ => hs_.2.1) (fun hs_ => hs_.2.1)) (fun hn_ => (Kd.fresh' (Kd.N_lt (by (with_reducible repeat (first | apply Kd.N_alloc | apply Kd.N_drewN | apply Kd.N_drew)); exact HO_3.out)) k_ hn_)), Or.elim hk_ (fun hs_ => Or.elim hs_ (fun hs_ => hs_.2.2) (fun hs_ => hs_.2.2)) (fun hn_ => (Kd.fresh' (Kd.R_lt (by (with_reducible repeat (first | apply Kd.R_alloc | apply Kd.R_drewN | apply Kd.R_drew)); exact HO_5.out)) k_ hn_))⟩)) (below_size (by repeat (first | (with_reducible first | exact HB.out | apply below_alloc | apply pw_below_drewN | apply below_drew1) | exact HB.out)))); have n5_ := Aside0.mk (below_step (by repeat (first | (with_reducible first | exact HB.out | apply below_alloc | apply pw_below_drewN | apply below_drew1) | exact HB.out)) hb); clear HO_3; clear HO_5; clear HO395; clear HO397; clear HB; have HO_3 := n0_; have HO_5 := n1_; have HO395 := n2_; have HO397 := n3_; have HO400 := n4_; have HB := n5_; clear n0_ n1_ n2_ n3_ n4_ n5_; (try clear hb); (try clear hb2); (try clear hk); (try clear hi); (try clear ho0)))
          (try simp only [Act.put, List.setIfInBounds_toArray, List.set_cons_zero, List.set_cons_succ])
          go_cut [140] (fun v140 wc => ∃ (kq : Nat) (x140_67 : Bool), v140 = .bool x140_67 ∧ Aside0 (laws_FnGroups.j7 kq t392 t393 t398 x140_67 = some true) ∧ Aside0 (kq ≤ kj26) ∧ Aside0 (Kd.N k95 95 wc w.heap.size (fun k_ => some k_ ≠ ((.slice Ao71 t393.length co71) : Value).ownBlock ∧ some k_ ≠ (v399 : Value).ownBlock) (.slice Ao70 t392.length co70) t392) ∧ Aside0 (Kd.N k95 95 wc w.heap.size (fun k_ => some k_ ≠ ((.slice Ao70 t392.length co70) : Value).ownBlock ∧ some k_ ≠ (v399 : Value).ownBlock) (.slice Ao71 t393.length co71) t393) ∧ Aside0 (Kd.N k95 95 wc w.heap.size (fun _ => True) v399 t398) ∧ Aside0 (Below w.heap.size w wc))
          case first =>
           have H := HC68.out
           clear HC68
           obtain ⟨t401, A730, H⟩ := bnd_ H
           have A73 := Aside0.mk A730
           clear A730
           by_cases c74 : t401 = true
           ·subst c74
            have H1 : ((spec_GroupsOk.f kj26 t393).bind fun t402 => (laws_FnGroups.j7 kj26 t392 t393 t398 (!t402))) = some true := by first | rfl | (rw [if_pos rfl] at H; exact H)
            clear H
            have H := H1
            clear H1
            obtain ⟨t402, A750, H⟩ := bnd_ H
            have A75 := Aside0.mk A750
            clear A750
            have H' := Aside0.mk H
            clear H
            go_wp2_with (first | ((with_reducible refine gate_callee (f := 62) rfl ?_); refine goesL_ (some 134) rfl rfl Try.func62 (by kernel_rfl) rfl #[.slice Ao70 t392.length co70] rfl (by (try simp only [List.map_toArray, List.map_cons, List.map_nil]); first | done | rfl | (simp only [List.length_drop, List.length_take]; rfl)) ?_; (with_reducible refine (spec_GroupsOk.calls kj26 _ _ t392 true _ ?side1 ?side2 A73.out).mono ?_); (case side1 => repeat (first | exact (Kd.N_reads' HO395.out).2.2 | (with_reducible refine Kd.C_alloc ?_ _) | (with_reducible refine Kd.C_drewN ?_ _) | (with_reducible refine Kd.C_drew ?_))); (case side2 => exact (Kd.N_reads' HO395.out).2.1); rintro e w' ⟨rfl, ⟨nd, rfl⟩⟩; refine ⟨_, rfl, ?_⟩) | (go_at_call 62; (with_reducible refine (spec_GroupsOk.calls kj26 _ _ t393 t402 _ ?side1 ?side2 A75.out).mono ?_); (case side1 => repeat (first | exact (Kd.N_reads' HO397.out).2.2 | (with_reducible refine Kd.C_alloc ?_ _) | (with_reducible refine Kd.C_drewN ?_ _) | (with_reducible refine Kd.C_drew ?_))); (case side2 => exact (Kd.N_reads' HO397.out).2.1); rintro e w' ⟨rfl, ⟨nd, rfl⟩⟩))
            go_meet
            case rel => exact ⟨_, (!t402), (by first | rfl | (simp; done) | (simp [*]; done)), H', ⟨by have := HJ5.out; have := HK2.out; have := HJ26.out; first | omega | exact Nat.le_refl _⟩, ⟨by (with_reducible repeat (first | apply Kd.N_alloc | apply Kd.N_drewN | apply Kd.N_drew)); exact Kd.N_mono HO395.out (fun _ hk => ⟨hk.1.1, hk.2⟩)⟩, ⟨by (with_reducible repeat (first | apply Kd.N_alloc | apply Kd.N_drewN | apply Kd.N_drew)); exact Kd.N_mono HO397.out (fun _ hk => ⟨hk.1.1, hk.2⟩)⟩, ⟨by (with_reducible repeat (first | apply Kd.N_alloc | apply Kd.N_drewN | apply Kd.N_drew)); exact Kd.N_mono HO400.out (fun _ hk => trivial)⟩, ⟨by repeat (first | (with_reducible first | exact HB.out | apply below_alloc | apply pw_below_drewN | apply below_drew1) | exact HB.out)⟩⟩
           ·replace c74 := Bool.eq_false_iff.mpr c74
            subst c74
            have H1 : (laws_FnGroups.j7 kj26 t392 t393 t398 true) = some true := by first | rfl | (rw [if_neg (show ¬ (false = true) by decide)] at H; exact H)
            clear H
            have H := H1
            clear H1
            have H' := Aside0.mk H
            clear H
            go_wp2_with (first | ((with_reducible refine gate_callee (f := 62) rfl ?_); refine goesL_ (some 134) rfl rfl Try.func62 (by kernel_rfl) rfl #[.slice Ao70 t392.length co70] rfl (by (try simp only [List.map_toArray, List.map_cons, List.map_nil]); first | done | rfl | (simp only [List.length_drop, List.length_take]; rfl)) ?_; (with_reducible refine (spec_GroupsOk.calls kj26 _ _ t392 false _ ?side1 ?side2 A73.out).mono ?_); (case side1 => repeat (first | exact (Kd.N_reads' HO395.out).2.2 | (with_reducible refine Kd.C_alloc ?_ _) | (with_reducible refine Kd.C_drewN ?_ _) | (with_reducible refine Kd.C_drew ?_))); (case side2 => exact (Kd.N_reads' HO395.out).2.1); rintro e w' ⟨rfl, ⟨nd, rfl⟩⟩; refine ⟨_, rfl, ?_⟩))
            go_meet
            case rel => exact ⟨_, (true), (by first | rfl | (simp; done) | (simp [*]; done)), H', ⟨by have := HJ5.out; have := HK2.out; have := HJ26.out; first | omega | exact Nat.le_refl _⟩, ⟨by (with_reducible repeat (first | apply Kd.N_alloc | apply Kd.N_drewN | apply Kd.N_drew)); exact Kd.N_mono HO395.out (fun _ hk => ⟨hk.1.1, hk.2⟩)⟩, ⟨by (with_reducible repeat (first | apply Kd.N_alloc | apply Kd.N_drewN | apply Kd.N_drew)); exact Kd.N_mono HO397.out (fun _ hk => ⟨hk.1.1, hk.2⟩)⟩, ⟨by (with_reducible repeat (first | apply Kd.N_alloc | apply Kd.N_drewN | apply Kd.N_drew)); exact Kd.N_mono HO400.out (fun _ hk => trivial)⟩, ⟨by repeat (first | (with_reducible first | exact HB.out | apply below_alloc | apply pw_below_drewN | apply below_drew1) | exact HB.out)⟩⟩
          case rest =>
           clear HC68
           try clear c1
           try clear c2
           try clear p2
           try clear c3
           try clear p3
           try clear q3
           try clear hx3
           try clear c4
           try clear c5
           try clear c6
           try clear p6
           try clear c7
           try clear c8
           try clear c11
           try clear c12
           try clear c26
           try clear c28
           try clear c28b0
           try clear c30
           try clear c31
           try clear c36
           try clear c36b0
           try clear c36b1
           try clear c36b2
           try clear c38
           try clear p38
           try clear q38
           try clear hx38
           try clear p39
           try clear q39
           try clear hx39
           try clear c45
           try clear c46
           try clear c46b0
           try clear c47
           try clear c47b0
           try clear c48
           try clear c48b0
           try clear c49
           try clear c49b0
           try clear c51
           try clear c53
           try clear c53b0
           try clear c54
           try clear c54b0
           try clear c55
           try clear c55b0
           try clear c56
           try clear c56b0
           try clear c59
           try clear c59b0
           try clear c60
           try clear c60b0
           try clear c62
           try clear c63
           try clear c64
           try clear p64
           try clear c66
           try clear c74
           try clear hx380_0
           try clear hx380_1
           try clear hx381_0
           try clear hx381_1
           try clear hx382_0
           try clear hx384_0
           try clear hx384_1
           try clear hx385_0
           try clear hx385_1
           try clear hx386_0
           try clear hx390_0
           try clear p2
           try clear p3
           try clear p38
           try clear p380
           try clear p381
           try clear p382
           try clear p384
           try clear p385
           try clear p386
           try clear p390
           try clear p6
           try clear q3
           try clear q38
           try clear q380
           try clear q381
           try clear q382
           try clear q384
           try clear q385
           try clear q386
           try clear q390
           obtain ⟨kq, x140_67, rfl, HA, HJ67, HO_12, HO_13, HO_14, HB⟩ := hcut
           cases kq with
           | zero => exact absurd HA.out (by simp [laws_FnGroups.j7])
           | succ kj67 =>
            have H := HA.out
            clear HA
            simp only [laws_FnGroups.j7] at H
            by_cases c76 : x140_67 = true
            ·subst c76
             have H1 : (some ((t398.length : Int) == 0)) = some true := by first | rfl | (rw [if_pos rfl] at H; exact H)
             clear H
             have H := H1
             clear H1
             have HR_ := Option.some.inj H
             clear H
             obtain ⟨Ao77, co77, eo77⟩ := Kd.N_slice HO_14.out
             subst eo77
             go_wp2
             go_ret
             exact ⟨by first | rfl | (simp [errW_none, errW_some] <;> rfl) | (simp [*, errW_none, errW_some] <;> rfl), by repeat (first | (with_reducible first | exact HB.out | apply below_alloc | apply pw_below_drewN | apply below_drew1) | exact HB.out)⟩
            ·replace c76 := Bool.eq_false_iff.mpr c76
             subst c76
             have H1 : (laws_FnGroups.l4 kj67 t392 t393 t398 0) = some true := by first | rfl | (rw [if_neg (show ¬ (false = true) by decide)] at H; exact H)
             clear H
             have H := H1
             clear H1
             have H' := Aside0.mk H
             clear H
             go_wp2
             go_loopg [15] kj67 (fun kq v15 w' => ∃ (x15_5 : Int), v15 = .int .i64 x15_5 ∧ Aside0 (laws_FnGroups.l4 kq t392 t393 t398 x15_5 = some true) ∧ Aside0 (kq ≤ kj67) ∧ Aside0 (Kd.N k95 95 w' w.heap.size (fun k_ => some k_ ≠ ((.slice Ao71 t393.length co71) : Value).ownBlock ∧ some k_ ≠ (v399 : Value).ownBlock) (.slice Ao70 t392.length co70) t392) ∧ Aside0 (Kd.N k95 95 w' w.heap.size (fun k_ => some k_ ≠ ((.slice Ao70 t392.length co70) : Value).ownBlock ∧ some k_ ≠ (v399 : Value).ownBlock) (.slice Ao71 t393.length co71) t393) ∧ Aside0 (Kd.N k95 95 w' w.heap.size (fun _ => True) v399 t398) ∧ Aside0 (Below w.heap.size w w'))
             case atStart => exact ⟨(0), (by first | rfl | (simp; done) | (simp [*]; done)), H', ⟨Nat.le_refl _⟩, ⟨by (with_reducible repeat (first | apply Kd.N_alloc | apply Kd.N_drewN | apply Kd.N_drew)); exact HO_12.out⟩, ⟨by (with_reducible repeat (first | apply Kd.N_alloc | apply Kd.N_drewN | apply Kd.N_drew)); exact HO_13.out⟩, ⟨by (with_reducible repeat (first | apply Kd.N_alloc | apply Kd.N_drewN | apply Kd.N_drew)); exact HO_14.out⟩, ⟨by repeat (first | (with_reducible first | exact HB.out | apply below_alloc | apply pw_below_drewN | apply below_drew1) | exact HB.out)⟩⟩
             case round =>
              clear H'
              try clear c1
              try clear c2
              try clear p2
              try clear c3
              try clear p3
              try clear q3
              try clear hx3
              try clear c4
              try clear c5
              try clear c6
              try clear p6
              try clear c7
              try clear c8
              try clear c11
              try clear c12
              try clear c26
              try clear c28
              try clear c28b0
              try clear c30
              try clear c31
              try clear c36
              try clear c36b0
              try clear c36b1
              try clear c36b2
              try clear c38
              try clear p38
              try clear q38
              try clear hx38
              try clear p39
              try clear q39
              try clear hx39
              try clear c45
              try clear c46
              try clear c46b0
              try clear c47
              try clear c47b0
              try clear c48
              try clear c48b0
              try clear c49
              try clear c49b0
              try clear c51
              try clear c53
              try clear c53b0
              try clear c54
              try clear c54b0
              try clear c55
              try clear c55b0
              try clear c56
              try clear c56b0
              try clear c59
              try clear c59b0
              try clear c60
              try clear c60b0
              try clear c62
              try clear c63
              try clear c64
              try clear p64
              try clear c66
              try clear c74
              try clear c76
              try clear hx380_0
              try clear hx380_1
              try clear hx381_0
              try clear hx381_1
              try clear hx382_0
              try clear hx384_0
              try clear hx384_1
              try clear hx385_0
              try clear hx385_1
              try clear hx386_0
              try clear hx390_0
              try clear p2
              try clear p3
              try clear p38
              try clear p380
              try clear p381
              try clear p382
              try clear p384
              try clear p385
              try clear p386
              try clear p39
              try clear p390
              try clear p6
              try clear p64
              try clear q3
              try clear q38
              try clear q380
              try clear q381
              try clear q382
              try clear q384
              try clear q385
              try clear q386
              try clear q39
              try clear q390
              obtain ⟨x15_5, rfl, HA, HK5, HO_12, HO_13, HO_14, HB⟩ := hrel
              cases gk with
              | zero => exact absurd HA.out (by simp [laws_FnGroups.l4])
              | succ k5 =>
               have H := HA.out
               clear HA
               simp only [laws_FnGroups.l4] at H
               by_cases c78 : x15_5 < (t392.length : Int)
               ·rw [if_pos c78] at H
                have c78b0 : decide (x15_5 < (t392.length : Int)) = true := decide_eq_true c78
                clear c78
                obtain ⟨t404, A790, H⟩ := bnd_ H
                have A79 := Aside0.mk A790
                clear A790
                obtain ⟨t407, A800, H⟩ := bnd_ H
                have A80 := Aside0.mk A800
                clear A800
                have H' := Aside0.mk H
                clear H
                go_wp2_with (first | ((with_reducible refine gate_callee (f := 65) rfl ?_); refine goesL_ (some 152) rfl rfl Try.func65 (by kernel_rfl) rfl #[.slice Ao70 t392.length co70, .int .i64 x15_5] rfl (by (try simp only [List.map_toArray, List.map_cons, List.map_nil]); first | done | rfl | (simp only [List.length_drop, List.length_take]; rfl)) ?_; (with_reducible refine (spec_UsersOf.calls k5 _ _ t392 x15_5 t404 _ ?side1 ?side2 A79.out).mono ?_); (case side1 => repeat (first | exact (Kd.N_reads' HO_12.out).2.2 | (with_reducible refine Kd.C_alloc ?_ _) | (with_reducible refine Kd.C_drewN ?_ _) | (with_reducible refine Kd.C_drew ?_))); (case side2 => exact (Kd.N_reads' HO_12.out).2.1); rintro e w81 ⟨v405, rfl, ho0, hb⟩; refine ⟨_, rfl, ?_⟩; have n0_ := Aside0.mk (Kd.N_elder' (by (with_reducible repeat (first | apply Kd.N_alloc | apply Kd.N_drewN | apply Kd.N_drew)); exact HO_12.out) (Kd.R_base ho0) hb); have n1_ := Aside0.mk (Kd.N_elder' (by (with_reducible repeat (first | apply Kd.N_alloc | apply Kd.N_drewN | apply Kd.N_drew)); exact HO_13.out) (Kd.R_base ho0) hb); have n2_ := Aside0.mk (Kd.N_elder' (by (with_reducible repeat (first | apply Kd.N_alloc | apply Kd.N_drewN | apply Kd.N_drew)); exact HO_14.out) (Kd.R_base ho0) hb); have n3_ := Aside0.mk (Kd.R_lower ho0 (below_size (by repeat (first | (with_reducible first | exact HB.out | apply below_alloc | apply pw_below_drewN | apply below_drew1) | exact HB.out)))); have n4_ := Aside0.mk (below_step (by repeat (first | (with_reducible first | exact HB.out | apply below_alloc | apply pw_below_drewN | apply below_drew1) | exact HB.out)) hb); clear HO_12; clear HO_13; clear HO_14; clear HB; have HO_12 := n0_; have HO_13 := n1_; have HO_14 := n2_; have HO406 := n3_; have HB := n4_; clear n0_ n1_ n2_ n3_ n4_; (try clear hb); (try clear hb2); (try clear hk); (try clear hi); (try clear ho0); obtain ⟨Ao82, co82, eo82⟩ := Kd.N_slice HO_14.out; subst eo82) | ((with_reducible refine gate_callee (f := 63) rfl ?_); refine goesL_ (some 155) rfl rfl Try.func63 (by kernel_rfl) rfl #[.slice Ao82 t398.length co82, .int .i64 x15_5] rfl (by (try simp only [List.map_toArray, List.map_cons, List.map_nil]); first | done | rfl | (simp only [List.length_drop, List.length_take]; rfl)) ?_; (with_reducible refine (impl_UsersOf.calls k5 _ _ t398 x15_5 t407 _ ?side1 ?side2 A80.out).mono ?_); (case side1 => repeat (first | exact (Kd.N_reads' HO_14.out).2.2 | (with_reducible refine Kd.C_alloc ?_ _) | (with_reducible refine Kd.C_drewN ?_ _) | (with_reducible refine Kd.C_drew ?_))); (case side2 => exact (Kd.N_reads' HO_14.out).2.1); rintro e w83 ⟨v408, rfl, ho0, hb⟩; refine ⟨_, rfl, ?_⟩; have n0_ := Aside0.mk (Kd.N_elder' (by (with_reducible repeat (first | apply Kd.N_alloc | apply Kd.N_drewN | apply Kd.N_drew)); exact HO_12.out) (Kd.R_base ho0) hb); have n1_ := Aside0.mk (Kd.N_elder' (by (with_reducible repeat (first | apply Kd.N_alloc | apply Kd.N_drewN | apply Kd.N_drew)); exact HO_13.out) (Kd.R_base ho0) hb); have n2_ := Aside0.mk (Kd.N_elder' (by (with_reducible repeat (first | apply Kd.N_alloc | apply Kd.N_drewN | apply Kd.N_drew)); exact HO_14.out) (Kd.R_base ho0) hb); have n3_ := Aside0.mk (Kd.R_elder' (by (with_reducible repeat (first | apply Kd.R_alloc | apply Kd.R_drewN | apply Kd.R_drew)); exact HO406.out) (Kd.R_base ho0) hb); have n4_ := Aside0.mk (Kd.R_lower (Kd.R_new' ho0 (Kd.R_lt (by (with_reducible repeat (first | apply Kd.R_alloc | apply Kd.R_drewN | apply Kd.R_drew)); exact HO406.out))) (below_size (by repeat (first | (with_reducible first | exact HB.out | apply below_alloc | apply pw_below_drewN | apply below_drew1) | exact HB.out)))); have n5_ := Aside0.mk (below_step (by repeat (first | (with_reducible first | exact HB.out | apply below_alloc | apply pw_below_drewN | apply below_drew1) | exact HB.out)) hb); clear HO_12; clear HO_13; clear HO_14; clear HO406; clear HB; have HO_12 := n0_; have HO_13 := n1_; have HO_14 := n2_; have HO406 := n3_; have HO409 := n4_; have HB := n5_; clear n0_ n1_ n2_ n3_ n4_ n5_; (try clear hb); (try clear hb2); (try clear hk); (try clear hi); (try clear ho0)))
                go_loopg [18] k5 (fun kq v18 w' => ∃ (x18_6 : Int), v18 = .int .i64 x18_6 ∧ Aside0 (laws_FnGroups.l5 kq t392 t393 t398 x15_5 t404 t407 x18_6 = some true) ∧ Aside0 (kq ≤ k5) ∧ Aside0 (Kd.N k95 95 w' w.heap.size (fun k_ => some k_ ≠ ((.slice Ao71 t393.length co71) : Value).ownBlock ∧ some k_ ≠ ((.slice Ao82 t398.length co82) : Value).ownBlock ∧ some k_ ≠ (v405 : Value).ownBlock ∧ some k_ ≠ (v408 : Value).ownBlock) (.slice Ao70 t392.length co70) t392) ∧ Aside0 (Kd.N k95 95 w' w.heap.size (fun k_ => some k_ ≠ ((.slice Ao70 t392.length co70) : Value).ownBlock ∧ some k_ ≠ ((.slice Ao82 t398.length co82) : Value).ownBlock ∧ some k_ ≠ (v405 : Value).ownBlock ∧ some k_ ≠ (v408 : Value).ownBlock) (.slice Ao71 t393.length co71) t393) ∧ Aside0 (Kd.N k95 95 w' w.heap.size (fun k_ => some k_ ≠ (v405 : Value).ownBlock ∧ some k_ ≠ (v408 : Value).ownBlock) (.slice Ao82 t398.length co82) t398) ∧ Aside0 (Kd.R (Kd.int .i64) 3 w' w.heap.size (fun k_ => some k_ ≠ (v408 : Value).ownBlock) v405 t404) ∧ Aside0 (Kd.R (Kd.int .i64) 3 w' w.heap.size (fun k_ => some k_ ≠ (v405 : Value).ownBlock) v408 t407) ∧ Aside0 (Below w.heap.size w w'))
                case atStart => exact ⟨(0), (by first | rfl | (simp; done) | (simp [*]; done)), H', ⟨Nat.le_refl _⟩, ⟨by (with_reducible repeat (first | apply Kd.N_alloc | apply Kd.N_drewN | apply Kd.N_drew)); exact Kd.N_mono HO_12.out (fun _ hk => ⟨hk.1.1.1, ⟨hk.1.1.2, ⟨hk.1.2, hk.2⟩⟩⟩)⟩, ⟨by (with_reducible repeat (first | apply Kd.N_alloc | apply Kd.N_drewN | apply Kd.N_drew)); exact Kd.N_mono HO_13.out (fun _ hk => ⟨hk.1.1.1, ⟨hk.1.1.2, ⟨hk.1.2, hk.2⟩⟩⟩)⟩, ⟨by (with_reducible repeat (first | apply Kd.N_alloc | apply Kd.N_drewN | apply Kd.N_drew)); exact Kd.N_mono HO_14.out (fun _ hk => ⟨hk.1.2, hk.2⟩)⟩, ⟨by (with_reducible repeat (first | apply Kd.R_alloc | apply Kd.R_drewN | apply Kd.R_drew)); exact Kd.R_mono HO406.out (fun _ hk => hk.2)⟩, ⟨by (with_reducible repeat (first | apply Kd.R_alloc | apply Kd.R_drewN | apply Kd.R_drew)); exact Kd.R_mono HO409.out (fun _ hk => hk.2)⟩, ⟨by repeat (first | (with_reducible first | exact HB.out | apply below_alloc | apply pw_below_drewN | apply below_drew1) | exact HB.out)⟩⟩
                case round =>
                 clear H'
                 try clear c1
                 try clear c2
                 try clear p2
                 try clear c3
                 try clear p3
                 try clear q3
                 try clear hx3
                 try clear c4
                 try clear c5
                 try clear c6
                 try clear p6
                 try clear c7
                 try clear c8
                 try clear c11
                 try clear c12
                 try clear c26
                 try clear c28
                 try clear c28b0
                 try clear c30
                 try clear c31
                 try clear c36
                 try clear c36b0
                 try clear c36b1
                 try clear c36b2
                 try clear c38
                 try clear p38
                 try clear q38
                 try clear hx38
                 try clear p39
                 try clear q39
                 try clear hx39
                 try clear c45
                 try clear c46
                 try clear c46b0
                 try clear c47
                 try clear c47b0
                 try clear c48
                 try clear c48b0
                 try clear c49
                 try clear c49b0
                 try clear c51
                 try clear c53
                 try clear c53b0
                 try clear c54
                 try clear c54b0
                 try clear c55
                 try clear c55b0
                 try clear c56
                 try clear c56b0
                 try clear c59
                 try clear c59b0
                 try clear c60
                 try clear c60b0
                 try clear c62
                 try clear c63
                 try clear c64
                 try clear p64
                 try clear c65
                 try clear c66
                 try clear c74
                 try clear c76
                 try clear c78
                 try clear c78b0
                 try clear hx380_0
                 try clear hx380_1
                 try clear hx381_0
                 try clear hx381_1
                 try clear hx382_0
                 try clear hx384_0
                 try clear hx384_1
                 try clear hx385_0
                 try clear hx385_1
                 try clear hx386_0
                 try clear hx390_0
                 try clear p2
                 try clear p3
                 try clear p38
                 try clear p380
                 try clear p381
                 try clear p382
                 try clear p384
                 try clear p385
                 try clear p386
                 try clear p39
                 try clear p390
                 try clear p6
                 try clear p64
                 try clear q3
                 try clear q38
                 try clear q380
                 try clear q381
                 try clear q382
                 try clear q384
                 try clear q385
                 try clear q386
                 try clear q39
                 try clear q390
                 obtain ⟨x18_6, rfl, HA, HK6, HO_12, HO_13, HO_14, HO_16, HO_17, HB⟩ := hrel
                 cases gk with
                 | zero => exact absurd HA.out (by simp [laws_FnGroups.l5])
                 | succ k6 =>
                  have H := HA.out
                  clear HA
                  simp only [laws_FnGroups.l5] at H
                  by_cases c84 : x18_6 < (t404.length : Int)
                  ·rw [if_pos c84] at H
                   have c84b0 : decide (x18_6 < (t404.length : Int)) = true := decide_eq_true c84
                   clear c84
                   by_cases c85 : 0 ≤ x18_6
                   ·rw [if_pos c85] at H
                    have c85b0 : decide (0 ≤ x18_6) = true := decide_eq_true c85
                    clear c85
                    obtain ⟨t411, A860, H⟩ := bnd_ H
                    have A86 := Aside0.mk A860
                    clear A860
                    by_cases c87 : t411 = true
                    ·subst c87
                     have H1 : (laws_FnGroups.l5 k6 t392 t393 t398 x15_5 t404 t407 (wrap64 (x18_6 + 1))) = some true := by first | rfl | (rw [if_pos rfl] at H; exact H)
                     clear H
                     have H := H1
                     clear H1
                     have H' := Aside0.mk H
                     clear H
                     obtain ⟨Ao88, co88, eo88⟩ := Kd.R_slice HO_16.out
                     subst eo88
                     have p410 : 0 ≤ (x18_6 : Int) := of_decide_eq_true (by first | (with_reducible assumption) | assumption)
                     have q410 : x18_6 < (t404.length : Int) := of_decide_eq_true (by first | (with_reducible assumption) | assumption)
                     obtain ⟨ad410, e410, hx410_0⟩ := Kd.at_int (Kd.R_reads' HO_16.out).2.2 x18_6 p410 q410
                     cases e410
                     replace p410 := eq_true p410
                     replace q410 := eq_true q410
                     obtain ⟨Ao89, co89, eo89⟩ := Kd.R_slice HO_17.out
                     subst eo89
                     go_wp2_with (first | ((with_reducible refine gate_callee (f := 64) rfl ?_); refine goesL_ (some 167) rfl rfl Try.func64 (by kernel_rfl) rfl #[.slice Ao89 t407.length co89, .int .i64 (rd t404 x18_6)] rfl (by (try simp only [List.map_toArray, List.map_cons, List.map_nil]); first | done | rfl | (simp only [List.length_drop, List.length_take]; rfl)) ?_; (with_reducible refine (laws_has.calls k6 _ _ t407 (rd t404 x18_6) true _ ?side1 ?side2 A86.out).mono ?_); (case side1 => repeat (first | exact (Kd.R_reads' HO_17.out).2.2 | (with_reducible refine Kd.C_alloc ?_ _) | (with_reducible refine Kd.C_drewN ?_ _) | (with_reducible refine Kd.C_drew ?_))); (case side2 => exact (Kd.R_reads' HO_17.out).2.1); rintro e w' ⟨rfl, ⟨nd, rfl⟩⟩; refine ⟨_, rfl, ?_⟩))
                     go_roundg k6
                     case measure => have := HJ5.out; have := HK2.out; have := HJ26.out; have := HJ67.out; have := HK5.out; have := HK6.out; omega
                     case rel => exact ⟨(wrap64 (x18_6 + 1)), (by first | rfl | (simp; done) | (simp [*]; done)), H', ⟨by have := HJ5.out; have := HK2.out; have := HJ26.out; have := HJ67.out; have := HK5.out; have := HK6.out; omega⟩, ⟨by (with_reducible repeat (first | apply Kd.N_alloc | apply Kd.N_drewN | apply Kd.N_drew)); exact HO_12.out⟩, ⟨by (with_reducible repeat (first | apply Kd.N_alloc | apply Kd.N_drewN | apply Kd.N_drew)); exact HO_13.out⟩, ⟨by (with_reducible repeat (first | apply Kd.N_alloc | apply Kd.N_drewN | apply Kd.N_drew)); exact HO_14.out⟩, ⟨by (with_reducible repeat (first | apply Kd.R_alloc | apply Kd.R_drewN | apply Kd.R_drew)); exact HO_16.out⟩, ⟨by (with_reducible repeat (first | apply Kd.R_alloc | apply Kd.R_drewN | apply Kd.R_drew)); exact HO_17.out⟩, ⟨by repeat (first | (with_reducible first | exact HB.out | apply below_alloc | apply pw_below_drewN | apply below_drew1) | exact HB.out)⟩⟩
                    ·replace c87 := Bool.eq_false_iff.mpr c87
                     subst c87
                     have H1 : (some false) = some true := by first | rfl | (rw [if_neg (show ¬ (false = true) by decide)] at H; exact H)
                     clear H
                     have H := H1
                     clear H1
                     exact absurd H (by simp)
                   ·rw [if_neg c85] at H
                    exact absurd H (by simp)
                  ·rw [if_neg c84] at H
                   have c84b0 : decide (x18_6 < (t404.length : Int)) = false := decide_eq_false c84
                   clear c84
                   have H' := Aside0.mk H
                   clear H
                   obtain ⟨Ao90, co90, eo90⟩ := Kd.R_slice HO_16.out
                   subst eo90
                   go_wp2
                   go_roundg k6
                   case measure => have := HJ5.out; have := HK2.out; have := HJ26.out; have := HJ67.out; have := HK5.out; have := HK6.out; omega
                   case rel => exact ⟨(wrap64 (x15_5 + 1)), (by first | rfl | (simp; done) | (simp [*]; done)), H', ⟨by have := HJ5.out; have := HK2.out; have := HJ26.out; have := HJ67.out; have := HK5.out; have := HK6.out; omega⟩, ⟨by (with_reducible repeat (first | apply Kd.N_alloc | apply Kd.N_drewN | apply Kd.N_drew)); exact Kd.N_mono HO_12.out (fun _ hk => ⟨hk.1, hk.2.1⟩)⟩, ⟨by (with_reducible repeat (first | apply Kd.N_alloc | apply Kd.N_drewN | apply Kd.N_drew)); exact Kd.N_mono HO_13.out (fun _ hk => ⟨hk.1, hk.2.1⟩)⟩, ⟨by (with_reducible repeat (first | apply Kd.N_alloc | apply Kd.N_drewN | apply Kd.N_drew)); exact Kd.N_mono HO_14.out (fun _ hk => trivial)⟩, ⟨by repeat (first | (with_reducible first | exact HB.out | apply below_alloc | apply pw_below_drewN | apply below_drew1) | exact HB.out)⟩⟩
               ·rw [if_neg c78] at H
                have c78b0 : decide (x15_5 < (t392.length : Int)) = false := decide_eq_false c78
                clear c78
                obtain ⟨t403, A910, H⟩ := bnd_ H
                have A91 := Aside0.mk A910
                clear A910
                by_cases c92 : t403 = true
                ·subst c92
                 have H1 : (if (t398.length : Int) = (t392.length : Int) then (some true) else (some ((t398.length : Int) == (t393.length : Int)))) = some true := by first | rfl | (rw [if_pos rfl] at H; exact H)
                 clear H
                 have H := H1
                 clear H1
                 by_cases c93 : (t398.length : Int) = (t392.length : Int)
                 ·rw [if_pos c93] at H
                  have c93b0 : ((t398.length : Int) == (t392.length : Int)) = true := beq_iff_eq.mpr c93
                  have c93b1 : ((t398.length : Int) != (t392.length : Int)) = false := bne_eq_false_iff_eq.mpr c93
                  have c93b2 : (t398.length == t392.length) = true := by first | simpa using c93 | (simp at c93 ⊢; omega)
                  clear c93
                  clear H
                  obtain ⟨Ao94, co94, eo94⟩ := Kd.N_slice HO_14.out
                  subst eo94
                  go_wp2_with (first | ((with_reducible refine gate_callee (f := 62) rfl ?_); refine goesL_ (some 170) rfl rfl Try.func62 (by kernel_rfl) rfl #[.slice Ao94 t398.length co94] rfl (by (try simp only [List.map_toArray, List.map_cons, List.map_nil]); first | done | rfl | (simp only [List.length_drop, List.length_take]; rfl)) ?_; (with_reducible refine (spec_GroupsOk.calls k5 _ _ t398 true _ ?side1 ?side2 A91.out).mono ?_); (case side1 => repeat (first | exact (Kd.N_reads' HO_14.out).2.2 | (with_reducible refine Kd.C_alloc ?_ _) | (with_reducible refine Kd.C_drewN ?_ _) | (with_reducible refine Kd.C_drew ?_))); (case side2 => exact (Kd.N_reads' HO_14.out).2.1); rintro e w' ⟨rfl, ⟨nd, rfl⟩⟩; refine ⟨_, rfl, ?_⟩))
                  go_ret
                  exact ⟨by first | rfl | (simp [errW_none, errW_some] <;> rfl) | (simp [*, errW_none, errW_some] <;> rfl), by repeat (first | (with_reducible first | exact HB.out | apply below_alloc | apply pw_below_drewN | apply below_drew1) | exact HB.out)⟩
                 ·rw [if_neg c93] at H
                  have c93b0 : ((t398.length : Int) == (t392.length : Int)) = false := beq_eq_false_iff_ne.mpr c93
                  have c93b1 : ((t398.length : Int) != (t392.length : Int)) = true := bne_iff_ne.mpr c93
                  have c93b2 : (t398.length == t392.length) = false := by first | simpa using c93 | (simp at c93 ⊢; omega)
                  have HR_ := Option.some.inj H
                  clear H
                  obtain ⟨Ao95, co95, eo95⟩ := Kd.N_slice HO_14.out
                  subst eo95
                  go_wp2_with (first | ((with_reducible refine gate_callee (f := 62) rfl ?_); refine goesL_ (some 170) rfl rfl Try.func62 (by kernel_rfl) rfl #[.slice Ao95 t398.length co95] rfl (by (try simp only [List.map_toArray, List.map_cons, List.map_nil]); first | done | rfl | (simp only [List.length_drop, List.length_take]; rfl)) ?_; (with_reducible refine (spec_GroupsOk.calls k5 _ _ t398 true _ ?side1 ?side2 A91.out).mono ?_); (case side1 => repeat (first | exact (Kd.N_reads' HO_14.out).2.2 | (with_reducible refine Kd.C_alloc ?_ _) | (with_reducible refine Kd.C_drewN ?_ _) | (with_reducible refine Kd.C_drew ?_))); (case side2 => exact (Kd.N_reads' HO_14.out).2.1); rintro e w' ⟨rfl, ⟨nd, rfl⟩⟩; refine ⟨_, rfl, ?_⟩))
                  go_ret
                  exact ⟨by first | rfl | (simp [errW_none, errW_some] <;> rfl) | (simp [*, errW_none, errW_some] <;> rfl), by repeat (first | (with_reducible first | exact HB.out | apply below_alloc | apply pw_below_drewN | apply below_drew1) | exact HB.out)⟩
                ·replace c92 := Bool.eq_false_iff.mpr c92
                 subst c92
                 have H1 : (some false) = some true := by first | rfl | (rw [if_neg (show ¬ (false = true) by decide)] at H; exact H)
                 clear H
                 have H := H1
                 clear H1
                 exact absurd H (by simp)

/-- THE ONE PURE STATEMENT of laws_FnGroups: yours. -/
def laws_FnGroups.Pure : Prop := ∀ (l0 : List Int), l0.length ≤ maxLen → l0.length * 1 ≤ 140737488351232 → (∀ x ∈ l0, (Lit.int .u8 x).wf = true) → ∃ k, laws_FnGroups.f k l0 = some true
theorem laws_FnGroups.walk (P : laws_FnGroups.Pure) (a0 : Option Addr) (len0 cap0 : Nat) (z0 : List Int) (w : World) (w0 : (a0 = none ∧ len0 = 0 ∧ cap0 = 0 ∧ z0 = []) ∨ ∃ x, a0 = some x ∧ len0 ≤ cap0 ∧ cap0 ≤ maxLen ∧ z0.length = cap0 ∧ (∀ i, i < z0.length → w.cell? (x.add i) = some (.int .u8 (z0.getD i 0))) ∧ ∀ n ∈ z0, (Lit.int .u8 n).wf = true) (y0 : len0 * 1 ≤ 140737488351232) :
  Calls Try.prog 8 #[.slice a0 len0 cap0] w fun e w' => e = .returned (.bool true) ∧ Below w.heap.size w w' := by
 obtain ⟨l0, rfl, hr0, hm0, hw0, hc0⟩ := ReadsInt.ofRowC w0
 obtain ⟨k, h⟩ := P l0 hm0 y0 hw0
 refine (laws_FnGroups.calls k _ _ l0 w (Kd.C_of_reads (d := (0 : Int)) (h1 := fun _ => rfl) hr0) hc0 h).mono ?_
 rintro e w' ⟨rfl, hd⟩
 exact ⟨rfl, hd⟩

end Go.Proofs.Ytbgfkpagkhofpaa.PFnGroups
