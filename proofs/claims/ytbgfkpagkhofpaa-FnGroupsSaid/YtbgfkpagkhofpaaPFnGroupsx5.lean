-- Written by a program of this session: a Go function told as a Lean function, and the proof.
import Derived.Test.YtbgfkpagkhofpaaPFnGroupsx0
import Derived.Test.YtbgfkpagkhofpaaPFnGroupsx4
namespace Go.Proofs.Ytbgfkpagkhofpaa.PFnGroups
open Go.RowKit Go.Proofs.YtbgfkpagkhofpaaW.PrintWords Go.Proofs.YtbgfkpagkhofpaaW.PrintLast Go.Proofs.YtbgfkpagkhofpaaW.PrintMore
attribute [local go_sem] max2_int min2_int max_two min_two max_three min_three max_four min_four   -- for this text's walks alone
set_option linter.unusedVariables false
set_option linter.unusedSimpArgs false

/-! ### spec_l25Some: function 137 -/
mutual
def spec_l25Some.l0 : Nat → List (S95) → Int → Int → List Int → Int → Int → Option ((List (S95)) × Int × Int)
 | 0, _, _, _, _, _, _ => none
 | k + 1, x3, x4, x5, x1000, x1001, x1002 => if x5 < x4 then (spec_l25Some.l1 k x3 x4 x5 0 x1000 x1001 x1002 ([] : List Int)) else (if x4 > 0 then ((spec_l1Once.f x1000 x1001 x1002 12).bind fun bt186 => (spec_l25Some.j3 k x3 x4 bt186.1 x1000 bt186.2.1 bt186.2.2)) else (spec_l25Some.j3 k x3 x4 false x1000 x1001 x1002))
def spec_l25Some.l1 : Nat → List (S95) → Int → Int → Int → List Int → Int → Int → List Int → Option ((List (S95)) × Int × Int)
 | 0, _, _, _, _, _, _, _, _ => none
 | k + 1, x3, x4, x5, x7, x1000, x1001, x1002, x171000 => if x7 < 5 then ((spec_l1Once.f x1000 x1001 x1002 3).bind fun bt171 => (if bt171.1 = true then (if x171000.length < 17592186044416 then (spec_l25Some.l1 k x3 x4 x5 (wrap64 (x7 + 1)) x1000 bt171.2.1 bt171.2.2 (x171000 ++ [x7])) else (none)) else (spec_l25Some.l1 k x3 x4 x5 (wrap64 (x7 + 1)) x1000 bt171.2.1 bt171.2.2 x171000))) else (spec_l25Some.l2 k x3 x4 x5 0 x1000 x1001 x1002 x171000 ([] : List Int))
def spec_l25Some.l2 : Nat → List (S95) → Int → Int → Int → List Int → Int → Int → List Int → List Int → Option ((List (S95)) × Int × Int)
 | 0, _, _, _, _, _, _, _, _, _ => none
 | k + 1, x3, x4, x5, x8, x1000, x1001, x1002, x171000, x171001 => if x8 < x4 then ((spec_l1Once.f x1000 x1001 x1002 5).bind fun bt177 => (if bt177.1 = true then (if x171001.length < 17592186044416 then (spec_l25Some.l2 k x3 x4 x5 (wrap64 (x8 + 1)) x1000 bt177.2.1 bt177.2.2 x171000 (x171001 ++ [x8])) else (none)) else (spec_l25Some.l2 k x3 x4 x5 (wrap64 (x8 + 1)) x1000 bt177.2.1 bt177.2.2 x171000 x171001))) else (if x3.length < 2932031007402 then (spec_l25Some.l0 k (x3 ++ [(⟨x171000, x171001⟩ : S95)]) x4 (wrap64 (x5 + 1)) x1000 x1001 x1002) else (none))
def spec_l25Some.j3 : Nat → List (S95) → Int → Bool → List Int → Int → Int → Option ((List (S95)) × Int × Int)
 | 0, _, _, _, _, _, _ => none
 | k + 1, x3, x4, x52, x1000, x1001, x1002 => if x52 = true then (if 0 < (x3.length : Int) then ((spec_l1Below.f x1000 x1001 x1002 8).bind fun bt190 => (if ((rd_T95 x3 0).f1).length < 17592186044416 then (spec_l25Some.j4 k (x3.set (0 : Int).toNat (⟨(rd_T95 x3 0).f0, (((rd_T95 x3 0).f1) ++ [bt190.1])⟩ : S95)) x4 x1000 bt190.2.1 bt190.2.2) else (none))) else (none)) else (spec_l25Some.j4 k x3 x4 x1000 x1001 x1002)
def spec_l25Some.j4 : Nat → List (S95) → Int → List Int → Int → Int → Option ((List (S95)) × Int × Int)
 | 0, _, _, _, _, _ => none
 | k + 1, x3, x4, x1000, x1001, x1002 => if x4 > 0 then ((spec_l1Once.f x1000 x1001 x1002 12).bind fun bt197 => (if bt197.1 = true then (if 0 < (x3.length : Int) then ((spec_l1PickInt.f x1000 bt197.2.1 bt197.2.2 (([30, 31, 0] : List Int))).bind fun bt204 => (if ((rd_T95 x3 0).f0).length < 17592186044416 then (some ((x3.set (0 : Int).toNat (⟨(((rd_T95 x3 0).f0) ++ [bt204.1]), (rd_T95 x3 0).f1⟩ : S95)), bt204.2.1, bt204.2.2)) else (none))) else (none)) else (some (x3, bt197.2.1, bt197.2.2)))) else (some (x3, x1001, x1002))
end
def spec_l25Some.f (k : Nat) (s0_0 : List Int) (s0_1 : Int) (s0_2 : Int) : Option ((List (S95)) × Int × Int) := (spec_l1Below.f s0_0 s0_1 s0_2 6).bind fun bt167 => (spec_l25Some.l0 k (([] : List (S95))) bt167.1 0 s0_0 bt167.2.1 bt167.2.2)
theorem spec_l25Some.mono_l : ∀ k, (∀ y0 y1 y2 y3 y4 y5, LeO (spec_l25Some.l0 k y0 y1 y2 y3 y4 y5) (spec_l25Some.l0 (k + 1) y0 y1 y2 y3 y4 y5)) ∧ (∀ y0 y1 y2 y3 y4 y5 y6 y7, LeO (spec_l25Some.l1 k y0 y1 y2 y3 y4 y5 y6 y7) (spec_l25Some.l1 (k + 1) y0 y1 y2 y3 y4 y5 y6 y7)) ∧ (∀ y0 y1 y2 y3 y4 y5 y6 y7 y8, LeO (spec_l25Some.l2 k y0 y1 y2 y3 y4 y5 y6 y7 y8) (spec_l25Some.l2 (k + 1) y0 y1 y2 y3 y4 y5 y6 y7 y8)) ∧ (∀ y0 y1 y2 y3 y4 y5, LeO (spec_l25Some.j3 k y0 y1 y2 y3 y4 y5) (spec_l25Some.j3 (k + 1) y0 y1 y2 y3 y4 y5)) ∧ (∀ y0 y1 y2 y3 y4, LeO (spec_l25Some.j4 k y0 y1 y2 y3 y4) (spec_l25Some.j4 (k + 1) y0 y1 y2 y3 y4))
 | 0 => ⟨fun _ _ _ _ _ _ r h => by simp [spec_l25Some.l0] at h, fun _ _ _ _ _ _ _ _ r h => by simp [spec_l25Some.l1] at h, fun _ _ _ _ _ _ _ _ _ r h => by simp [spec_l25Some.l2] at h, fun _ _ _ _ _ _ r h => by simp [spec_l25Some.j3] at h, fun _ _ _ _ _ r h => by simp [spec_l25Some.j4] at h⟩
 | k + 1 => by
  obtain ⟨ih0, ih1, ih2, ih3, ih4⟩ := spec_l25Some.mono_l k
  refine ⟨?_, ?_, ?_, ?_, ?_⟩
  ·intro y0 y1 y2 y3 y4 y5
   unfold spec_l25Some.l0
   repeat' first
   | (with_reducible exact ih0 _ _ _ _ _ _)
   | (with_reducible exact ih1 _ _ _ _ _ _ _ _)
   | (with_reducible exact ih2 _ _ _ _ _ _ _ _ _)
   | (with_reducible exact ih3 _ _ _ _ _ _)
   | (with_reducible exact ih4 _ _ _ _ _)
   | (with_reducible exact LeO.refl _)
   | (with_reducible exact LeO.none _)
   | (with_reducible refine LeO.ite ?_ ?_)
   | (with_reducible refine LeO.bind ?_ (fun _ => ?_))
   | exact ih0 _ _ _ _ _ _
   | exact ih1 _ _ _ _ _ _ _ _
   | exact ih2 _ _ _ _ _ _ _ _ _
   | exact ih3 _ _ _ _ _ _
   | exact ih4 _ _ _ _ _
   | exact LeO.none _
   | refine LeO.ite ?_ ?_
   | refine LeO.bind ?_ (fun _ => ?_)
  ·intro y0 y1 y2 y3 y4 y5 y6 y7
   unfold spec_l25Some.l1
   repeat' first
   | (with_reducible exact ih0 _ _ _ _ _ _)
   | (with_reducible exact ih1 _ _ _ _ _ _ _ _)
   | (with_reducible exact ih2 _ _ _ _ _ _ _ _ _)
   | (with_reducible exact ih3 _ _ _ _ _ _)
   | (with_reducible exact ih4 _ _ _ _ _)
   | (with_reducible exact LeO.refl _)
   | (with_reducible exact LeO.none _)
   | (with_reducible refine LeO.ite ?_ ?_)
   | (with_reducible refine LeO.bind ?_ (fun _ => ?_))
   | exact ih0 _ _ _ _ _ _
   | exact ih1 _ _ _ _ _ _ _ _
   | exact ih2 _ _ _ _ _ _ _ _ _
   | exact ih3 _ _ _ _ _ _
   | exact ih4 _ _ _ _ _
   | exact LeO.none _
   | refine LeO.ite ?_ ?_
   | refine LeO.bind ?_ (fun _ => ?_)
  ·intro y0 y1 y2 y3 y4 y5 y6 y7 y8
   unfold spec_l25Some.l2
   repeat' first
   | (with_reducible exact ih0 _ _ _ _ _ _)
   | (with_reducible exact ih1 _ _ _ _ _ _ _ _)
   | (with_reducible exact ih2 _ _ _ _ _ _ _ _ _)
   | (with_reducible exact ih3 _ _ _ _ _ _)
   | (with_reducible exact ih4 _ _ _ _ _)
   | (with_reducible exact LeO.refl _)
   | (with_reducible exact LeO.none _)
   | (with_reducible refine LeO.ite ?_ ?_)
   | (with_reducible refine LeO.bind ?_ (fun _ => ?_))
   | exact ih0 _ _ _ _ _ _
   | exact ih1 _ _ _ _ _ _ _ _
   | exact ih2 _ _ _ _ _ _ _ _ _
   | exact ih3 _ _ _ _ _ _
   | exact ih4 _ _ _ _ _
   | exact LeO.none _
   | refine LeO.ite ?_ ?_
   | refine LeO.bind ?_ (fun _ => ?_)
  ·intro y0 y1 y2 y3 y4 y5
   unfold spec_l25Some.j3
   repeat' first
   | (with_reducible exact ih0 _ _ _ _ _ _)
   | (with_reducible exact ih1 _ _ _ _ _ _ _ _)
   | (with_reducible exact ih2 _ _ _ _ _ _ _ _ _)
   | (with_reducible exact ih3 _ _ _ _ _ _)
   | (with_reducible exact ih4 _ _ _ _ _)
   | (with_reducible exact LeO.refl _)
   | (with_reducible exact LeO.none _)
   | (with_reducible refine LeO.ite ?_ ?_)
   | (with_reducible refine LeO.bind ?_ (fun _ => ?_))
   | exact ih0 _ _ _ _ _ _
   | exact ih1 _ _ _ _ _ _ _ _
   | exact ih2 _ _ _ _ _ _ _ _ _
   | exact ih3 _ _ _ _ _ _
   | exact ih4 _ _ _ _ _
   | exact LeO.none _
   | refine LeO.ite ?_ ?_
   | refine LeO.bind ?_ (fun _ => ?_)
  ·intro y0 y1 y2 y3 y4
   unfold spec_l25Some.j4
   repeat' first
   | (with_reducible exact ih0 _ _ _ _ _ _)
   | (with_reducible exact ih1 _ _ _ _ _ _ _ _)
   | (with_reducible exact ih2 _ _ _ _ _ _ _ _ _)
   | (with_reducible exact ih3 _ _ _ _ _ _)
   | (with_reducible exact ih4 _ _ _ _ _)
   | (with_reducible exact LeO.refl _)
   | (with_reducible exact LeO.none _)
   | (with_reducible refine LeO.ite ?_ ?_)
   | (with_reducible refine LeO.bind ?_ (fun _ => ?_))
   | exact ih0 _ _ _ _ _ _
   | exact ih1 _ _ _ _ _ _ _ _
   | exact ih2 _ _ _ _ _ _ _ _ _
   | exact ih3 _ _ _ _ _ _
   | exact ih4 _ _ _ _ _
   | exact LeO.none _
   | refine LeO.ite ?_ ?_
   | refine LeO.bind ?_ (fun _ => ?_)
theorem spec_l25Some.mono : ∀ a0 a1 a2 k, LeO (spec_l25Some.f k a0 a1 a2) (spec_l25Some.f (k + 1) a0 a1 a2) := by
 intro a0 a1 a2 k
 obtain ⟨ih0, ih1, ih2, ih3, ih4⟩ := spec_l25Some.mono_l k
 unfold spec_l25Some.f
 repeat' first
   | (with_reducible exact ih0 _ _ _ _ _ _)
   | (with_reducible exact ih1 _ _ _ _ _ _ _ _)
   | (with_reducible exact ih2 _ _ _ _ _ _ _ _ _)
   | (with_reducible exact ih3 _ _ _ _ _ _)
   | (with_reducible exact ih4 _ _ _ _ _)
   | (with_reducible exact LeO.refl _)
   | (with_reducible exact LeO.none _)
   | (with_reducible refine LeO.ite ?_ ?_)
   | (with_reducible refine LeO.bind ?_ (fun _ => ?_))
   | exact ih0 _ _ _ _ _ _
   | exact ih1 _ _ _ _ _ _ _ _
   | exact ih2 _ _ _ _ _ _ _ _ _
   | exact ih3 _ _ _ _ _ _
   | exact ih4 _ _ _ _ _
   | exact LeO.none _
   | refine LeO.ite ?_ ?_
   | refine LeO.bind ?_ (fun _ => ?_)
def spec_l25Some.T19 : Bool × List (List Nat × List Nat) := (true, [([], []), ([], []), ([1], [1]), ([2], [2]), ([3], [3]), ([], []), ([5], [5]), ([6], [6]), ([4, 7, 6], [4, 7]), ([0, 0, 1, 2, 3, 4, 5, 6, 7, 8], [0]), ([9, 0, 1, 2, 3, 4, 5, 6, 7, 8], [9]), ([10, 8, 8, 0, 1, 2, 3, 4, 5, 6, 7, 8], [8, 10])])
def spec_l25Some.B19 : List Nat := [0, 0, 2, 6, 14, 0, 32, 96, 254, 511, 1023, 2047]
theorem spec_l25Some.tab19 : rtab .any (opsOf Try.f137 19) = spec_l25Some.T19 := by kernel_rfl
theorem spec_l25Some.bits19 : waitsOk spec_l25Some.T19.2 spec_l25Some.B19 = true := by kernel_rfl
def spec_l25Some.T21 : Bool × List (List Nat × List Nat) := (true, [([], []), ([], []), ([1], [1]), ([2], [2]), ([3], [3]), ([], []), ([], []), ([5, 6], [5, 6]), ([7], [7]), ([4, 8, 7], [4, 8]), ([0, 0, 1, 2, 3, 4, 5, 6, 7, 8, 9], [0]), ([10, 0, 1, 2, 3, 4, 5, 6, 7, 8, 9], [10]), ([11, 9, 9, 0, 1, 2, 3, 4, 5, 6, 7, 8, 9], [9, 11])])
def spec_l25Some.B21 : List Nat := [0, 0, 2, 6, 14, 0, 0, 96, 224, 510, 1023, 2047, 4095]
theorem spec_l25Some.tab21 : rtab .any (opsOf Try.f137 21) = spec_l25Some.T21 := by kernel_rfl
theorem spec_l25Some.bits21 : waitsOk spec_l25Some.T21.2 spec_l25Some.B21 = true := by kernel_rfl
/-- A struct of two rows that lie apart. -/
def apc (cs : List Value) : Prop := ∀ a b k, cs = [a, b] → b.ownBlock = some k → some k ≠ a.ownBlock
def kA : Kd S95 where
 sz := 2
 E := k95.E
 K := k95.K
 M := fun w base ok x cs => k95.M w base ok x cs ∧ apc cs
 K_len := fun h => k95.K_len h
 K_one := fun h => k95.K_one h
 K_below := fun hb h => k95.K_below hb h
 K_of_M := fun h => k95.K_of_M h.1
 M_mono := fun hok h => ⟨k95.M_mono hok h.1, h.2⟩
 M_bound := fun h => ⟨k95.M_bound h.1, h.2⟩
 M_move := fun hm h => ⟨k95.M_move hm h.1, h.2⟩
 M_lower := fun hb h => ⟨k95.M_lower hb h.1, h.2⟩
theorem kA_C {w : World} {A : Option Addr} {n : Nat} {xs : List S95} (h : Kd.C kA w A n xs) : Kd.C k95 w A n xs := h
theorem ap_mk {a b : Value} (h : ∀ k, b.ownBlock = some k → some k ≠ a.ownBlock) : apc [a, b] := fun a' b' k e hb => by
 injection e with e1 e2
 injection e2 with e2 _
 subst e1 e2
 exact h k hb
theorem ap_of {a b : Value} (h : apc [a, b]) : ∀ k, b.ownBlock = some k → some k ≠ a.ownBlock := fun k hk => h a b k rfl hk
theorem ap_sym {a b : Value} (h : ∀ k, b.ownBlock = some k → some k ≠ a.ownBlock) : ∀ k, a.ownBlock = some k → some k ≠ b.ownBlock := fun k hk e => h k e.symm hk.symm
theorem ap_new {a b b1 : Value} {n : Nat} (hat : b1.ownBlock = b.ownBlock ∨ ∃ g, b1.ownBlock = some g ∧ n ≤ g) (h : ∀ k, b.ownBlock = some k → some k ≠ a.ownBlock) (hl : ∀ k, a.ownBlock = some k → k < n) : ∀ k, b1.ownBlock = some k → some k ≠ a.ownBlock := fun k hk e => by
 rcases hat with hat | ⟨g, hg, hn⟩
 ·exact h k (hat.symm.trans hk) e
 ·have h1 := hl k e.symm
  rw [hk] at hg
  injection hg with hg
  omega
theorem kA_mk {w : World} {base : Nat} {ok : Nat → Prop} {x : S95} {cs : List Value} (h : k95.M w base ok x cs) (ha : apc cs) : kA.M w base ok x cs := ⟨h, ha⟩
theorem kA_S {e : Nat} {w : World} {base : Nat} {ok : Nat → Prop} {v : Value} {xs : List S95} (h : Kd.S kA e w base ok v xs) : Kd.S k95 e w base ok v xs := by
 obtain ⟨f, h0, inner, ho, hr⟩ := h
 exact ⟨f, h0, inner, ho, hr.imp_ (fun _ _ hp => hp.1)⟩
set_option maxHeartbeats 8000000 in
set_option maxRecDepth 100000 in
theorem spec_l25Some.calls (k : Nat) (g : Nat) (s0_0 : List Int) (s0_1 : Int) (s0_2 : Int) (r1 : List (S95)) (r2 : Int) (r3 : Int) (w0 w : World) (hI : IsS194 w0 w g s0_0 s0_1 s0_2) (hB : Below w0.heap.size w0 w) (h : spec_l25Some.f k s0_0 s0_1 s0_2 = some (r1, r2, r3)) :
  Calls Try.prog 137 #[.pointer (some ⟨g, 0, none⟩)] w fun e w' => ∃ v0_ : Value, e = .returned (v0_) ∧ Kd.S k95 95 w' w.heap.size (fun _ => True) v0_ r1 ∧ IsS194 w0 w' g s0_0 r2 r3 ∧ Below w0.heap.size w0 w' ∧ KeepBut w w' g none := by
 have hu95 := Try.underlying95
 have HI0 := Aside0.mk hI
 have HK := Aside0.mk (KeepBut.refl w g none)
 have HL := Aside0.mk hB.size
 clear hI
 have HW0 := Aside0.mk hB.size
 have HB := Aside0.mk hB
 clear hB
 have H : ((spec_l1Below.f s0_0 s0_1 s0_2 6).bind fun bt167 => (spec_l25Some.l0 k (([] : List (S95))) bt167.1 0 s0_0 bt167.2.1 bt167.2.2)) = some (r1, r2, r3) := h
 clear h
 obtain ⟨y164, hy164⟩ : ∃ y_ : List (S95), y_ = (([] : List (S95))) := ⟨_, rfl⟩
 replace H : ((spec_l1Below.f s0_0 s0_1 s0_2 6).bind fun bt167 => (spec_l25Some.l0 k y164 bt167.1 0 s0_0 bt167.2.1 bt167.2.2)) = some (r1, r2, r3) := by first | (rw [hy164]; with_reducible exact H) | (have H2_ := (Option.bind_some _ _).symm.trans H; rw [hy164]; with_reducible exact H2_) | (have H2_ := (Option.bind_some _ _).symm.trans H; with_reducible exact H2_) | with_reducible exact H | (rw [hy164]; exact H) | exact H
 have Ny164 := Aside0.mk hy164
 clear hy164
 replace H := Option.bind_eq_some_iff.mp H
 obtain ⟨⟨t167, t168, t169⟩, A20, H⟩ := H
 replace H : (spec_l25Some.l0 k y164 t167 0 s0_0 t168 t169) = some (r1, r2, r3) := H
 have A2 := Aside0.mk A20
 clear A20
 have H' := Aside0.mk H
 clear H
 go_enter Try.func137, Try.ntmps137
 go_wp2_with (first | ((with_reducible refine gate_dst (N := 9) rfl ?_); refine Kd.S_lit kA _ 95 ?hg (N := 9) ?hd (xs := ([] : List (S95))) (inner := []) (ok := fun _ => True) (okp := fun _ => True) ?hr ?hp (fun _ hk => hk) trivial (Below.refl _ _) (Nat.le_refl _) (by simp) ?_; (case hd => rfl); (case hg => rfl); (case hr => first | (go_simp; done) | (go_simp; rfl)); (case hp => exact (Reps.none _ _)); intro v165 w3 ho4 hb hg_ hnew_; clear hg_ hnew_; (first | rw [← Ny164.out] at ho4 | (simp only [Int.reduceToNat] at ho4; rw [← Ny164.out] at ho4)); have n0_ := Aside0.mk (Kd.S_lower ho4 (keep_size (w := w) (g := g) (row := none) (by repeat (first | (with_reducible first | exact HK.out | apply KeepBut.set_ | apply keep_drewN | apply keep_drew | apply keep_alloc) | exact HK.out)))); have n1_ := Aside0.mk (IsS194.below (by repeat (first | (with_reducible first | exact HI0.out | apply IsS194.alloc | apply IsS194.drewN | apply IsS194.drew | apply IsS194.set_1 | apply IsS194.set_2) | exact HI0.out)) hb); have n2_ := Aside0.mk (KeepBut.trans (by repeat (first | (with_reducible first | exact HK.out | apply KeepBut.set_ | apply keep_drewN | apply keep_drew | apply keep_alloc) | exact HK.out)) (KeepBut.of_below hb g none) (.inl rfl)); have n3_ := Aside0.mk (below_step (by repeat (first | (with_reducible first | exact HB.out | apply below_alloc | apply pw_below_drewN | apply below_drew1 | refine below_set ?_ (IsS194.ge HI0.out)) | exact HB.out)) hb); clear HI0; clear HK; clear HB; have HO166 := n0_; have HI0 := n1_; have HK := n2_; have HB := n3_; clear n0_ n1_ n2_ n3_; clear hb ho4) | ((with_reducible refine gate_callee (f := 88) rfl ?_); refine goesL_ (some 11) rfl rfl Try.func88 (by kernel_rfl) rfl #[.pointer (some ⟨g, 0, none⟩), .int .i64 6] rfl (by (try simp only [List.map_toArray, List.map_cons, List.map_nil]); first | done | rfl | (simp only [List.length_drop, List.length_take]; rfl)) ?_; (with_reducible refine (spec_l1Below.calls g s0_0 s0_1 s0_2 6 t167 t168 t169 w0 _ ?side1 ?side2 A2.out).mono ?_); (case side1 => repeat (first | (with_reducible first | exact HI0.out | apply IsS194.alloc | apply IsS194.drewN | apply IsS194.drew | apply IsS194.set_1 | apply IsS194.set_2) | exact HI0.out)); (case side2 => repeat (first | (with_reducible first | exact HB.out | apply below_alloc | apply pw_below_drewN | apply below_drew1 | refine below_set ?_ (IsS194.ge HI0.out)) | exact HB.out)); rintro e w5 ⟨rfl, hi, hb, hk⟩; refine ⟨_, rfl, ?_⟩; have n0_ := Aside0.mk (Kd.S_mono (Kd.S_keep (IsS194.apartS (show IsS194 w0 _ g s0_0 s0_1 s0_2 from by repeat (first | (with_reducible first | exact HI0.out | apply IsS194.alloc | apply IsS194.drewN | apply IsS194.drew | apply IsS194.set_1 | apply IsS194.set_2) | exact HI0.out)) (by (with_reducible repeat (first | apply Kd.S_alloc | apply Kd.S_drewN | apply Kd.S_drew)); exact HO166.out) (by decide)) hk (fun _ h => h.2)) (fun _ h => h.1)); have n1_ := Aside0.mk (KeepBut.trans (by repeat (first | (with_reducible first | exact HK.out | apply KeepBut.set_ | apply keep_drewN | apply keep_drew | apply keep_alloc) | exact HK.out)) hk (.inl rfl)); have n2_ := Aside0.mk (hb); have n3_ := Aside0.mk (hi); clear HO166; clear HK; clear HB; clear HI0; have HO166 := n0_; have HK := n1_; have HB := n2_; have HI0 := n3_; clear n0_ n1_ n2_ n3_; (try clear hb); (try clear hb2); (try clear hk); (try clear hi)))
 go_loopg [3, 5] k (fun kq v3 v5 w' => ∃ (x3_1 : List (S95)) (x5_1 : Int) (x1001_1 : Int) (x1002_1 : Int), v5 = .int .i64 x5_1 ∧ Aside0 (spec_l25Some.l0 kq x3_1 t167 x5_1 s0_0 x1001_1 x1002_1 = some (r1, r2, r3)) ∧ Aside0 (kq ≤ k) ∧ Aside0 (Kd.S kA 95 w' w.heap.size (fun _ => True) v3 x3_1) ∧ Aside0 (IsS194 w0 w' g s0_0 x1001_1 x1002_1) ∧ Aside0 (KeepBut w w' g none) ∧ Aside0 (Below w0.heap.size w0 w'))
 case atStart => exact ⟨(y164), (0), (t168), (t169), (by first | rfl | (simp; done) | (simp [*]; done)), H', ⟨Nat.le_refl _⟩, ⟨by (with_reducible repeat (first | apply Kd.S_alloc | apply Kd.S_drewN | apply Kd.S_drew)); exact HO166.out⟩, ⟨by repeat (first | (with_reducible first | exact HI0.out | apply IsS194.alloc | apply IsS194.drewN | apply IsS194.drew | apply IsS194.set_1 | apply IsS194.set_2) | exact HI0.out)⟩, ⟨by repeat (first | (with_reducible first | exact HK.out | apply KeepBut.set_ | apply keep_drewN | apply keep_drew | apply keep_alloc) | exact HK.out)⟩, ⟨by repeat (first | (with_reducible first | exact HB.out | apply below_alloc | apply pw_below_drewN | apply below_drew1 | refine below_set ?_ (IsS194.ge HI0.out)) | exact HB.out)⟩⟩
 case round =>
  clear H'
  try clear c1
  try clear p2
  obtain ⟨x3_1, x5_1, x1001_1, x1002_1, rfl, HA, HK1, HO_3, HI0, HK, HB⟩ := hrel
  cases gk with
  | zero => exact absurd HA.out (by simp [spec_l25Some.l0])
  | succ k1 =>
   have H := HA.out
   clear HA
   simp only [spec_l25Some.l0] at H
   by_cases c6 : x5_1 < t167
   ·rw [if_pos c6] at H
    have c6b0 : decide (x5_1 < t167) = true := decide_eq_true c6
    clear c6
    have H' := Aside0.mk H
    clear H
    go_wp2_with (first | ((with_reducible refine gate_dst (N := 6) rfl ?_); refine box_event ?hg (N := 6) ?hd (cs := #[.slice none 0 0, .slice none 0 0]) (t := 95) ?hr ?_; (case hd => rfl); (case hg => rfl); (case hr => first | (go_simp; done) | (go_simp; rfl)); intro gb170 hg w7 hbox hb; have n0_ := Aside0.mk (Kd.S_below (Kd.S_elderB (by (with_reducible repeat (first | apply Kd.S_alloc | apply Kd.S_drewN | apply Kd.S_drew)); exact HO_3.out) gb170 (Nat.le_of_eq hg.symm)) hb); have n1_ := Aside0.mk (IsS194.below (by repeat (first | (with_reducible first | exact HI0.out | apply IsS194.alloc | apply IsS194.drewN | apply IsS194.drew | apply IsS194.set_1 | apply IsS194.set_2) | exact HI0.out)) hb); have n2_ := Aside0.mk (KeepBut.trans (by repeat (first | (with_reducible first | exact HK.out | apply KeepBut.set_ | apply keep_drewN | apply keep_drew | apply keep_alloc) | exact HK.out)) (KeepBut.of_below hb g none) (.inl rfl)); have n3_ := Aside0.mk (below_step (by repeat (first | (with_reducible first | exact HB.out | apply below_alloc | apply pw_below_drewN | apply below_drew1 | refine below_set ?_ (IsS194.ge HI0.out)) | exact HB.out)) hb); have n4_ := Aside0.mk (hbox); have n5_ := Aside0.mk ((by rw [hg]; exact (keep_size (w := w) (g := g) (row := none) (by repeat (first | (with_reducible first | exact HK.out | apply KeepBut.set_ | apply keep_drewN | apply keep_drew | apply keep_alloc) | exact HK.out))) : w.heap.size ≤ gb170)); have n6_ := Aside0.mk ((Nat.le_trans HW0.out (by rw [hg]; exact (keep_size (w := w) (g := g) (row := none) (by repeat (first | (with_reducible first | exact HK.out | apply KeepBut.set_ | apply keep_drewN | apply keep_drew | apply keep_alloc) | exact HK.out))) : w.heap.size ≤ gb170) : w0.heap.size ≤ gb170)); have n7_ := Aside0.mk ((by rw [hg]; exact Nat.ne_of_lt (IsS194.lt (show IsS194 w0 _ g s0_0 x1001_1 x1002_1 from by repeat (first | (with_reducible first | exact HI0.out | apply IsS194.alloc | apply IsS194.drewN | apply IsS194.drew | apply IsS194.set_1 | apply IsS194.set_2) | exact HI0.out))) : g ≠ gb170)); have n8_ := Aside0.mk ((by rw [hg]; exact Nat.ne_of_gt (IsS194.lt (show IsS194 w0 _ g s0_0 x1001_1 x1002_1 from by repeat (first | (with_reducible first | exact HI0.out | apply IsS194.alloc | apply IsS194.drewN | apply IsS194.drew | apply IsS194.set_1 | apply IsS194.set_2) | exact HI0.out))) : gb170 ≠ g)); clear HO_3; clear HI0; clear HK; clear HB; have HO_3 := n0_; have HI0 := n1_; have HK := n2_; have HB := n3_; have BK170 := n4_; have GW170 := n5_; have GE170 := n6_; have NB0_170 := n7_; have NB170_0 := n8_; clear n0_ n1_ n2_ n3_ n4_ n5_ n6_ n7_ n8_; clear hb hbox hg; have hnb8 := NB170_0.out; have hnc8 := NB0_170.out; have hcz9_0 : w7.cell? ⟨gb170, 0, none⟩ = some (.slice none 0 0) := (blk_cell BK170.out 0).trans rfl; have hcz9_1 : w7.cell? ⟨gb170, 1, none⟩ = some (.slice none 0 0) := (blk_cell BK170.out 1).trans rfl; have hfz9_0 := blk_frozen BK170.out 0; have hfz9_1 := blk_frozen BK170.out 1))
    go_loopg [7] k1 (fun kq v7 w' => ∃ (x7_2 : Int) (x1001_2 : Int) (x1002_2 : Int) (x171000_2 : List Int) (u171000 : Value), v7 = .int .i64 x7_2 ∧ Aside0 (spec_l25Some.l1 kq x3_1 t167 x5_1 x7_2 s0_0 x1001_2 x1002_2 x171000_2 = some (r1, r2, r3)) ∧ Aside0 (kq ≤ k1) ∧ Aside0 (Kd.S kA 95 w' w.heap.size (fun k_ => some k_ ≠ (u171000 : Value).ownBlock ∧ k_ ≠ gb170) u3 x3_1) ∧ Aside0 (Kd.R (Kd.int .i64) 3 w' w.heap.size (fun _ => True) u171000 x171000_2) ∧ Aside0 (w'.heap[gb170]? = some (.cells #[u171000, (.slice none 0 0)] 95 (0, 0))) ∧ Aside0 (IsS194 w0 w' g s0_0 x1001_2 x1002_2) ∧ Aside0 (KeepBut w w' g none) ∧ Aside0 (Below w0.heap.size w0 w'))
    case atStart => exact ⟨(0), (x1001_1), (x1002_1), (([] : List Int)), (.slice none 0 0), (by first | rfl | (simp; done) | (simp [*]; done)), H', ⟨Nat.le_refl _⟩, ⟨by (with_reducible repeat (first | apply Kd.S_alloc | apply Kd.S_drewN | apply Kd.S_drew)); exact Kd.S_mono (Kd.S_far (p := ⟨gb170, 1, none⟩) (Kd.S_far (p := ⟨gb170, 0, none⟩) (Kd.S_mono HO_3.out (fun k_ hk => (⟨hk, hk.2⟩ : _ ∧ k_ ≠ gb170))) (fun _ hk => hk.2) (.slice none 0 0)) (fun _ hk => hk.2) (.slice none 0 0)) (fun _ hk => ⟨(by simp [Value.ownBlock]), hk.1.2⟩)⟩, ⟨by first | exact Kd.R_nil _ _ _ _ _ | exact Kd.N_nil _ _ _ _ _ | exact Kd.V_nil _ _ _ _ _ | exact Kd.Q_nil _ _ _ _ _ | exact Kd.S_nil _ _ _ _ _⟩, ⟨by (with_reducible repeat (first | refine blk_drewN ?_ _ | refine blk_drew ?_ | refine blk_alloc ?_ _)); refine blk_put (cs := #[.slice none 0 0, .slice none 0 0]) ?_ 1 _ rfl; (with_reducible repeat (first | refine blk_drewN ?_ _ | refine blk_drew ?_ | refine blk_alloc ?_ _)); refine blk_put (cs := #[.slice none 0 0, .slice none 0 0]) ?_ 0 _ rfl; (with_reducible repeat (first | refine blk_drewN ?_ _ | refine blk_drew ?_ | refine blk_alloc ?_ _)); exact BK170.out⟩, ⟨by repeat (first | (with_reducible first | exact HI0.out | apply IsS194.alloc | apply IsS194.drewN | apply IsS194.drew | apply IsS194.set_1 | apply IsS194.set_2 | refine IsS194.far ?_ NB0_170.out _) | exact HI0.out)⟩, ⟨by repeat (first | (with_reducible first | exact HK.out | apply KeepBut.set_ | apply keep_drewN | apply keep_drew | apply keep_alloc | refine keep_far ?_ GW170.out _) | exact HK.out)⟩, ⟨by repeat (first | (with_reducible first | exact HB.out | apply below_alloc | apply pw_below_drewN | apply below_drew1 | refine below_set ?_ (IsS194.ge HI0.out) | refine below_set ?_ GE170.out) | exact HB.out)⟩⟩
    case round =>
     clear H'
     try clear c1
     try clear p2
     try clear c6
     try clear c6b0
     try clear c8
     try clear hcz9_0
     try clear hcz9_1
     try clear hfz9_0
     try clear hfz9_1
     try clear p2
     obtain ⟨x7_2, x1001_2, x1002_2, x171000_2, u171000, rfl, HA, HK2, HO_3, HO_171000, BK170, HI0, HK, HB⟩ := hrel
     cases gk with
     | zero => exact absurd HA.out (by simp [spec_l25Some.l1])
     | succ k2 =>
      have H := HA.out
      clear HA
      simp only [spec_l25Some.l1] at H
      by_cases c10 : x7_2 < 5
      ·rw [if_pos c10] at H
       have c10b0 : decide (x7_2 < 5) = true := decide_eq_true c10
       clear c10
       replace H := Option.bind_eq_some_iff.mp H
       obtain ⟨⟨t171, t172, t173⟩, A110, H⟩ := H
       replace H : (if t171 = true then (if x171000_2.length < 17592186044416 then (spec_l25Some.l1 k2 x3_1 t167 x5_1 (wrap64 (x7_2 + 1)) s0_0 t172 t173 (x171000_2 ++ [x7_2])) else (none)) else (spec_l25Some.l1 k2 x3_1 t167 x5_1 (wrap64 (x7_2 + 1)) s0_0 t172 t173 x171000_2)) = some (r1, r2, r3) := H
       have A11 := Aside0.mk A110
       clear A110
       by_cases c12 : t171 = true
       ·subst c12
        have H1 : (if x171000_2.length < 17592186044416 then (spec_l25Some.l1 k2 x3_1 t167 x5_1 (wrap64 (x7_2 + 1)) s0_0 t172 t173 (x171000_2 ++ [x7_2])) else (none)) = some (r1, r2, r3) := by first | rfl | (rw [if_pos rfl] at H; exact H)
        clear H
        have H := H1
        clear H1
        by_cases c13 : x171000_2.length < 17592186044416
        ·rw [if_pos c13] at H
         have LMc13 := Aside0.mk c13
         clear c13
         obtain ⟨y174, hy174⟩ : ∃ y_ : List Int, y_ = (x171000_2 ++ [x7_2]) := ⟨_, rfl⟩
         replace H : (spec_l25Some.l1 k2 x3_1 t167 x5_1 (wrap64 (x7_2 + 1)) s0_0 t172 t173 y174) = some (r1, r2, r3) := by first | (rw [hy174]; with_reducible exact H) | (have H2_ := (Option.bind_some _ _).symm.trans H; rw [hy174]; with_reducible exact H2_) | (have H2_ := (Option.bind_some _ _).symm.trans H; with_reducible exact H2_) | with_reducible exact H | (rw [hy174]; exact H) | exact H
         have Ny174 := Aside0.mk hy174
         clear hy174
         have H' := Aside0.mk H
         clear H
         go_wp2_with (first | ((with_reducible refine gate_callee (f := 156) rfl ?_); refine goesL_ (some 23) rfl rfl Try.func156 (by kernel_rfl) rfl #[.pointer (some ⟨g, 0, none⟩), .int .i64 3] rfl (by (try simp only [List.map_toArray, List.map_cons, List.map_nil]); first | done | rfl | (simp only [List.length_drop, List.length_take]; rfl)) ?_; (with_reducible refine (spec_l1Once.calls g s0_0 x1001_2 x1002_2 3 true t172 t173 w0 _ ?side1 ?side2 A11.out).mono ?_); (case side1 => repeat (first | (with_reducible first | exact HI0.out | apply IsS194.alloc | apply IsS194.drewN | apply IsS194.drew | apply IsS194.set_1 | apply IsS194.set_2 | refine IsS194.far ?_ NB0_170.out _) | exact HI0.out)); (case side2 => repeat (first | (with_reducible first | exact HB.out | apply below_alloc | apply pw_below_drewN | apply below_drew1 | refine below_set ?_ (IsS194.ge HI0.out) | refine below_set ?_ GE170.out) | exact HB.out)); rintro e w14 ⟨rfl, hi, hb, hk⟩; refine ⟨_, rfl, ?_⟩; have n0_ := Aside0.mk (Kd.S_mono (Kd.S_keep (IsS194.apartS (show IsS194 w0 _ g s0_0 x1001_2 x1002_2 from by repeat (first | (with_reducible first | exact HI0.out | apply IsS194.alloc | apply IsS194.drewN | apply IsS194.drew | apply IsS194.set_1 | apply IsS194.set_2 | refine IsS194.far ?_ NB0_170.out _) | exact HI0.out)) (by (with_reducible repeat (first | apply Kd.S_alloc | apply Kd.S_drewN | apply Kd.S_drew)); exact HO_3.out) (by decide)) hk (fun _ h => h.2)) (fun _ h => h.1)); have n1_ := Aside0.mk (Kd.R_mono (Kd.R_keep (IsS194.apart (show IsS194 w0 _ g s0_0 x1001_2 x1002_2 from by repeat (first | (with_reducible first | exact HI0.out | apply IsS194.alloc | apply IsS194.drewN | apply IsS194.drew | apply IsS194.set_1 | apply IsS194.set_2 | refine IsS194.far ?_ NB0_170.out _) | exact HI0.out)) (by (with_reducible repeat (first | apply Kd.R_alloc | apply Kd.R_drewN | apply Kd.R_drew)); exact HO_171000.out) (by decide)) hk (fun _ h => h.2)) (fun _ h => h.1)); have n2_ := Aside0.mk (KeepBut.blk hk (g' := gb170) (o := .cells #[u171000, .slice none 0 0] 95 (0, 0)) (by (with_reducible repeat (first | refine blk_drewN ?_ _ | refine blk_drew ?_ | refine blk_alloc ?_ _)); exact BK170.out) NB170_0.out (by simp)); have n3_ := Aside0.mk (KeepBut.trans (by repeat (first | (with_reducible first | exact HK.out | apply KeepBut.set_ | apply keep_drewN | apply keep_drew | apply keep_alloc | refine keep_far ?_ GW170.out _) | exact HK.out)) hk (.inl rfl)); have n4_ := Aside0.mk (hb); have n5_ := Aside0.mk (hi); clear HO_3; clear HO_171000; clear BK170; clear HK; clear HB; clear HI0; have HO_3 := n0_; have HO_171000 := n1_; have BK170 := n2_; have HK := n3_; have HB := n4_; have HI0 := n5_; clear n0_ n1_ n2_ n3_ n4_ n5_; (try clear hb); (try clear hb2); (try clear hk); (try clear hi); have hnb15 := NB170_0.out; have hnc15 := NB0_170.out; have hcz16_0 : w14.cell? ⟨gb170, 0, none⟩ = some (u171000) := (blk_cell BK170.out 0).trans rfl; have hcz16_1 : w14.cell? ⟨gb170, 1, none⟩ = some (.slice none 0 0) := (blk_cell BK170.out 1).trans rfl; have hfz16_0 := blk_frozen BK170.out 0; have hfz16_1 := blk_frozen BK170.out 1) | ((with_reducible refine gate_builtin (b := .append) (xs := #[.tmp 25, .tmp 27]) rfl ?_); at_builtin; refine Kd.R_append (Kd.int .i64) w.heap.size rfl (.tmp 25) (.tmp 27) 56 3 (.int .i64 0) 8 rfl Try.underlying56 info3 rfl (by decide) (by omega) u171000 x171000_2 x7_2 [.int .i64 x7_2] (fun _ => True) (fun _ => False) rfl rfl ?aP (fun _ hk => hk.elim) ?aF ?aO (Below.refl _ _) ?aS ?aL ?_; (case aP => exact rfl); (case aF => exact (fun _ _ => trivial)); (case aO => exact (by (with_reducible repeat (first | apply Kd.R_alloc | apply Kd.R_drewN | apply Kd.R_drew)); exact HO_171000.out)); (case aS => exact (keep_size (w := w) (g := g) (row := none) (by repeat (first | (with_reducible first | exact HK.out | apply KeepBut.set_ | apply keep_drewN | apply keep_drew | apply keep_alloc | refine keep_far ?_ GW170.out _) | exact HK.out)))); (case aL => have := LMc13.out; omega); intro v175 w17 ho hb hg hat; rw [← Ny174.out] at ho; have n0_ := Aside0.mk (Kd.S_after (ok := (fun k_ => k_ ≠ gb170)) (by (with_reducible repeat (first | apply Kd.S_alloc | apply Kd.S_drewN | apply Kd.S_drew)); exact Kd.S_mono HO_3.out (fun _ hk => ⟨hk.2, hk.1⟩)) hg hat); have n1_ := Aside0.mk (blk_grown (g := gb170) (o := .cells #[u171000, .slice none 0 0] 95 (0, 0)) (by (with_reducible repeat (first | refine blk_drewN ?_ _ | refine blk_drew ?_ | refine blk_alloc ?_ _)); exact BK170.out) hg (Kd.R_ne HO_171000.out BK170.out (by decide))); have n2_ := Aside0.mk (IsS194.grown (by repeat (first | (with_reducible first | exact HI0.out | apply IsS194.alloc | apply IsS194.drewN | apply IsS194.drew | apply IsS194.set_1 | apply IsS194.set_2 | refine IsS194.far ?_ NB0_170.out _) | exact HI0.out)) hg (IsS194.own_ne HI0.out HO_171000.out (by decide))); have n3_ := Aside0.mk (below_weaken (by repeat (first | (with_reducible first | exact HB.out | apply below_alloc | apply pw_below_drewN | apply below_drew1 | refine below_set ?_ (IsS194.ge HI0.out) | refine below_set ?_ GE170.out) | exact HB.out)) HL.out hb); have n4_ := Aside0.mk (KeepBut.trans (by repeat (first | (with_reducible first | exact HK.out | apply KeepBut.set_ | apply keep_drewN | apply keep_drew | apply keep_alloc | refine keep_far ?_ GW170.out _) | exact HK.out)) (KeepBut.of_grown hg g) (Kd.R_base2 HO_171000.out)); have n5_ := Aside0.mk (ho); clear HO_3; clear BK170; clear HI0; clear HB; clear HK; clear HO_171000; have HO_3 := n0_; have BK170 := n1_; have HI0 := n2_; have HB := n3_; have HK := n4_; have HO176 := n5_; clear n0_ n1_ n2_ n3_ n4_ n5_; clear ho hb hg hat; obtain ⟨Ao18, co18, eo18⟩ := Kd.R_slice HO176.out; subst eo18; have hcz19_0 : w17.cell? ⟨gb170, 0, none⟩ = some (u171000) := (blk_cell BK170.out 0).trans rfl; have hcz19_1 : w17.cell? ⟨gb170, 1, none⟩ = some (.slice none 0 0) := (blk_cell BK170.out 1).trans rfl; have hfz19_0 := blk_frozen BK170.out 0; have hfz19_1 := blk_frozen BK170.out 1))
         go_roundg k2
         case measure => have := HK1.out; have := HK2.out; omega
         case rel => exact ⟨(wrap64 (x7_2 + 1)), (t172), (t173), (y174), (.slice Ao18 y174.length co18), (by first | rfl | (simp; done) | (simp [*]; done)), H', ⟨by have := HK1.out; have := HK2.out; omega⟩, ⟨by (with_reducible repeat (first | apply Kd.S_alloc | apply Kd.S_drewN | apply Kd.S_drew)); exact Kd.S_mono (Kd.S_far (p := ⟨gb170, 0, none⟩) (Kd.S_mono HO_3.out (fun k_ hk => (⟨hk, hk.1⟩ : _ ∧ k_ ≠ gb170))) (fun _ hk => hk.2) (.slice Ao18 y174.length co18)) (fun _ hk => ⟨hk.1.2, hk.1.1⟩)⟩, ⟨by (with_reducible repeat (first | apply Kd.R_alloc | apply Kd.R_drewN | apply Kd.R_drew)); exact Kd.R_mono (Kd.R_far (p := ⟨gb170, 0, none⟩) (Kd.R_types HO176.out BK170.out (by decide)) (fun _ hk => hk.2) (.slice Ao18 y174.length co18)) (fun _ hk => trivial)⟩, ⟨by (with_reducible repeat (first | refine blk_drewN ?_ _ | refine blk_drew ?_ | refine blk_alloc ?_ _)); refine blk_put (cs := #[u171000, .slice none 0 0]) ?_ 0 _ rfl; (with_reducible repeat (first | refine blk_drewN ?_ _ | refine blk_drew ?_ | refine blk_alloc ?_ _)); exact BK170.out⟩, ⟨by repeat (first | (with_reducible first | exact HI0.out | apply IsS194.alloc | apply IsS194.drewN | apply IsS194.drew | apply IsS194.set_1 | apply IsS194.set_2 | refine IsS194.far ?_ NB0_170.out _) | exact HI0.out)⟩, ⟨by repeat (first | (with_reducible first | exact HK.out | apply KeepBut.set_ | apply keep_drewN | apply keep_drew | apply keep_alloc | refine keep_far ?_ GW170.out _) | exact HK.out)⟩, ⟨by repeat (first | (with_reducible first | exact HB.out | apply below_alloc | apply pw_below_drewN | apply below_drew1 | refine below_set ?_ (IsS194.ge HI0.out) | refine below_set ?_ GE170.out) | exact HB.out)⟩⟩
        ·rw [if_neg c13] at H
         exact absurd H (by simp)
       ·replace c12 := Bool.eq_false_iff.mpr c12
        subst c12
        have H1 : (spec_l25Some.l1 k2 x3_1 t167 x5_1 (wrap64 (x7_2 + 1)) s0_0 t172 t173 x171000_2) = some (r1, r2, r3) := by first | rfl | (rw [if_neg (show ¬ (false = true) by decide)] at H; exact H)
        clear H
        have H := H1
        clear H1
        have H' := Aside0.mk H
        clear H
        go_wp2_with (first | ((with_reducible refine gate_callee (f := 156) rfl ?_); refine goesL_ (some 23) rfl rfl Try.func156 (by kernel_rfl) rfl #[.pointer (some ⟨g, 0, none⟩), .int .i64 3] rfl (by (try simp only [List.map_toArray, List.map_cons, List.map_nil]); first | done | rfl | (simp only [List.length_drop, List.length_take]; rfl)) ?_; (with_reducible refine (spec_l1Once.calls g s0_0 x1001_2 x1002_2 3 false t172 t173 w0 _ ?side1 ?side2 A11.out).mono ?_); (case side1 => repeat (first | (with_reducible first | exact HI0.out | apply IsS194.alloc | apply IsS194.drewN | apply IsS194.drew | apply IsS194.set_1 | apply IsS194.set_2 | refine IsS194.far ?_ NB0_170.out _) | exact HI0.out)); (case side2 => repeat (first | (with_reducible first | exact HB.out | apply below_alloc | apply pw_below_drewN | apply below_drew1 | refine below_set ?_ (IsS194.ge HI0.out) | refine below_set ?_ GE170.out) | exact HB.out)); rintro e w20 ⟨rfl, hi, hb, hk⟩; refine ⟨_, rfl, ?_⟩; have n0_ := Aside0.mk (Kd.S_mono (Kd.S_keep (IsS194.apartS (show IsS194 w0 _ g s0_0 x1001_2 x1002_2 from by repeat (first | (with_reducible first | exact HI0.out | apply IsS194.alloc | apply IsS194.drewN | apply IsS194.drew | apply IsS194.set_1 | apply IsS194.set_2 | refine IsS194.far ?_ NB0_170.out _) | exact HI0.out)) (by (with_reducible repeat (first | apply Kd.S_alloc | apply Kd.S_drewN | apply Kd.S_drew)); exact HO_3.out) (by decide)) hk (fun _ h => h.2)) (fun _ h => h.1)); have n1_ := Aside0.mk (Kd.R_mono (Kd.R_keep (IsS194.apart (show IsS194 w0 _ g s0_0 x1001_2 x1002_2 from by repeat (first | (with_reducible first | exact HI0.out | apply IsS194.alloc | apply IsS194.drewN | apply IsS194.drew | apply IsS194.set_1 | apply IsS194.set_2 | refine IsS194.far ?_ NB0_170.out _) | exact HI0.out)) (by (with_reducible repeat (first | apply Kd.R_alloc | apply Kd.R_drewN | apply Kd.R_drew)); exact HO_171000.out) (by decide)) hk (fun _ h => h.2)) (fun _ h => h.1)); have n2_ := Aside0.mk (KeepBut.blk hk (g' := gb170) (o := .cells #[u171000, .slice none 0 0] 95 (0, 0)) (by (with_reducible repeat (first | refine blk_drewN ?_ _ | refine blk_drew ?_ | refine blk_alloc ?_ _)); exact BK170.out) NB170_0.out (by simp)); have n3_ := Aside0.mk (KeepBut.trans (by repeat (first | (with_reducible first | exact HK.out | apply KeepBut.set_ | apply keep_drewN | apply keep_drew | apply keep_alloc | refine keep_far ?_ GW170.out _) | exact HK.out)) hk (.inl rfl)); have n4_ := Aside0.mk (hb); have n5_ := Aside0.mk (hi); clear HO_3; clear HO_171000; clear BK170; clear HK; clear HB; clear HI0; have HO_3 := n0_; have HO_171000 := n1_; have BK170 := n2_; have HK := n3_; have HB := n4_; have HI0 := n5_; clear n0_ n1_ n2_ n3_ n4_ n5_; (try clear hb); (try clear hb2); (try clear hk); (try clear hi)))
        go_roundg k2
        case measure => have := HK1.out; have := HK2.out; omega
        case rel => exact ⟨(wrap64 (x7_2 + 1)), (t172), (t173), (x171000_2), (u171000), (by first | rfl | (simp; done) | (simp [*]; done)), H', ⟨by have := HK1.out; have := HK2.out; omega⟩, ⟨by (with_reducible repeat (first | apply Kd.S_alloc | apply Kd.S_drewN | apply Kd.S_drew)); exact HO_3.out⟩, ⟨by (with_reducible repeat (first | apply Kd.R_alloc | apply Kd.R_drewN | apply Kd.R_drew)); exact HO_171000.out⟩, ⟨by (with_reducible repeat (first | refine blk_drewN ?_ _ | refine blk_drew ?_ | refine blk_alloc ?_ _)); exact BK170.out⟩, ⟨by repeat (first | (with_reducible first | exact HI0.out | apply IsS194.alloc | apply IsS194.drewN | apply IsS194.drew | apply IsS194.set_1 | apply IsS194.set_2 | refine IsS194.far ?_ NB0_170.out _) | exact HI0.out)⟩, ⟨by repeat (first | (with_reducible first | exact HK.out | apply KeepBut.set_ | apply keep_drewN | apply keep_drew | apply keep_alloc | refine keep_far ?_ GW170.out _) | exact HK.out)⟩, ⟨by repeat (first | (with_reducible first | exact HB.out | apply below_alloc | apply pw_below_drewN | apply below_drew1 | refine below_set ?_ (IsS194.ge HI0.out) | refine below_set ?_ GE170.out) | exact HB.out)⟩⟩
      ·rw [if_neg c10] at H
       have c10b0 : decide (x7_2 < 5) = false := decide_eq_false c10
       clear c10
       have H' := Aside0.mk H
       clear H
       go_wp2
       go_loopg [8] k2 (fun kq v8 w' => ∃ (x8_3 : Int) (x1001_3 : Int) (x1002_3 : Int) (x171001_3 : List Int) (u171001 : Value), v8 = .int .i64 x8_3 ∧ Aside0 (spec_l25Some.l2 kq x3_1 t167 x5_1 x8_3 s0_0 x1001_3 x1002_3 x171000_2 x171001_3 = some (r1, r2, r3)) ∧ Aside0 (kq ≤ k2) ∧ Aside0 (Kd.S kA 95 w' w.heap.size (fun k_ => some k_ ≠ (u171000 : Value).ownBlock ∧ some k_ ≠ (u171001 : Value).ownBlock ∧ k_ ≠ gb170) u3 x3_1) ∧ Aside0 (Kd.R (Kd.int .i64) 3 w' w.heap.size (fun k_ => some k_ ≠ (u171001 : Value).ownBlock) u171000 x171000_2) ∧ Aside0 (Kd.R (Kd.int .i64) 3 w' w.heap.size (fun k_ => some k_ ≠ (u171000 : Value).ownBlock) u171001 x171001_3) ∧ Aside0 (w'.heap[gb170]? = some (.cells #[u171000, u171001] 95 (0, 0))) ∧ Aside0 (IsS194 w0 w' g s0_0 x1001_3 x1002_3) ∧ Aside0 (KeepBut w w' g none) ∧ Aside0 (Below w0.heap.size w0 w'))
       case atStart => exact ⟨(0), (x1001_2), (x1002_2), (([] : List Int)), (.slice none 0 0), (by first | rfl | (simp; done) | (simp [*]; done)), H', ⟨Nat.le_refl _⟩, ⟨by (with_reducible repeat (first | apply Kd.S_alloc | apply Kd.S_drewN | apply Kd.S_drew)); exact Kd.S_mono HO_3.out (fun _ hk => ⟨hk.1, ⟨(by simp [Value.ownBlock]), hk.2⟩⟩)⟩, ⟨by (with_reducible repeat (first | apply Kd.R_alloc | apply Kd.R_drewN | apply Kd.R_drew)); exact Kd.R_mono HO_171000.out (fun _ hk => (by simp [Value.ownBlock]))⟩, ⟨by first | exact Kd.R_nil _ _ _ _ _ | exact Kd.N_nil _ _ _ _ _ | exact Kd.V_nil _ _ _ _ _ | exact Kd.Q_nil _ _ _ _ _ | exact Kd.S_nil _ _ _ _ _⟩, ⟨by (with_reducible repeat (first | refine blk_drewN ?_ _ | refine blk_drew ?_ | refine blk_alloc ?_ _)); exact BK170.out⟩, ⟨by repeat (first | (with_reducible first | exact HI0.out | apply IsS194.alloc | apply IsS194.drewN | apply IsS194.drew | apply IsS194.set_1 | apply IsS194.set_2 | refine IsS194.far ?_ NB0_170.out _) | exact HI0.out)⟩, ⟨by repeat (first | (with_reducible first | exact HK.out | apply KeepBut.set_ | apply keep_drewN | apply keep_drew | apply keep_alloc | refine keep_far ?_ GW170.out _) | exact HK.out)⟩, ⟨by repeat (first | (with_reducible first | exact HB.out | apply below_alloc | apply pw_below_drewN | apply below_drew1 | refine below_set ?_ (IsS194.ge HI0.out) | refine below_set ?_ GE170.out) | exact HB.out)⟩⟩
       case round =>
        clear H'
        try clear c1
        try clear p2
        try clear c6
        try clear c6b0
        try clear p6
        try clear c8
        try clear c10
        try clear c10b0
        try clear c12
        try clear c13
        try clear c15
        try clear hcz16_0
        try clear hcz16_1
        try clear hcz19_0
        try clear hcz19_1
        try clear hcz9_0
        try clear hcz9_1
        try clear hfz16_0
        try clear hfz16_1
        try clear hfz19_0
        try clear hfz19_1
        try clear hfz9_0
        try clear hfz9_1
        try clear p2
        obtain ⟨x8_3, x1001_3, x1002_3, x171001_3, u171001, rfl, HA, HK3, HO_3, HO_171000, HO_171001, BK170, HI0, HK, HB⟩ := hrel
        cases gk with
        | zero => exact absurd HA.out (by simp [spec_l25Some.l2])
        | succ k3 =>
         have H := HA.out
         clear HA
         simp only [spec_l25Some.l2] at H
         by_cases c21 : x8_3 < t167
         ·rw [if_pos c21] at H
          have c21b0 : decide (x8_3 < t167) = true := decide_eq_true c21
          clear c21
          replace H := Option.bind_eq_some_iff.mp H
          obtain ⟨⟨t177, t178, t179⟩, A220, H⟩ := H
          replace H : (if t177 = true then (if x171001_3.length < 17592186044416 then (spec_l25Some.l2 k3 x3_1 t167 x5_1 (wrap64 (x8_3 + 1)) s0_0 t178 t179 x171000_2 (x171001_3 ++ [x8_3])) else (none)) else (spec_l25Some.l2 k3 x3_1 t167 x5_1 (wrap64 (x8_3 + 1)) s0_0 t178 t179 x171000_2 x171001_3)) = some (r1, r2, r3) := H
          have A22 := Aside0.mk A220
          clear A220
          by_cases c23 : t177 = true
          ·subst c23
           have H1 : (if x171001_3.length < 17592186044416 then (spec_l25Some.l2 k3 x3_1 t167 x5_1 (wrap64 (x8_3 + 1)) s0_0 t178 t179 x171000_2 (x171001_3 ++ [x8_3])) else (none)) = some (r1, r2, r3) := by first | rfl | (rw [if_pos rfl] at H; exact H)
           clear H
           have H := H1
           clear H1
           by_cases c24 : x171001_3.length < 17592186044416
           ·rw [if_pos c24] at H
            have LMc24 := Aside0.mk c24
            clear c24
            obtain ⟨y180, hy180⟩ : ∃ y_ : List Int, y_ = (x171001_3 ++ [x8_3]) := ⟨_, rfl⟩
            replace H : (spec_l25Some.l2 k3 x3_1 t167 x5_1 (wrap64 (x8_3 + 1)) s0_0 t178 t179 x171000_2 y180) = some (r1, r2, r3) := by first | (rw [hy180]; with_reducible exact H) | (have H2_ := (Option.bind_some _ _).symm.trans H; rw [hy180]; with_reducible exact H2_) | (have H2_ := (Option.bind_some _ _).symm.trans H; with_reducible exact H2_) | with_reducible exact H | (rw [hy180]; exact H) | exact H
            have Ny180 := Aside0.mk hy180
            clear hy180
            have H' := Aside0.mk H
            clear H
            go_wp2_with (first | ((with_reducible refine gate_callee (f := 156) rfl ?_); refine goesL_ (some 36) rfl rfl Try.func156 (by kernel_rfl) rfl #[.pointer (some ⟨g, 0, none⟩), .int .i64 5] rfl (by (try simp only [List.map_toArray, List.map_cons, List.map_nil]); first | done | rfl | (simp only [List.length_drop, List.length_take]; rfl)) ?_; (with_reducible refine (spec_l1Once.calls g s0_0 x1001_3 x1002_3 5 true t178 t179 w0 _ ?side1 ?side2 A22.out).mono ?_); (case side1 => repeat (first | (with_reducible first | exact HI0.out | apply IsS194.alloc | apply IsS194.drewN | apply IsS194.drew | apply IsS194.set_1 | apply IsS194.set_2 | refine IsS194.far ?_ NB0_170.out _) | exact HI0.out)); (case side2 => repeat (first | (with_reducible first | exact HB.out | apply below_alloc | apply pw_below_drewN | apply below_drew1 | refine below_set ?_ (IsS194.ge HI0.out) | refine below_set ?_ GE170.out) | exact HB.out)); rintro e w25 ⟨rfl, hi, hb, hk⟩; refine ⟨_, rfl, ?_⟩; have n0_ := Aside0.mk (Kd.S_mono (Kd.S_keep (IsS194.apartS (show IsS194 w0 _ g s0_0 x1001_3 x1002_3 from by repeat (first | (with_reducible first | exact HI0.out | apply IsS194.alloc | apply IsS194.drewN | apply IsS194.drew | apply IsS194.set_1 | apply IsS194.set_2 | refine IsS194.far ?_ NB0_170.out _) | exact HI0.out)) (by (with_reducible repeat (first | apply Kd.S_alloc | apply Kd.S_drewN | apply Kd.S_drew)); exact HO_3.out) (by decide)) hk (fun _ h => h.2)) (fun _ h => h.1)); have n1_ := Aside0.mk (Kd.R_mono (Kd.R_keep (IsS194.apart (show IsS194 w0 _ g s0_0 x1001_3 x1002_3 from by repeat (first | (with_reducible first | exact HI0.out | apply IsS194.alloc | apply IsS194.drewN | apply IsS194.drew | apply IsS194.set_1 | apply IsS194.set_2 | refine IsS194.far ?_ NB0_170.out _) | exact HI0.out)) (by (with_reducible repeat (first | apply Kd.R_alloc | apply Kd.R_drewN | apply Kd.R_drew)); exact HO_171000.out) (by decide)) hk (fun _ h => h.2)) (fun _ h => h.1)); have n2_ := Aside0.mk (Kd.R_mono (Kd.R_keep (IsS194.apart (show IsS194 w0 _ g s0_0 x1001_3 x1002_3 from by repeat (first | (with_reducible first | exact HI0.out | apply IsS194.alloc | apply IsS194.drewN | apply IsS194.drew | apply IsS194.set_1 | apply IsS194.set_2 | refine IsS194.far ?_ NB0_170.out _) | exact HI0.out)) (by (with_reducible repeat (first | apply Kd.R_alloc | apply Kd.R_drewN | apply Kd.R_drew)); exact HO_171001.out) (by decide)) hk (fun _ h => h.2)) (fun _ h => h.1)); have n3_ := Aside0.mk (KeepBut.blk hk (g' := gb170) (o := .cells #[u171000, u171001] 95 (0, 0)) (by (with_reducible repeat (first | refine blk_drewN ?_ _ | refine blk_drew ?_ | refine blk_alloc ?_ _)); exact BK170.out) NB170_0.out (by simp)); have n4_ := Aside0.mk (KeepBut.trans (by repeat (first | (with_reducible first | exact HK.out | apply KeepBut.set_ | apply keep_drewN | apply keep_drew | apply keep_alloc | refine keep_far ?_ GW170.out _) | exact HK.out)) hk (.inl rfl)); have n5_ := Aside0.mk (hb); have n6_ := Aside0.mk (hi); clear HO_3; clear HO_171000; clear HO_171001; clear BK170; clear HK; clear HB; clear HI0; have HO_3 := n0_; have HO_171000 := n1_; have HO_171001 := n2_; have BK170 := n3_; have HK := n4_; have HB := n5_; have HI0 := n6_; clear n0_ n1_ n2_ n3_ n4_ n5_ n6_; (try clear hb); (try clear hb2); (try clear hk); (try clear hi); have hnb26 := NB170_0.out; have hnc26 := NB0_170.out; have hcz27_0 : w25.cell? ⟨gb170, 0, none⟩ = some (u171000) := (blk_cell BK170.out 0).trans rfl; have hcz27_1 : w25.cell? ⟨gb170, 1, none⟩ = some (u171001) := (blk_cell BK170.out 1).trans rfl; have hfz27_0 := blk_frozen BK170.out 0; have hfz27_1 := blk_frozen BK170.out 1) | ((with_reducible refine gate_builtin (b := .append) (xs := #[.tmp 38, .tmp 40]) rfl ?_); at_builtin; refine Kd.R_append (Kd.int .i64) w.heap.size rfl (.tmp 38) (.tmp 40) 56 3 (.int .i64 0) 8 rfl Try.underlying56 info3 rfl (by decide) (by omega) u171001 x171001_3 x8_3 [.int .i64 x8_3] (fun k_ => some k_ ≠ (u171000 : Value).ownBlock) (fun _ => False) rfl rfl ?aP (fun _ hk => hk.elim) ?aF ?aO (Below.refl _ _) ?aS ?aL ?_; (case aP => exact rfl); (case aF => exact (fun k_ hk => Kd.fresh' (Kd.R_lt (by (with_reducible repeat (first | apply Kd.R_alloc | apply Kd.R_drewN | apply Kd.R_drew)); exact HO_171000.out)) k_ hk)); (case aO => exact (by (with_reducible repeat (first | apply Kd.R_alloc | apply Kd.R_drewN | apply Kd.R_drew)); exact HO_171001.out)); (case aS => exact (keep_size (w := w) (g := g) (row := none) (by repeat (first | (with_reducible first | exact HK.out | apply KeepBut.set_ | apply keep_drewN | apply keep_drew | apply keep_alloc | refine keep_far ?_ GW170.out _) | exact HK.out)))); (case aL => have := LMc24.out; omega); intro v181 w28 ho hb hg hat; rw [← Ny180.out] at ho; have n0_ := Aside0.mk (Kd.S_after (ok := (fun k_ => some k_ ≠ (u171000 : Value).ownBlock ∧ k_ ≠ gb170)) (by (with_reducible repeat (first | apply Kd.S_alloc | apply Kd.S_drewN | apply Kd.S_drew)); exact Kd.S_mono HO_3.out (fun _ hk => ⟨⟨hk.1, hk.2.2⟩, hk.2.1⟩)) hg hat); have n1_ := Aside0.mk (Kd.R_after (ok := (fun _ => True)) (by (with_reducible repeat (first | apply Kd.R_alloc | apply Kd.R_drewN | apply Kd.R_drew)); exact Kd.R_mono HO_171000.out (fun _ hk => ⟨trivial, hk⟩)) hg hat); have n2_ := Aside0.mk (blk_grown (g := gb170) (o := .cells #[u171000, u171001] 95 (0, 0)) (by (with_reducible repeat (first | refine blk_drewN ?_ _ | refine blk_drew ?_ | refine blk_alloc ?_ _)); exact BK170.out) hg (Kd.R_ne HO_171001.out BK170.out (by decide))); have n3_ := Aside0.mk (IsS194.grown (by repeat (first | (with_reducible first | exact HI0.out | apply IsS194.alloc | apply IsS194.drewN | apply IsS194.drew | apply IsS194.set_1 | apply IsS194.set_2 | refine IsS194.far ?_ NB0_170.out _) | exact HI0.out)) hg (IsS194.own_ne HI0.out HO_171001.out (by decide))); have n4_ := Aside0.mk (below_weaken (by repeat (first | (with_reducible first | exact HB.out | apply below_alloc | apply pw_below_drewN | apply below_drew1 | refine below_set ?_ (IsS194.ge HI0.out) | refine below_set ?_ GE170.out) | exact HB.out)) HL.out hb); have n5_ := Aside0.mk (KeepBut.trans (by repeat (first | (with_reducible first | exact HK.out | apply KeepBut.set_ | apply keep_drewN | apply keep_drew | apply keep_alloc | refine keep_far ?_ GW170.out _) | exact HK.out)) (KeepBut.of_grown hg g) (Kd.R_base2 HO_171001.out)); have n6_ := Aside0.mk (ho); clear HO_3; clear HO_171000; clear BK170; clear HI0; clear HB; clear HK; clear HO_171001; have HO_3 := n0_; have HO_171000 := n1_; have BK170 := n2_; have HI0 := n3_; have HB := n4_; have HK := n5_; have HO182 := n6_; clear n0_ n1_ n2_ n3_ n4_ n5_ n6_; clear ho hb hg hat; obtain ⟨Ao29, co29, eo29⟩ := Kd.R_slice HO182.out; subst eo29; have hcz30_0 : w28.cell? ⟨gb170, 0, none⟩ = some (u171000) := (blk_cell BK170.out 0).trans rfl; have hcz30_1 : w28.cell? ⟨gb170, 1, none⟩ = some (u171001) := (blk_cell BK170.out 1).trans rfl; have hfz30_0 := blk_frozen BK170.out 0; have hfz30_1 := blk_frozen BK170.out 1))
            go_roundg k3
            case measure => have := HK1.out; have := HK2.out; have := HK3.out; omega
            case rel => exact ⟨(wrap64 (x8_3 + 1)), (t178), (t179), (y180), (.slice Ao29 y180.length co29), (by first | rfl | (simp; done) | (simp [*]; done)), H', ⟨by have := HK1.out; have := HK2.out; have := HK3.out; omega⟩, ⟨by (with_reducible repeat (first | apply Kd.S_alloc | apply Kd.S_drewN | apply Kd.S_drew)); exact Kd.S_mono (Kd.S_far (p := ⟨gb170, 1, none⟩) (Kd.S_mono HO_3.out (fun k_ hk => (⟨hk, hk.1.2⟩ : _ ∧ k_ ≠ gb170))) (fun _ hk => hk.2) (.slice Ao29 y180.length co29)) (fun _ hk => ⟨hk.1.1.1, ⟨hk.1.2, hk.1.1.2⟩⟩)⟩, ⟨by (with_reducible repeat (first | apply Kd.R_alloc | apply Kd.R_drewN | apply Kd.R_drew)); exact Kd.R_mono (Kd.R_far (p := ⟨gb170, 1, none⟩) (Kd.R_types HO_171000.out BK170.out (by decide)) (fun _ hk => hk.2) (.slice Ao29 y180.length co29)) (fun _ hk => hk.1.2)⟩, ⟨by (with_reducible repeat (first | apply Kd.R_alloc | apply Kd.R_drewN | apply Kd.R_drew)); exact Kd.R_mono (Kd.R_far (p := ⟨gb170, 1, none⟩) (Kd.R_types HO182.out BK170.out (by decide)) (fun _ hk => hk.2) (.slice Ao29 y180.length co29)) (fun _ hk => hk.1)⟩, ⟨by (with_reducible repeat (first | refine blk_drewN ?_ _ | refine blk_drew ?_ | refine blk_alloc ?_ _)); refine blk_put (cs := #[u171000, u171001]) ?_ 1 _ rfl; (with_reducible repeat (first | refine blk_drewN ?_ _ | refine blk_drew ?_ | refine blk_alloc ?_ _)); exact BK170.out⟩, ⟨by repeat (first | (with_reducible first | exact HI0.out | apply IsS194.alloc | apply IsS194.drewN | apply IsS194.drew | apply IsS194.set_1 | apply IsS194.set_2 | refine IsS194.far ?_ NB0_170.out _) | exact HI0.out)⟩, ⟨by repeat (first | (with_reducible first | exact HK.out | apply KeepBut.set_ | apply keep_drewN | apply keep_drew | apply keep_alloc | refine keep_far ?_ GW170.out _) | exact HK.out)⟩, ⟨by repeat (first | (with_reducible first | exact HB.out | apply below_alloc | apply pw_below_drewN | apply below_drew1 | refine below_set ?_ (IsS194.ge HI0.out) | refine below_set ?_ GE170.out) | exact HB.out)⟩⟩
           ·rw [if_neg c24] at H
            exact absurd H (by simp)
          ·replace c23 := Bool.eq_false_iff.mpr c23
           subst c23
           have H1 : (spec_l25Some.l2 k3 x3_1 t167 x5_1 (wrap64 (x8_3 + 1)) s0_0 t178 t179 x171000_2 x171001_3) = some (r1, r2, r3) := by first | rfl | (rw [if_neg (show ¬ (false = true) by decide)] at H; exact H)
           clear H
           have H := H1
           clear H1
           have H' := Aside0.mk H
           clear H
           go_wp2_with (first | ((with_reducible refine gate_callee (f := 156) rfl ?_); refine goesL_ (some 36) rfl rfl Try.func156 (by kernel_rfl) rfl #[.pointer (some ⟨g, 0, none⟩), .int .i64 5] rfl (by (try simp only [List.map_toArray, List.map_cons, List.map_nil]); first | done | rfl | (simp only [List.length_drop, List.length_take]; rfl)) ?_; (with_reducible refine (spec_l1Once.calls g s0_0 x1001_3 x1002_3 5 false t178 t179 w0 _ ?side1 ?side2 A22.out).mono ?_); (case side1 => repeat (first | (with_reducible first | exact HI0.out | apply IsS194.alloc | apply IsS194.drewN | apply IsS194.drew | apply IsS194.set_1 | apply IsS194.set_2 | refine IsS194.far ?_ NB0_170.out _) | exact HI0.out)); (case side2 => repeat (first | (with_reducible first | exact HB.out | apply below_alloc | apply pw_below_drewN | apply below_drew1 | refine below_set ?_ (IsS194.ge HI0.out) | refine below_set ?_ GE170.out) | exact HB.out)); rintro e w31 ⟨rfl, hi, hb, hk⟩; refine ⟨_, rfl, ?_⟩; have n0_ := Aside0.mk (Kd.S_mono (Kd.S_keep (IsS194.apartS (show IsS194 w0 _ g s0_0 x1001_3 x1002_3 from by repeat (first | (with_reducible first | exact HI0.out | apply IsS194.alloc | apply IsS194.drewN | apply IsS194.drew | apply IsS194.set_1 | apply IsS194.set_2 | refine IsS194.far ?_ NB0_170.out _) | exact HI0.out)) (by (with_reducible repeat (first | apply Kd.S_alloc | apply Kd.S_drewN | apply Kd.S_drew)); exact HO_3.out) (by decide)) hk (fun _ h => h.2)) (fun _ h => h.1)); have n1_ := Aside0.mk (Kd.R_mono (Kd.R_keep (IsS194.apart (show IsS194 w0 _ g s0_0 x1001_3 x1002_3 from by repeat (first | (with_reducible first | exact HI0.out | apply IsS194.alloc | apply IsS194.drewN | apply IsS194.drew | apply IsS194.set_1 | apply IsS194.set_2 | refine IsS194.far ?_ NB0_170.out _) | exact HI0.out)) (by (with_reducible repeat (first | apply Kd.R_alloc | apply Kd.R_drewN | apply Kd.R_drew)); exact HO_171000.out) (by decide)) hk (fun _ h => h.2)) (fun _ h => h.1)); have n2_ := Aside0.mk (Kd.R_mono (Kd.R_keep (IsS194.apart (show IsS194 w0 _ g s0_0 x1001_3 x1002_3 from by repeat (first | (with_reducible first | exact HI0.out | apply IsS194.alloc | apply IsS194.drewN | apply IsS194.drew | apply IsS194.set_1 | apply IsS194.set_2 | refine IsS194.far ?_ NB0_170.out _) | exact HI0.out)) (by (with_reducible repeat (first | apply Kd.R_alloc | apply Kd.R_drewN | apply Kd.R_drew)); exact HO_171001.out) (by decide)) hk (fun _ h => h.2)) (fun _ h => h.1)); have n3_ := Aside0.mk (KeepBut.blk hk (g' := gb170) (o := .cells #[u171000, u171001] 95 (0, 0)) (by (with_reducible repeat (first | refine blk_drewN ?_ _ | refine blk_drew ?_ | refine blk_alloc ?_ _)); exact BK170.out) NB170_0.out (by simp)); have n4_ := Aside0.mk (KeepBut.trans (by repeat (first | (with_reducible first | exact HK.out | apply KeepBut.set_ | apply keep_drewN | apply keep_drew | apply keep_alloc | refine keep_far ?_ GW170.out _) | exact HK.out)) hk (.inl rfl)); have n5_ := Aside0.mk (hb); have n6_ := Aside0.mk (hi); clear HO_3; clear HO_171000; clear HO_171001; clear BK170; clear HK; clear HB; clear HI0; have HO_3 := n0_; have HO_171000 := n1_; have HO_171001 := n2_; have BK170 := n3_; have HK := n4_; have HB := n5_; have HI0 := n6_; clear n0_ n1_ n2_ n3_ n4_ n5_ n6_; (try clear hb); (try clear hb2); (try clear hk); (try clear hi)))
           go_roundg k3
           case measure => have := HK1.out; have := HK2.out; have := HK3.out; omega
           case rel => exact ⟨(wrap64 (x8_3 + 1)), (t178), (t179), (x171001_3), (u171001), (by first | rfl | (simp; done) | (simp [*]; done)), H', ⟨by have := HK1.out; have := HK2.out; have := HK3.out; omega⟩, ⟨by (with_reducible repeat (first | apply Kd.S_alloc | apply Kd.S_drewN | apply Kd.S_drew)); exact HO_3.out⟩, ⟨by (with_reducible repeat (first | apply Kd.R_alloc | apply Kd.R_drewN | apply Kd.R_drew)); exact HO_171000.out⟩, ⟨by (with_reducible repeat (first | apply Kd.R_alloc | apply Kd.R_drewN | apply Kd.R_drew)); exact HO_171001.out⟩, ⟨by (with_reducible repeat (first | refine blk_drewN ?_ _ | refine blk_drew ?_ | refine blk_alloc ?_ _)); exact BK170.out⟩, ⟨by repeat (first | (with_reducible first | exact HI0.out | apply IsS194.alloc | apply IsS194.drewN | apply IsS194.drew | apply IsS194.set_1 | apply IsS194.set_2 | refine IsS194.far ?_ NB0_170.out _) | exact HI0.out)⟩, ⟨by repeat (first | (with_reducible first | exact HK.out | apply KeepBut.set_ | apply keep_drewN | apply keep_drew | apply keep_alloc | refine keep_far ?_ GW170.out _) | exact HK.out)⟩, ⟨by repeat (first | (with_reducible first | exact HB.out | apply below_alloc | apply pw_below_drewN | apply below_drew1 | refine below_set ?_ (IsS194.ge HI0.out) | refine below_set ?_ GE170.out) | exact HB.out)⟩⟩
         ·rw [if_neg c21] at H
          have c21b0 : decide (x8_3 < t167) = false := decide_eq_false c21
          clear c21
          by_cases c32 : x3_1.length < 2932031007402
          ·rw [if_pos c32] at H
           have LMc32 := Aside0.mk c32
           clear c32
           obtain ⟨y183, hy183⟩ : ∃ y_ : List (S95), y_ = (x3_1 ++ [(⟨x171000_2, x171001_3⟩ : S95)]) := ⟨_, rfl⟩
           replace H : (spec_l25Some.l0 k3 y183 t167 (wrap64 (x5_1 + 1)) s0_0 x1001_3 x1002_3) = some (r1, r2, r3) := by first | (rw [hy183]; with_reducible exact H) | (have H2_ := (Option.bind_some _ _).symm.trans H; rw [hy183]; with_reducible exact H2_) | (have H2_ := (Option.bind_some _ _).symm.trans H; with_reducible exact H2_) | with_reducible exact H | (rw [hy183]; exact H) | exact H
           have Ny183 := Aside0.mk hy183
           clear hy183
           have H' := Aside0.mk H
           clear H
           have hnb33 := NB170_0.out
           have hnc33 := NB0_170.out
           have hcz34_0 : wr.cell? ⟨gb170, 0, none⟩ = some (u171000) := (blk_cell BK170.out 0).trans rfl
           have hcz34_1 : wr.cell? ⟨gb170, 1, none⟩ = some (u171001) := (blk_cell BK170.out 1).trans rfl
           have hfz34_0 := blk_frozen BK170.out 0
           have hfz34_1 := blk_frozen BK170.out 1
           obtain ⟨Ao36, co36, eo36⟩ := Kd.R_slice HO_171000.out
           subst eo36
           obtain ⟨Ao37, co37, eo37⟩ := Kd.R_slice HO_171001.out
           subst eo37
           go_wp2_with (first | ((with_reducible refine gate_builtin (b := .append) (xs := #[.tmp 43, .tmp 45]) rfl ?_); at_builtin; refine Kd.S_append kA w.heap.size rfl (.tmp 43) (.tmp 45) 82 95 (.agg #[(.slice none 0 0), (.slice none 0 0)]) 48 rfl Try.underlying82 info95 rfl (by decide) (by omega) u3 x3_1 (⟨x171000_2, x171001_3⟩ : S95) [.slice Ao36 x171000_2.length co36, .slice Ao37 x171001_3.length co37] (fun k_ => k_ ≠ gb170) (fun k_ => some k_ = (.slice Ao36 x171000_2.length co36 : Value).ownBlock ∨ some k_ = (.slice Ao37 x171001_3.length co37 : Value).ownBlock) rfl rfl ?aP (fun k_ hk_ => hk_.elim (fun h_ => ((Kd.R_mono (ok' := fun k_ => ((fun k_ => k_ ≠ gb170)) k_ ∧ some k_ ≠ (u3 : Value).ownBlock) (Kd.R_types (Kd.R_apart' (HO_171000.out) (Kd.S_typed HO_3.out) (by decide)) BK170.out (by decide)) (fun k_ hk => ⟨hk.2, hk.1.2⟩))).1 k_ h_.symm) (fun h_ => ((Kd.R_mono (ok' := fun k_ => ((fun k_ => k_ ≠ gb170)) k_ ∧ some k_ ≠ (u3 : Value).ownBlock) (Kd.R_types (Kd.R_apart' (HO_171001.out) (Kd.S_typed HO_3.out) (by decide)) BK170.out (by decide)) (fun k_ hk => ⟨hk.2, hk.1.2⟩))).1 k_ h_.symm)) ?aF ?aO (Below.refl _ _) ?aS ?aL ?_; (case aP => exact kA_mk (k95_mkM _ _ _ (⟨x171000_2, x171001_3⟩ : S95) (Kd.R_mono (Kd.R_tight rfl (Kd.R_mono (ok' := fun k_ => ((fun k_ => k_ ≠ gb170)) k_ ∧ some k_ ≠ (u3 : Value).ownBlock) (Kd.R_types (Kd.R_apart' (HO_171000.out) (Kd.S_typed HO_3.out) (by decide)) BK170.out (by decide)) (fun k_ hk => ⟨hk.2, hk.1.2⟩))) (fun _ h_ => Or.inl h_)) (Kd.R_mono (Kd.R_tight rfl (Kd.R_mono (ok' := fun k_ => ((fun k_ => k_ ≠ gb170)) k_ ∧ some k_ ≠ (u3 : Value).ownBlock) (Kd.R_types (Kd.R_apart' (HO_171001.out) (Kd.S_typed HO_3.out) (by decide)) BK170.out (by decide)) (fun k_ hk => ⟨hk.2, hk.1.2⟩))) (fun _ h_ => Or.inr (h_)))) (ap_mk (fun k_ h_ => by have h2_ := HO_171001.out.1 k_ h_; first | exact h2_ | exact h2_.1 | exact h2_.2))); (case aF => exact (fun k_ hk => Kd.freshB (g := gb170) (o := .cells #[.slice Ao36 x171000_2.length co36, .slice Ao37 x171001_3.length co37] 95 (0, 0)) (by (with_reducible repeat (first | refine blk_drewN ?_ _ | refine blk_drew ?_ | refine blk_alloc ?_ _)); exact BK170.out) k_ hk)); (case aO => exact (by (with_reducible repeat (first | apply Kd.S_alloc | apply Kd.S_drewN | apply Kd.S_drew)); exact Kd.S_mono HO_3.out (fun k_ hk => ⟨hk.2.2, fun e_ => e_.elim (fun h_ => hk.1 h_) (fun h_ => hk.2.1 h_)⟩))); (case aS => exact (keep_size (w := w) (g := g) (row := none) (by repeat (first | (with_reducible first | exact HK.out | apply KeepBut.set_ | apply keep_drewN | apply keep_drew | apply keep_alloc | refine keep_far ?_ GW170.out _) | exact HK.out)))); (case aL => have := LMc32.out; omega); intro v184 w35 ho hb hg hat; rw [← Ny183.out] at ho; have n0_ := Aside0.mk (blk_grown (g := gb170) (o := .cells #[.slice Ao36 x171000_2.length co36, .slice Ao37 x171001_3.length co37] 95 (0, 0)) (by (with_reducible repeat (first | refine blk_drewN ?_ _ | refine blk_drew ?_ | refine blk_alloc ?_ _)); exact BK170.out) hg (Kd.S_away HO_3.out (fun _ hk => hk.2.2))); have n1_ := Aside0.mk (IsS194.grown (by repeat (first | (with_reducible first | exact HI0.out | apply IsS194.alloc | apply IsS194.drewN | apply IsS194.drew | apply IsS194.set_1 | apply IsS194.set_2 | refine IsS194.far ?_ NB0_170.out _) | exact HI0.out)) hg (IsS194.own_neS HI0.out HO_3.out (by decide))); have n2_ := Aside0.mk (below_weaken (by repeat (first | (with_reducible first | exact HB.out | apply below_alloc | apply pw_below_drewN | apply below_drew1 | refine below_set ?_ (IsS194.ge HI0.out) | refine below_set ?_ GE170.out) | exact HB.out)) HL.out hb); have n3_ := Aside0.mk (KeepBut.trans (by repeat (first | (with_reducible first | exact HK.out | apply KeepBut.set_ | apply keep_drewN | apply keep_drew | apply keep_alloc | refine keep_far ?_ GW170.out _) | exact HK.out)) (KeepBut.of_grown hg g) (Kd.S_base2 HO_3.out)); have n4_ := Aside0.mk (ho); clear BK170; clear HI0; clear HB; clear HK; clear HO_3; clear HO_171000; clear HO_171001; have BK170 := n0_; have HI0 := n1_; have HB := n2_; have HK := n3_; have HO185 := n4_; clear n0_ n1_ n2_ n3_ n4_; clear ho hb hg hat))
           go_roundg k3
           case measure => have := HK1.out; have := HK2.out; have := HK3.out; omega
           case rel => exact ⟨(y183), (wrap64 (x5_1 + 1)), (x1001_3), (x1002_3), (by first | rfl | (simp; done) | (simp [*]; done)), H', ⟨by have := HK1.out; have := HK2.out; have := HK3.out; omega⟩, ⟨by (with_reducible repeat (first | apply Kd.S_alloc | apply Kd.S_drewN | apply Kd.S_drew)); exact Kd.S_mono HO185.out (fun _ hk => trivial)⟩, ⟨by repeat (first | (with_reducible first | exact HI0.out | apply IsS194.alloc | apply IsS194.drewN | apply IsS194.drew | apply IsS194.set_1 | apply IsS194.set_2 | refine IsS194.far ?_ NB0_170.out _) | exact HI0.out)⟩, ⟨by repeat (first | (with_reducible first | exact HK.out | apply KeepBut.set_ | apply keep_drewN | apply keep_drew | apply keep_alloc | refine keep_far ?_ GW170.out _) | exact HK.out)⟩, ⟨by repeat (first | (with_reducible first | exact HB.out | apply below_alloc | apply pw_below_drewN | apply below_drew1 | refine below_set ?_ (IsS194.ge HI0.out) | refine below_set ?_ GE170.out) | exact HB.out)⟩⟩
          ·rw [if_neg c32] at H
           exact absurd H (by simp)
   ·rw [if_neg c6] at H
    have c6b0 : decide (x5_1 < t167) = false := decide_eq_false c6
    clear c6
    have HC38 := Aside0.mk H
    clear H
    go_upto_region 18 with (fail)
    go_cut [52] (fun v52 wc => ∃ (kq : Nat) (x52_37 : Bool) (x1001_37 : Int) (x1002_37 : Int), v52 = .bool x52_37 ∧ Aside0 (spec_l25Some.j3 kq x3_1 t167 x52_37 s0_0 x1001_37 x1002_37 = some (r1, r2, r3)) ∧ Aside0 (kq ≤ k1) ∧ Aside0 (Kd.S kA 95 wc w.heap.size (fun _ => True) u3 x3_1) ∧ Aside0 (IsS194 w0 wc g s0_0 x1001_37 x1002_37) ∧ Aside0 (KeepBut w wc g none) ∧ Aside0 (Below w0.heap.size w0 wc))
    case first =>
     have H := HC38.out
     clear HC38
     by_cases c39 : t167 > 0
     ·rw [if_pos c39] at H
      have c39b0 : decide (0 < t167) = true := decide_eq_true c39
      clear c39
      (first | rw [c39b0] | (simp only [i64_w, i32_w]; rw [c39b0]) | skip)
      replace H := Option.bind_eq_some_iff.mp H
      obtain ⟨⟨t186, t187, t188⟩, A400, H⟩ := H
      replace H : (spec_l25Some.j3 k1 x3_1 t167 t186 s0_0 t187 t188) = some (r1, r2, r3) := H
      have A40 := Aside0.mk A400
      clear A400
      have H' := Aside0.mk H
      clear H
      go_wp2_with (first | (go_at_call 156; (with_reducible refine (spec_l1Once.calls g s0_0 x1001_1 x1002_1 12 t186 t187 t188 w0 _ ?side1 ?side2 A40.out).mono ?_); (case side1 => repeat (first | (with_reducible first | exact HI0.out | apply IsS194.alloc | apply IsS194.drewN | apply IsS194.drew | apply IsS194.set_1 | apply IsS194.set_2) | exact HI0.out)); (case side2 => repeat (first | (with_reducible first | exact HB.out | apply below_alloc | apply pw_below_drewN | apply below_drew1 | refine below_set ?_ (IsS194.ge HI0.out)) | exact HB.out)); rintro e w41 ⟨rfl, hi, hb, hk⟩; have n0_ := Aside0.mk (Kd.S_mono (Kd.S_keep (IsS194.apartS (show IsS194 w0 _ g s0_0 x1001_1 x1002_1 from by repeat (first | (with_reducible first | exact HI0.out | apply IsS194.alloc | apply IsS194.drewN | apply IsS194.drew | apply IsS194.set_1 | apply IsS194.set_2) | exact HI0.out)) (by (with_reducible repeat (first | apply Kd.S_alloc | apply Kd.S_drewN | apply Kd.S_drew)); exact HO_3.out) (by decide)) hk (fun _ h => h.2)) (fun _ h => h.1)); have n1_ := Aside0.mk (KeepBut.trans (by repeat (first | (with_reducible first | exact HK.out | apply KeepBut.set_ | apply keep_drewN | apply keep_drew | apply keep_alloc) | exact HK.out)) hk (.inl rfl)); have n2_ := Aside0.mk (hb); have n3_ := Aside0.mk (hi); clear HO_3; clear HK; clear HB; clear HI0; have HO_3 := n0_; have HK := n1_; have HB := n2_; have HI0 := n3_; clear n0_ n1_ n2_ n3_; (try clear hb); (try clear hb2); (try clear hk); (try clear hi)))
      go_meet
      case rel => exact ⟨_, (t186), (t187), (t188), (by first | rfl | (simp; done) | (simp [*]; done)), H', ⟨by have := HK1.out; first | omega | exact Nat.le_refl _⟩, ⟨by (with_reducible repeat (first | apply Kd.S_alloc | apply Kd.S_drewN | apply Kd.S_drew)); exact HO_3.out⟩, ⟨by repeat (first | (with_reducible first | exact HI0.out | apply IsS194.alloc | apply IsS194.drewN | apply IsS194.drew | apply IsS194.set_1 | apply IsS194.set_2) | exact HI0.out)⟩, ⟨by repeat (first | (with_reducible first | exact HK.out | apply KeepBut.set_ | apply keep_drewN | apply keep_drew | apply keep_alloc) | exact HK.out)⟩, ⟨by repeat (first | (with_reducible first | exact HB.out | apply below_alloc | apply pw_below_drewN | apply below_drew1 | refine below_set ?_ (IsS194.ge HI0.out)) | exact HB.out)⟩⟩
     ·rw [if_neg c39] at H
      have c39b0 : decide (0 < t167) = false := decide_eq_false c39
      clear c39
      (first | rw [c39b0] | (simp only [i64_w, i32_w]; rw [c39b0]) | skip)
      have H' := Aside0.mk H
      clear H
      go_wp2
      go_meet
      case rel => exact ⟨_, (false), (x1001_1), (x1002_1), (by first | rfl | (simp; done) | (simp [*]; done)), H', ⟨by have := HK1.out; first | omega | exact Nat.le_refl _⟩, ⟨by (with_reducible repeat (first | apply Kd.S_alloc | apply Kd.S_drewN | apply Kd.S_drew)); exact HO_3.out⟩, ⟨by repeat (first | (with_reducible first | exact HI0.out | apply IsS194.alloc | apply IsS194.drewN | apply IsS194.drew | apply IsS194.set_1 | apply IsS194.set_2) | exact HI0.out)⟩, ⟨by repeat (first | (with_reducible first | exact HK.out | apply KeepBut.set_ | apply keep_drewN | apply keep_drew | apply keep_alloc) | exact HK.out)⟩, ⟨by repeat (first | (with_reducible first | exact HB.out | apply below_alloc | apply pw_below_drewN | apply below_drew1 | refine below_set ?_ (IsS194.ge HI0.out)) | exact HB.out)⟩⟩
    case rest =>
     clear HC38
     try clear c1
     try clear c2
     try clear p2
     try clear c3
     try clear c6
     try clear c6b0
     try clear p6
     try clear c8
     try clear c10
     try clear c10b0
     try clear c12
     try clear c13
     try clear c15
     try clear c21
     try clear c21b0
     try clear c23
     try clear c24
     try clear c26
     try clear c32
     try clear c33
     try clear c39
     try clear c39b0
     try clear hcz16_0
     try clear hcz16_1
     try clear hcz19_0
     try clear hcz19_1
     try clear hcz27_0
     try clear hcz27_1
     try clear hcz30_0
     try clear hcz30_1
     try clear hcz34_0
     try clear hcz34_1
     try clear hcz9_0
     try clear hcz9_1
     try clear hfz16_0
     try clear hfz16_1
     try clear hfz19_0
     try clear hfz19_1
     try clear hfz27_0
     try clear hfz27_1
     try clear hfz30_0
     try clear hfz30_1
     try clear hfz34_0
     try clear hfz34_1
     try clear hfz9_0
     try clear hfz9_1
     try clear p2
     try clear p6
     obtain ⟨kq, x52_37, x1001_37, x1002_37, rfl, HA, HJ37, HO_3, HI0, HK, HB⟩ := hcut
     cases kq with
     | zero => exact absurd HA.out (by simp [spec_l25Some.j3])
     | succ kj37 =>
      have H := HA.out
      clear HA
      simp only [spec_l25Some.j3] at H
      have HC42 := Aside0.mk H
      clear H
      go_upto_if 52 with (fail)
      go_cut [] (fun wc => ∃ (kq : Nat) (x3_41 : List (S95)) (x1001_41 : Int) (x1002_41 : Int), Aside0 (spec_l25Some.j4 kq x3_41 t167 s0_0 x1001_41 x1002_41 = some (r1, r2, r3)) ∧ Aside0 (kq ≤ kj37) ∧ Aside0 (Kd.S kA 95 wc w.heap.size (fun _ => True) u3 x3_41) ∧ Aside0 (IsS194 w0 wc g s0_0 x1001_41 x1002_41) ∧ Aside0 (KeepBut w wc g none) ∧ Aside0 (Below w0.heap.size w0 wc))
      case first =>
       have H := HC42.out
       clear HC42
       by_cases c43 : x52_37 = true
       ·subst c43
        have H1 : (if 0 < (x3_1.length : Int) then ((spec_l1Below.f s0_0 x1001_37 x1002_37 8).bind fun bt190 => (if ((rd_T95 x3_1 0).f1).length < 17592186044416 then (spec_l25Some.j4 kj37 (x3_1.set (0 : Int).toNat (⟨(rd_T95 x3_1 0).f0, (((rd_T95 x3_1 0).f1) ++ [bt190.1])⟩ : S95)) t167 s0_0 bt190.2.1 bt190.2.2) else (none))) else (none)) = some (r1, r2, r3) := by first | rfl | (rw [if_pos rfl] at H; exact H)
        clear H
        have H := H1
        clear H1
        by_cases c44 : 0 < (x3_1.length : Int)
        ·rw [if_pos c44] at H
         have c44b0 : decide (0 < (x3_1.length : Int)) = true := decide_eq_true c44
         have c44b1 : decide (0 < x3_1.length) = true := decide_eq_true (by omega)
         clear c44
         (first | rw [c44b0] | (simp only [i64_w, i32_w]; rw [c44b0]) | skip)
         replace H := Option.bind_eq_some_iff.mp H
         obtain ⟨⟨t190, t191, t192⟩, A450, H⟩ := H
         replace H : (if ((rd_T95 x3_1 0).f1).length < 17592186044416 then (spec_l25Some.j4 kj37 (x3_1.set (0 : Int).toNat (⟨(rd_T95 x3_1 0).f0, (((rd_T95 x3_1 0).f1) ++ [t190])⟩ : S95)) t167 s0_0 t191 t192) else (none)) = some (r1, r2, r3) := H
         have A45 := Aside0.mk A450
         clear A450
         by_cases c46 : ((rd_T95 x3_1 0).f1).length < 17592186044416
         ·rw [if_pos c46] at H
          have LMc46 := Aside0.mk c46
          clear c46
          obtain ⟨y193, hy193⟩ : ∃ y_ : List Int, y_ = (((rd_T95 x3_1 0).f1) ++ [t190]) := ⟨_, rfl⟩
          replace H : (spec_l25Some.j4 kj37 (x3_1.set (0 : Int).toNat (⟨(rd_T95 x3_1 0).f0, y193⟩ : S95)) t167 s0_0 t191 t192) = some (r1, r2, r3) := by first | (rw [hy193]; with_reducible exact H) | (have H2_ := (Option.bind_some _ _).symm.trans H; rw [hy193]; with_reducible exact H2_) | (have H2_ := (Option.bind_some _ _).symm.trans H; with_reducible exact H2_) | with_reducible exact H | (rw [hy193]; exact H) | exact H
          have Ny193 := Aside0.mk hy193
          clear hy193
          obtain ⟨y196, hy196⟩ : ∃ y_ : List (S95), y_ = (x3_1.set (0 : Int).toNat (⟨(rd_T95 x3_1 0).f0, y193⟩ : S95)) := ⟨_, rfl⟩
          replace H : (spec_l25Some.j4 kj37 y196 t167 s0_0 t191 t192) = some (r1, r2, r3) := by first | (rw [hy196]; with_reducible exact H) | (have H2_ := (Option.bind_some _ _).symm.trans H; rw [hy196]; with_reducible exact H2_) | (have H2_ := (Option.bind_some _ _).symm.trans H; with_reducible exact H2_) | with_reducible exact H | (rw [hy196]; exact H) | exact H
          have Ny196 := Aside0.mk hy196
          clear hy196
          have H' := Aside0.mk H
          clear H
          try go_wp2
          have n0_ := Aside0.mk (Kd.S_drew HO_3.out)
          have n1_ := Aside0.mk (IsS194.drew HI0.out)
          have n2_ := Aside0.mk (keep_drew HK.out)
          have n3_ := Aside0.mk (below_drew1 HB.out)
          clear HO_3
          clear HI0
          clear HK
          clear HB
          have HO_3 := n0_
          have HI0 := n1_
          have HK := n2_
          have HB := n3_
          clear n0_ n1_ n2_ n3_
          obtain ⟨Ao49, co49, eo49⟩ := Kd.S_slice HO_3.out
          (first | subst eo49 | (injection eo49 with f1_ f2_ f3_; have f4_ := f1_.symm; have f5_ := f3_.symm; clear f1_ f2_ f3_; subst f4_; subst f5_))
          have p189 : 0 ≤ (0 : Int) := (by omega)
          have q189 : 0 < (x3_1.length : Int) := of_decide_eq_true (by first | (with_reducible assumption) | assumption)
          obtain ⟨ad189, A189_0, c189_0, A189_1, c189_1, e189, hx189_0, hx189_1, hl189_0, hi189_0, hl189_1, hi189_1⟩ := at_T95 (kA_C (Kd.S_reads' HO_3.out).2.2) 0 p189 q189
          cases e189
          obtain ⟨ce189, hce189, hMe189, hcc189⟩ := Kd.S_get HO_3.out z95 0 p189 (by first | exact q189 | exact of_decide_eq_true (by first | (with_reducible assumption) | assumption) | (have e_ := (Kd.S_reads' HO_3.out).1; omega))
          obtain ⟨ve189_0, ve189_1, rfl, ge189_0, ge189_1⟩ := k95_openM hMe189.1
          have hv189_0 := hcc189 0 _ rfl
          rw [Nat.add_zero] at hv189_0
          replace hv189_0 := Option.some.inj (hv189_0.symm.trans hx189_0)
          rw [hv189_0] at ge189_0
          have HL189_0 := Aside0.mk (show Kd.R (Kd.int .i64) 3 _ _ _ _ ((rd_T95 x3_1 0).f0) from ge189_0)
          clear hv189_0 ge189_0
          have HX189_0 := Aside0.mk hx189_0
          have hv189_1 := hcc189 1 _ rfl
          rw [add_field _ _ 1 (by omega)] at hv189_1
          replace hv189_1 := Option.some.inj (hv189_1.symm.trans hx189_1)
          rw [hv189_1] at ge189_1
          have HL189_1 := Aside0.mk (show Kd.R (Kd.int .i64) 3 _ _ _ _ ((rd_T95 x3_1 0).f1) from ge189_1)
          clear hv189_1 ge189_1
          have HX189_1 := Aside0.mk hx189_1
          clear hcc189 hce189
          have qi189 : (0 < x3_1.length) = True := eq_true (by omega)
          (try rw [show ((0 : Int)).toNat = 0 from rfl] at hx189_0)
          (try rw [show 0 * 2 = 0 from rfl] at hx189_0)
          (try rw [Addr.add_zero'] at hx189_0)
          (try rw [show ((0 : Int)).toNat = 0 from rfl] at hx189_1)
          (try rw [show 0 * 2 = 0 from rfl] at hx189_1)
          (try rw [Addr.add_zero'] at hx189_1)
          have HR189_0 := Aside0.mk hi189_0
          have HC189_0 := Aside0.mk hl189_0
          clear hi189_0 hl189_0
          have HR189_1 := Aside0.mk hi189_1
          have HC189_1 := Aside0.mk hl189_1
          clear hi189_1 hl189_1
          replace p189 := eq_true p189
          replace q189 := eq_true q189
          refine start_ (n := 12) (S := fun w' => w'.cell? ad189 = some (.slice A189_0 ((rd_T95 x3_1 0).f0).length c189_0) ∧ w'.cell? ⟨ad189.block, ad189.off + 1, none⟩ = some (.slice A189_1 ((rd_T95 x3_1 0).f1).length c189_1)) (ds := [11]) #[false, false, false, false, false, false, false, false, false, false, false, false] (by kernel_rfl) rfl rfl ⟨hx189_0, hx189_1⟩ (fun hHeld => ?_); refine with_tabW spec_l25Some.tab19 spec_l25Some.bits19 (fun HT_ HW_ => ?_)
          generalize wc.drew = w48 at HO_3 HI0 HK HB HL189_0 HL189_1 HR189_0 HR189_1 HX189_0 HX189_1 hx189_0 hx189_1 hHeld ⊢
          refine pure_ (i := 0) (N := some 53) (v := ?_) (a' := ?_) #[true, false, false, false, false, false, false, false, false, false, false, false] rfl rfl (any_of HT_.out (by kernel_rfl)) (fun _ _ _ h => h) (Or.inl ⟨by rfl, ?_⟩) ?_ ?_
          rotate_left
          ·intro w'
           go_simp
           with_reducible rfl
          rotate_left
          ·simp only [Act.put, List.setIfInBounds_toArray, List.set_cons_zero, List.set_cons_succ, i64_w, i32_w]
           rfl
          refine pure_ (i := 1) (N := some 54) (v := ?_) (a' := ?_) #[true, true, false, false, false, false, false, false, false, false, false, false] rfl rfl (any_of HT_.out (by kernel_rfl)) (fun _ _ _ h => h) (Or.inl ⟨by rfl, ?_⟩) ?_ ?_
          rotate_left
          ·intro w'
           go_simp
           with_reducible rfl
          rotate_left
          ·simp only [Act.put, List.setIfInBounds_toArray, List.set_cons_zero, List.set_cons_succ, i64_w, i32_w]
           rfl
          refine pure_ (i := 2) (N := some 55) (v := ?_) (a' := ?_) #[true, true, true, false, false, false, false, false, false, false, false, false] rfl rfl (any_of HT_.out (by kernel_rfl)) (fun _ _ _ h => h) (Or.inl ⟨by rfl, ?_⟩) ?_ ?_
          rotate_left
          ·intro w'
           go_simp
           with_reducible rfl
          rotate_left
          ·simp only [Act.put, List.setIfInBounds_toArray, List.set_cons_zero, List.set_cons_succ, i64_w, i32_w]
           rfl
          refine pure_ (i := 3) (N := some 56) (v := ?_) (a' := ?_) #[true, true, true, true, false, false, false, false, false, false, false, false] rfl rfl (any_of HT_.out (by kernel_rfl)) (fun _ _ _ h => h) (Or.inl ⟨by rfl, ?_⟩) ?_ ?_
          rotate_left
          ·intro w'
           go_simp
           with_reducible rfl
          rotate_left
          ·simp only [Act.put, List.setIfInBounds_toArray, List.set_cons_zero, List.set_cons_succ, i64_w, i32_w]
           rfl
          refine pure_ (i := 5) (N := some 58) (v := ?_) (a' := ?_) #[true, true, true, true, false, true, false, false, false, false, false, false] rfl rfl (any_of HT_.out (by kernel_rfl)) (fun _ _ _ h => h) (Or.inl ⟨by rfl, ?_⟩) ?_ ?_
          rotate_left
          ·intro w'
           go_simp
           with_reducible rfl
          rotate_left
          ·simp only [Act.put, List.setIfInBounds_toArray, List.set_cons_zero, List.set_cons_succ, i64_w, i32_w]
           rfl
          refine take_ (i := 4) (N := some 57) (v := ?_) (a' := ?_) #[true, true, true, true, true, true, false, false, false, false, false, false] rfl rfl (take_ofW HT_.out HW_.out (by kernel_rfl)) (fun _ _ _ h => h) (Or.inl ⟨by rfl, ?_⟩) hHeld ?_ ?_
          rotate_left
          ·rintro w' ⟨s0, s1⟩
           go_simp
           with_reducible rfl
          rotate_left
          ·simp only [Act.put, List.setIfInBounds_toArray, List.set_cons_zero, List.set_cons_succ, i64_w, i32_w]
           rfl
          refine one_ (i := 6) (N := some 59) #[true, true, true, true, true, true, true, false, false, false, false, false] rfl rfl (one_of HT_.out (by kernel_rfl)) (by decide) (fun K hK => ?_)
          refine goes_ Try.func88 (by kernel_rfl) rfl #[.pointer (some ⟨g, 0, none⟩), .int .i64 8] (by rfl) rfl rfl (by (try simp only [List.map_toArray, List.map_cons, List.map_nil]); first | done | rfl | (simp only [List.length_drop, List.length_take]; rfl)) ?_
          with_reducible refine (spec_l1Below.calls g s0_0 x1001_37 x1002_37 8 t190 t191 t192 w0 _ ?side1 ?side2 A45.out).mono ?_
          (case side1 => repeat (first | (with_reducible first | exact HI0.out | apply IsS194.alloc | apply IsS194.drewN | apply IsS194.drew | apply IsS194.set_1 | apply IsS194.set_2) | exact HI0.out))
          (case side2 => repeat (first | (with_reducible first | exact HB.out | apply below_alloc | apply pw_below_drewN | apply below_drew1 | refine below_set ?_ (IsS194.ge HI0.out)) | exact HB.out))
          rintro e w50 ⟨rfl, hi, hb, hk⟩
          have HS0_ := keep_cell hk (hHeld.1) (by first | (rw [add_block]; exact Kd.own_blk (IsS194.own_neS HI0.out HO_3.out (by decide))) | (show (Addr.add _ _).block ≠ _; rw [add_block]; exact Kd.own_blk (IsS194.own_neS HI0.out HO_3.out (by decide))) | exact Kd.own_blk (IsS194.own_neS HI0.out HO_3.out (by decide)) | (dsimp only; exact Kd.own_blk (IsS194.own_neS HI0.out HO_3.out (by decide))))
          have HS1_ := keep_cell hk (hHeld.2) (by first | (rw [add_block]; exact Kd.own_blk (IsS194.own_neS HI0.out HO_3.out (by decide))) | (show (Addr.add _ _).block ≠ _; rw [add_block]; exact Kd.own_blk (IsS194.own_neS HI0.out HO_3.out (by decide))) | exact Kd.own_blk (IsS194.own_neS HI0.out HO_3.out (by decide)) | (dsimp only; exact Kd.own_blk (IsS194.own_neS HI0.out HO_3.out (by decide))))
          refine ⟨_, rfl, ?_⟩
          have n0_ := Aside0.mk (Kd.S_mono (Kd.S_keep (IsS194.apartS (show IsS194 w0 _ g s0_0 x1001_37 x1002_37 from by repeat (first | (with_reducible first | exact HI0.out | apply IsS194.alloc | apply IsS194.drewN | apply IsS194.drew | apply IsS194.set_1 | apply IsS194.set_2) | exact HI0.out)) (by (with_reducible repeat (first | apply Kd.S_alloc | apply Kd.S_drewN | apply Kd.S_drew)); exact HO_3.out) (by decide)) hk (fun _ h => h.2)) (fun _ h => h.1))
          have n1_ := Aside0.mk (Kd.R_mono (Kd.R_keep (IsS194.apart (show IsS194 w0 _ g s0_0 x1001_37 x1002_37 from by repeat (first | (with_reducible first | exact HI0.out | apply IsS194.alloc | apply IsS194.drewN | apply IsS194.drew | apply IsS194.set_1 | apply IsS194.set_2) | exact HI0.out)) (by (with_reducible repeat (first | apply Kd.R_alloc | apply Kd.R_drewN | apply Kd.R_drew)); exact HL189_0.out) (by decide)) hk (fun _ h => h.2)) (fun _ h => h.1))
          have n2_ := Aside0.mk (keep_cell hk HX189_0.out (by first | (rw [add_block]; exact Kd.own_blk (IsS194.own_neS HI0.out HO_3.out (by decide))) | (show (Addr.add _ _).block ≠ _; rw [add_block]; exact Kd.own_blk (IsS194.own_neS HI0.out HO_3.out (by decide))) | exact Kd.own_blk (IsS194.own_neS HI0.out HO_3.out (by decide)) | (dsimp only; exact Kd.own_blk (IsS194.own_neS HI0.out HO_3.out (by decide)))))
          have n3_ := Aside0.mk (Kd.R_mono (Kd.R_keep (IsS194.apart (show IsS194 w0 _ g s0_0 x1001_37 x1002_37 from by repeat (first | (with_reducible first | exact HI0.out | apply IsS194.alloc | apply IsS194.drewN | apply IsS194.drew | apply IsS194.set_1 | apply IsS194.set_2) | exact HI0.out)) (by (with_reducible repeat (first | apply Kd.R_alloc | apply Kd.R_drewN | apply Kd.R_drew)); exact HL189_1.out) (by decide)) hk (fun _ h => h.2)) (fun _ h => h.1))
          have n4_ := Aside0.mk (keep_cell hk HX189_1.out (by first | (rw [add_block]; exact Kd.own_blk (IsS194.own_neS HI0.out HO_3.out (by decide))) | (show (Addr.add _ _).block ≠ _; rw [add_block]; exact Kd.own_blk (IsS194.own_neS HI0.out HO_3.out (by decide))) | exact Kd.own_blk (IsS194.own_neS HI0.out HO_3.out (by decide)) | (dsimp only; exact Kd.own_blk (IsS194.own_neS HI0.out HO_3.out (by decide)))))
          have n5_ := Aside0.mk (KeepBut.trans (by repeat (first | (with_reducible first | exact HK.out | apply KeepBut.set_ | apply keep_drewN | apply keep_drew | apply keep_alloc) | exact HK.out)) hk (.inl rfl))
          have n6_ := Aside0.mk (hb)
          have n7_ := Aside0.mk (hi)
          clear HO_3
          clear HL189_0
          clear HX189_0
          clear HL189_1
          clear HX189_1
          clear HK
          clear HB
          clear HI0
          have HO_3 := n0_
          have HL189_0 := n1_
          have HX189_0 := n2_
          have HL189_1 := n3_
          have HX189_1 := n4_
          have HK := n5_
          have HB := n6_
          have HI0 := n7_
          clear n0_ n1_ n2_ n3_ n4_ n5_ n6_ n7_
          (try clear hb)
          (try clear hb2)
          (try clear hk)
          (try clear hi)
          obtain ⟨go51, co51, eo51, gb51, gl51, cl51, HG51⟩ := Kd.S_form HO_3.out (by have h_ : (0 : Int) < ((x3_1.length : Int) : Int) := of_decide_eq_true (by first | (with_reducible assumption) | assumption); have h2_ : 0 ≤ (0 : Int) := (by omega); omega)
          (first | cases eo51 | (injection eo51 with ea_ en_ ec_; (first | subst ea_ | (injection ea_ with ea_; subst ea_)); subst ec_; clear en_))
          have GB51 := Aside0.mk gb51
          have GG51 := Aside0.mk HG51
          clear gb51 gl51 HG51
          (first | simp only [add_plain] at hx189_0 | skip)
          (first | simp only [add_plain] at hx189_1 | skip)
          obtain ⟨oki51, ce51, hcl51, hM51, hcc51, _, _, hH51⟩ := Kd.S_elem HO_3.out z95 (0 : Int) (by omega) (by have h_ : (0 : Int) < ((x3_1.length : Int) : Int) := of_decide_eq_true (by first | (with_reducible assumption) | assumption); first | exact h_ | (have e_ := (Kd.S_reads' HO_3.out).1; omega) | simpa using h_)
          obtain ⟨ve51_0, ve51_1, rfl, ge51_0, ge51_1⟩ := k95_openM hM51.1
          have AP51 := Aside0.mk (ap_of hM51.2)
          have hv51 := hcc51 1 _ rfl
          have hX51 := HX189_1.out
          (try simp only [add_plain] at hX51)
          (try simp only [Nat.add_zero] at hv51)
          replace hv51 := Option.some.inj (hv51.symm.trans hX51)
          subst hv51
          clear hX51 hcc51 hcl51
          have UU51 := Aside0.mk (show Kd.R (Kd.int .i64) 3 _ w.heap.size oki51 (.slice A189_1 ((rd_T95 x3_1 0).f1).length c189_1) ((rd_T95 x3_1 0).f1) from ge51_1)
          have HH51 := Aside0.mk hH51
          have HN51 := Aside0.mk (Kd.S_reads' HO_3.out).1
          have HE51_0 := Aside0.mk ge51_0
          clear hH51 ge51_0 ge51_1
          refine hK.out _ _ ⟨HS0_, HS1_⟩ (fun hHeld => ?_)
          clear hK K
          refine norm_ (a' := ?_) ?_ ?_
          rotate_left
          ·show Act.put _ (some 59) _ = _
           simp only [Act.put, List.setIfInBounds_toArray, List.set_cons_zero, List.set_cons_succ, i64_w, i32_w]
           rfl
          refine one_ (i := 7) (N := some 60) #[true, true, true, true, true, true, true, true, false, false, false, false] rfl rfl (one_of HT_.out (by kernel_rfl)) (by decide) (fun K hK => ?_)
          refine value_ (w1 := ?_) (v := ?_) (by rfl) rfl ?_ ?_
          rotate_left 2
          ·go_simp
           constructor
           ·rfl
           ·rfl
          refine hK.out _ _ ⟨(World.cell?_alloc_lt _ _ _ (World.block_lt_of_cell? _ _ (hHeld.1))).trans (hHeld.1), (World.cell?_alloc_lt _ _ _ (World.block_lt_of_cell? _ _ (hHeld.2))).trans (hHeld.2)⟩ (fun hHeld => ?_)
          clear hK K
          refine norm_ (a' := ?_) ?_ ?_
          rotate_left
          ·show Act.put _ (some 60) _ = _
           simp only [Act.put, List.setIfInBounds_toArray, List.set_cons_zero, List.set_cons_succ, i64_w, i32_w]
           rfl
          refine one_ (i := 8) (N := some 61) #[true, true, true, true, true, true, true, true, true, false, false, false] rfl rfl (one_of HT_.out (by kernel_rfl)) (by decide) (fun K hK => ?_)
          refine Kd.R_append_step (Kd.int .i64) w.heap.size (by rfl) (.tmp 57) (.tmp 60) 56 3 (.int .i64 0) 8 rfl Try.underlying56 info3 rfl (by decide) (by omega) (.slice A189_1 ((rd_T95 x3_1 0).f1).length c189_1) ((rd_T95 x3_1 0).f1) t190 [.int .i64 t190] (fun k_ => oki51 k_ ∨ ((fun _ => True)) k_ ∧ w50.heap.size ≤ k_) (fun _ => False) rfl rfl ?aP (fun _ hk => hk.elim) ?aF ?aO (Below.refl _ _) ?aS ?aL ?_
          (case aP => exact rfl)
          (case aF => exact (fun k_ hk => .inr ⟨trivial, hk⟩))
          (case aO => exact (by (with_reducible repeat (first | apply Kd.R_alloc | apply Kd.R_drewN | apply Kd.R_drew)); exact Kd.R_mono UU51.out (fun _ hk => .inl hk)))
          (case aS => exact (keep_size (w := w) (g := g) (row := none) (by repeat (first | (with_reducible first | exact HK.out | apply KeepBut.set_ | apply keep_drewN | apply keep_drew | apply keep_alloc) | exact HK.out))))
          (case aL => have := LMc46.out; omega)
          intro v194 w52 ho hb hg hat
          (first | have HS0_ := cell_grown hg (hHeld.1) (by first | (rw [add_block]; exact (fun e_ => ((HL189_1.out.1 _ e_.symm).2) rfl)) | (show some (Addr.add _ _).block ≠ _; rw [add_block]; exact (fun e_ => ((HL189_1.out.1 _ e_.symm).2) rfl)) | exact (fun e_ => ((HL189_1.out.1 _ e_.symm).2) rfl)) | have HS0_ := cell_grown hg (cell_unalloc (hHeld.1) (by first | (rw [add_block]; exact Kd.S_lt HO_3.out _ rfl) | (show (Addr.add _ _).block < _; rw [add_block]; exact Kd.S_lt HO_3.out _ rfl) | exact Kd.S_lt HO_3.out _ rfl)) (by first | (rw [add_block]; exact (fun e_ => ((HL189_1.out.1 _ e_.symm).2) rfl)) | (show some (Addr.add _ _).block ≠ _; rw [add_block]; exact (fun e_ => ((HL189_1.out.1 _ e_.symm).2) rfl)) | exact (fun e_ => ((HL189_1.out.1 _ e_.symm).2) rfl)))
          (first | have HS1_ := cell_grown hg (hHeld.2) (by first | (rw [add_block]; exact (fun e_ => ((HL189_1.out.1 _ e_.symm).2) rfl)) | (show some (Addr.add _ _).block ≠ _; rw [add_block]; exact (fun e_ => ((HL189_1.out.1 _ e_.symm).2) rfl)) | exact (fun e_ => ((HL189_1.out.1 _ e_.symm).2) rfl)) | have HS1_ := cell_grown hg (cell_unalloc (hHeld.2) (by first | (rw [add_block]; exact Kd.S_lt HO_3.out _ rfl) | (show (Addr.add _ _).block < _; rw [add_block]; exact Kd.S_lt HO_3.out _ rfl) | exact Kd.S_lt HO_3.out _ rfl)) (by first | (rw [add_block]; exact (fun e_ => ((HL189_1.out.1 _ e_.symm).2) rfl)) | (show some (Addr.add _ _).block ≠ _; rw [add_block]; exact (fun e_ => ((HL189_1.out.1 _ e_.symm).2) rfl)) | exact (fun e_ => ((HL189_1.out.1 _ e_.symm).2) rfl)))
          rw [← Ny193.out] at ho
          have AQ51 := Aside0.mk (ap_new hat AP51.out (Kd.R_lt HE51_0.out))
          have n0_ := Aside0.mk (IsS194.grown (by repeat (first | (with_reducible first | exact HI0.out | apply IsS194.alloc | apply IsS194.drewN | apply IsS194.drew | apply IsS194.set_1 | apply IsS194.set_2) | exact HI0.out)) hg (IsS194.own_ne HI0.out HL189_1.out (by decide)))
          have n1_ := Aside0.mk (below_weaken (by repeat (first | (with_reducible first | exact HB.out | apply below_alloc | apply pw_below_drewN | apply below_drew1 | refine below_set ?_ (IsS194.ge HI0.out)) | exact HB.out)) HL.out hb)
          have n2_ := Aside0.mk (KeepBut.trans (by repeat (first | (with_reducible first | exact HK.out | apply KeepBut.set_ | apply keep_drewN | apply keep_drew | apply keep_alloc) | exact HK.out)) (KeepBut.of_grown hg g) (Kd.R_base2 HL189_1.out))
          have n3_ := Aside0.mk (Kd.H_grown (Kd.H_widen (by repeat (first | exact HH51.out | refine Kd.H_alloc ?_ _ | refine Kd.H_drewN ?_ _ | refine Kd.H_drew ?_))) hg (fun k_ e_ => .inl (UU51.out.1 k_ e_)))
          have n4_ := Aside0.mk (Kd.R_grown2 (by (with_reducible repeat (first | apply Kd.R_alloc | apply Kd.R_drewN | apply Kd.R_drew)); exact HE51_0.out) rfl hg AP51.out)
          have n5_ := Aside0.mk (ho)
          clear HI0
          clear HB
          clear HK
          clear HH51
          clear HE51_0
          clear HO_3
          clear UU51
          clear HL189_0
          clear HL189_1
          have HI0 := n0_
          have HB := n1_
          have HK := n2_
          have HH51 := n3_
          have HE51_0 := n4_
          have HO195 := n5_
          clear n0_ n1_ n2_ n3_ n4_ n5_
          clear ho hb hg hat
          have p47 : 0 ≤ (0 : Int) := (by omega)
          have q47 : (0 : Int) < ((x3_1.length : Int) : Int) := of_decide_eq_true (by first | (with_reducible assumption) | assumption)
          replace p47 := eq_true p47
          replace q47 := eq_true q47
          obtain ⟨Ao55, co55, eo55⟩ := Kd.R_slice HO195.out
          (first | subst eo55 | (injection eo55 with f1_ f2_ f3_; have f4_ := f1_.symm; have f5_ := f3_.symm; clear f1_ f2_ f3_; subst f4_; subst f5_))
          obtain ⟨_, _, hraw53, _, _, hcc53, _⟩ := Kd.H_raw HH51.out (by omega) (by have h_ : (0 : Int) < ((x3_1.length : Int) : Int) := of_decide_eq_true (by first | (with_reducible assumption) | assumption); first | exact h_ | (have e_ := (HN51.out); omega) | simpa using h_)
          obtain ⟨_, hfr53⟩ := Kd.H_at HH51.out (by omega) (by have h_ : (0 : Int) < ((x3_1.length : Int) : Int) := of_decide_eq_true (by first | (with_reducible assumption) | assumption); first | exact h_ | (have e_ := (HN51.out); omega) | simpa using h_)
          have hx53_0 := hcc53 1 _ rfl
          have hf53_0 := hfr53 1
          (try rw [show (kA).sz = 2 from rfl] at hx53_0)
          (try rw [show (kA).sz = 2 from rfl] at hf53_0)
          (try rw [show ((0 : Int)).toNat = 0 from rfl] at hx53_0)
          (try simp only [Nat.reduceMul, Nat.zero_mul, Nat.zero_add, Nat.reduceAdd] at hx53_0)
          (try rw [show ((0 : Int)).toNat = 0 from rfl] at hf53_0)
          (try simp only [Nat.reduceMul, Nat.zero_mul, Nat.zero_add, Nat.reduceAdd] at hf53_0)
          have HP53 := Kd.S_seg0 HH51.out (by omega) (by have h_ : (0 : Int) < ((x3_1.length : Int) : Int) := of_decide_eq_true (by first | (with_reducible assumption) | assumption); first | exact h_ | (have e_ := (HN51.out); omega) | simpa using h_) (seg := [.slice Ao55 y193.length co55]) (j := 1) (show 2 ≤ 2 from by decide) (x' := (⟨(rd_T95 x3_1 0).f0, y193⟩ : S95)) (kA_mk (k95_mkM _ _ _ (⟨(rd_T95 x3_1 0).f0, y193⟩ : S95) (Kd.R_mono HE51_0.out (fun _ h_ => .inl h_)) HO195.out) (ap_mk AQ51.out)) (fun _ hk => hk)
          clear hcc53 hfr53
          have HN0_go51 := Aside0.mk (show g ≠ go51 from by have h_ := IsS194.own_ne HI0.out hraw53 (by decide); intro e_; exact h_ (by rw [e_]; rfl))
          have HS53 := HP53.1
          rw [← Ny196.out] at HS53
          have HQ53 := Aside0.mk HS53
          obtain ⟨_, hgg53⟩ := Kd.R_typed hraw53 go51 rfl
          have GG53_ := Aside0.mk hgg53
          clear HP53 HS53 hgg53
          refine hK.out _ _ ⟨HS0_, HS1_⟩ (fun hHeld => ?_)
          clear hK K
          refine norm_ (a' := ?_) ?_ ?_
          rotate_left
          ·show Act.put _ (some 61) _ = _
           simp only [Act.put, List.setIfInBounds_toArray, List.set_cons_zero, List.set_cons_succ, i64_w, i32_w]
           rfl
          refine pure_ (i := 9) (N := some 62) (v := ?_) (a' := ?_) #[true, true, true, true, true, true, true, true, true, true, false, false] rfl rfl (any_of HT_.out (by kernel_rfl)) (fun _ _ _ h => h) (Or.inl ⟨by rfl, ?_⟩) ?_ ?_
          rotate_left
          ·intro w'
           go_simp
           with_reducible rfl
          rotate_left
          ·simp only [Act.put, List.setIfInBounds_toArray, List.set_cons_zero, List.set_cons_succ, i64_w, i32_w]
           rfl
          refine pure_ (i := 10) (N := some 63) (v := ?_) (a' := ?_) #[true, true, true, true, true, true, true, true, true, true, true, false] rfl rfl (any_of HT_.out (by kernel_rfl)) (fun _ _ _ h => h) (Or.inl ⟨by rfl, ?_⟩) ?_ ?_
          rotate_left
          ·intro w'
           go_simp
           with_reducible rfl
          rotate_left
          ·simp only [Act.put, List.setIfInBounds_toArray, List.set_cons_zero, List.set_cons_succ, i64_w, i32_w]
           rfl
          refine last_ (i := 11) (N := none) #[true, true, true, true, true, true, true, true, true, true, true, true] rfl rfl (one_of HT_.out (by kernel_rfl)) (by decide) (fun K hK => ?_)
          refine skip_ (w1 := ?_) (by rfl) rfl ?_ ?_
          rotate_left
          ·go_simp
           rfl
          refine hK.out _ _ ?_
          clear hK K
          refine done_ (done_of HT_.out (by kernel_rfl)) ?_
          try go_wp2
          go_meet
          case rel => exact ⟨_, (y196), (t191), (t192), H', ⟨by have := HK1.out; have := HJ37.out; first | omega | exact Nat.le_refl _⟩, ⟨by (with_reducible repeat (first | apply Kd.S_alloc | apply Kd.S_drewN | apply Kd.S_drew)); exact HQ53.out⟩, ⟨by repeat (first | (with_reducible first | exact HI0.out | apply IsS194.alloc | apply IsS194.drewN | apply IsS194.drew | apply IsS194.set_1 | apply IsS194.set_2 | refine IsS194.far ?_ HN0_go51.out _) | exact HI0.out)⟩, ⟨by repeat (first | (with_reducible first | exact HK.out | apply KeepBut.set_ | apply keep_drewN | apply keep_drew | apply keep_alloc | refine keep_far ?_ GB51.out _) | exact HK.out)⟩, ⟨by repeat (first | (with_reducible first | exact HB.out | apply below_alloc | apply pw_below_drewN | apply below_drew1 | refine below_set ?_ (Nat.le_trans HL.out GB51.out) | refine below_set ?_ (IsS194.ge HI0.out)) | exact HB.out)⟩⟩
         ·rw [if_neg c46] at H
          exact absurd H (by simp)
        ·rw [if_neg c44] at H
         exact absurd H (by simp)
       ·replace c43 := Bool.eq_false_iff.mpr c43
        subst c43
        have H1 : (spec_l25Some.j4 kj37 x3_1 t167 s0_0 x1001_37 x1002_37) = some (r1, r2, r3) := by first | rfl | (rw [if_neg (show ¬ (false = true) by decide)] at H; exact H)
        clear H
        have H := H1
        clear H1
        have H' := Aside0.mk H
        clear H
        go_wp2
        go_meet
        case rel => exact ⟨_, (x3_1), (x1001_37), (x1002_37), H', ⟨by have := HK1.out; have := HJ37.out; first | omega | exact Nat.le_refl _⟩, ⟨by (with_reducible repeat (first | apply Kd.S_alloc | apply Kd.S_drewN | apply Kd.S_drew)); exact HO_3.out⟩, ⟨by repeat (first | (with_reducible first | exact HI0.out | apply IsS194.alloc | apply IsS194.drewN | apply IsS194.drew | apply IsS194.set_1 | apply IsS194.set_2) | exact HI0.out)⟩, ⟨by repeat (first | (with_reducible first | exact HK.out | apply KeepBut.set_ | apply keep_drewN | apply keep_drew | apply keep_alloc) | exact HK.out)⟩, ⟨by repeat (first | (with_reducible first | exact HB.out | apply below_alloc | apply pw_below_drewN | apply below_drew1 | refine below_set ?_ (IsS194.ge HI0.out)) | exact HB.out)⟩⟩
      case rest =>
       clear HC42
       try clear c1
       try clear p1
       try clear q1
       try clear hx1
       try clear qi1
       try clear c2
       try clear p2
       try clear c3
       try clear c4
       try clear p4
       try clear q4
       try clear c5
       try clear hx5
       try clear hf5
       try clear c6
       try clear c6b0
       try clear p6
       try clear c8
       try clear c10
       try clear c10b0
       try clear c12
       try clear c13
       try clear c15
       try clear c18
       try clear p18
       try clear q18
       try clear hx18
       try clear qi18
       try clear c21
       try clear c21b0
       try clear c23
       try clear c24
       try clear c26
       try clear c32
       try clear c33
       try clear c39
       try clear c39b0
       try clear c43
       try clear c44
       try clear c44b0
       try clear c44b1
       try clear c46
       try clear p47
       try clear q47
       try clear c51
       try clear c53
       try clear hx53
       try clear hf53
       try clear hcz16_0
       try clear hcz16_1
       try clear hcz19_0
       try clear hcz19_1
       try clear hcz27_0
       try clear hcz27_1
       try clear hcz30_0
       try clear hcz30_1
       try clear hcz34_0
       try clear hcz34_1
       try clear hcz9_0
       try clear hcz9_1
       try clear hfz16_0
       try clear hfz16_1
       try clear hfz19_0
       try clear hfz19_1
       try clear hfz27_0
       try clear hfz27_1
       try clear hfz30_0
       try clear hfz30_1
       try clear hfz34_0
       try clear hfz34_1
       try clear hfz9_0
       try clear hfz9_1
       try clear hx189_0
       try clear hx189_1
       try clear hx53_0
       try clear p189
       try clear p2
       try clear p47
       try clear p6
       try clear q189
       try clear q47
       obtain ⟨kq, x3_41, x1001_41, x1002_41, HA, HJ41, HO_3, HI0, HK, HB⟩ := hcut
       cases kq with
       | zero => exact absurd HA.out (by simp [spec_l25Some.j4])
       | succ kj41 =>
        have H := HA.out
        clear HA
        simp only [spec_l25Some.j4] at H
        by_cases c56 : t167 > 0
        ·rw [if_pos c56] at H
         have c56b0 : decide (0 < t167) = true := decide_eq_true c56
         clear c56
         replace H := Option.bind_eq_some_iff.mp H
         obtain ⟨⟨t197, t198, t199⟩, A570, H⟩ := H
         replace H : (if t197 = true then (if 0 < (x3_41.length : Int) then ((spec_l1PickInt.f s0_0 t198 t199 (([30, 31, 0] : List Int))).bind fun bt204 => (if ((rd_T95 x3_41 0).f0).length < 17592186044416 then (some ((x3_41.set (0 : Int).toNat (⟨(((rd_T95 x3_41 0).f0) ++ [bt204.1]), (rd_T95 x3_41 0).f1⟩ : S95)), bt204.2.1, bt204.2.2)) else (none))) else (none)) else (some (x3_41, t198, t199))) = some (r1, r2, r3) := H
         have A57 := Aside0.mk A570
         clear A570
         by_cases c58 : t197 = true
         ·subst c58
          have H1 : (if 0 < (x3_41.length : Int) then ((spec_l1PickInt.f s0_0 t198 t199 (([30, 31, 0] : List Int))).bind fun bt204 => (if ((rd_T95 x3_41 0).f0).length < 17592186044416 then (some ((x3_41.set (0 : Int).toNat (⟨(((rd_T95 x3_41 0).f0) ++ [bt204.1]), (rd_T95 x3_41 0).f1⟩ : S95)), bt204.2.1, bt204.2.2)) else (none))) else (none)) = some (r1, r2, r3) := by first | rfl | (rw [if_pos rfl] at H; exact H)
          clear H
          have H := H1
          clear H1
          by_cases c59 : 0 < (x3_41.length : Int)
          ·rw [if_pos c59] at H
           have c59b0 : decide (0 < (x3_41.length : Int)) = true := decide_eq_true c59
           have c59b1 : decide (0 < x3_41.length) = true := decide_eq_true (by omega)
           clear c59
           obtain ⟨y201, hy201⟩ : ∃ y_ : List Int, y_ = (([30, 31, 0] : List Int)) := ⟨_, rfl⟩
           replace H : ((spec_l1PickInt.f s0_0 t198 t199 y201).bind fun bt204 => (if ((rd_T95 x3_41 0).f0).length < 17592186044416 then (some ((x3_41.set (0 : Int).toNat (⟨(((rd_T95 x3_41 0).f0) ++ [bt204.1]), (rd_T95 x3_41 0).f1⟩ : S95)), bt204.2.1, bt204.2.2)) else (none))) = some (r1, r2, r3) := by first | (rw [hy201]; with_reducible exact H) | (have H2_ := (Option.bind_some _ _).symm.trans H; rw [hy201]; with_reducible exact H2_) | (have H2_ := (Option.bind_some _ _).symm.trans H; with_reducible exact H2_) | with_reducible exact H | (rw [hy201]; exact H) | exact H
           have Ny201 := Aside0.mk hy201
           clear hy201
           replace H := Option.bind_eq_some_iff.mp H
           obtain ⟨⟨t204, t205, t206⟩, A600, H⟩ := H
           replace H : (if ((rd_T95 x3_41 0).f0).length < 17592186044416 then (some ((x3_41.set (0 : Int).toNat (⟨(((rd_T95 x3_41 0).f0) ++ [t204]), (rd_T95 x3_41 0).f1⟩ : S95)), t205, t206)) else (none)) = some (r1, r2, r3) := H
           have A60 := Aside0.mk A600
           clear A600
           by_cases c61 : ((rd_T95 x3_41 0).f0).length < 17592186044416
           ·rw [if_pos c61] at H
            have LMc61 := Aside0.mk c61
            clear c61
            obtain ⟨y207, hy207⟩ : ∃ y_ : List Int, y_ = (((rd_T95 x3_41 0).f0) ++ [t204]) := ⟨_, rfl⟩
            replace H : (some ((x3_41.set (0 : Int).toNat (⟨y207, (rd_T95 x3_41 0).f1⟩ : S95)), t205, t206)) = some (r1, r2, r3) := by first | (rw [hy207]; with_reducible exact H) | (have H2_ := (Option.bind_some _ _).symm.trans H; rw [hy207]; with_reducible exact H2_) | (have H2_ := (Option.bind_some _ _).symm.trans H; with_reducible exact H2_) | with_reducible exact H | (rw [hy207]; exact H) | exact H
            have Ny207 := Aside0.mk hy207
            clear hy207
            obtain ⟨y210, hy210⟩ : ∃ y_ : List (S95), y_ = (x3_41.set (0 : Int).toNat (⟨y207, (rd_T95 x3_41 0).f1⟩ : S95)) := ⟨_, rfl⟩
            replace H : (some (y210, t205, t206)) = some (r1, r2, r3) := by first | (rw [hy210]; with_reducible exact H) | (have H2_ := (Option.bind_some _ _).symm.trans H; rw [hy210]; with_reducible exact H2_) | (have H2_ := (Option.bind_some _ _).symm.trans H; with_reducible exact H2_) | with_reducible exact H | (rw [hy210]; exact H) | exact H
            have Ny210 := Aside0.mk hy210
            clear hy210
            simp only [Option.some.injEq, Prod.mk.injEq] at H
            obtain ⟨rfl, rfl, rfl⟩ := H
            try go_wp2_with (first | (go_at_call 156; (with_reducible refine (spec_l1Once.calls g s0_0 x1001_41 x1002_41 12 true t198 t199 w0 _ ?side1 ?side2 A57.out).mono ?_); (case side1 => repeat (first | (with_reducible first | exact HI0.out | apply IsS194.alloc | apply IsS194.drewN | apply IsS194.drew | apply IsS194.set_1 | apply IsS194.set_2) | exact HI0.out)); (case side2 => repeat (first | (with_reducible first | exact HB.out | apply below_alloc | apply pw_below_drewN | apply below_drew1 | refine below_set ?_ (IsS194.ge HI0.out)) | exact HB.out)); rintro e w63 ⟨rfl, hi, hb, hk⟩; have n0_ := Aside0.mk (Kd.S_mono (Kd.S_keep (IsS194.apartS (show IsS194 w0 _ g s0_0 x1001_41 x1002_41 from by repeat (first | (with_reducible first | exact HI0.out | apply IsS194.alloc | apply IsS194.drewN | apply IsS194.drew | apply IsS194.set_1 | apply IsS194.set_2) | exact HI0.out)) (by (with_reducible repeat (first | apply Kd.S_alloc | apply Kd.S_drewN | apply Kd.S_drew)); exact HO_3.out) (by decide)) hk (fun _ h => h.2)) (fun _ h => h.1)); have n1_ := Aside0.mk (KeepBut.trans (by repeat (first | (with_reducible first | exact HK.out | apply KeepBut.set_ | apply keep_drewN | apply keep_drew | apply keep_alloc) | exact HK.out)) hk (.inl rfl)); have n2_ := Aside0.mk (hb); have n3_ := Aside0.mk (hi); clear HO_3; clear HK; clear HB; clear HI0; have HO_3 := n0_; have HK := n1_; have HB := n2_; have HI0 := n3_; clear n0_ n1_ n2_ n3_; (try clear hb); (try clear hb2); (try clear hk); (try clear hi)))
            have n0_ := Aside0.mk (Kd.S_drew HO_3.out)
            have n1_ := Aside0.mk (IsS194.drew HI0.out)
            have n2_ := Aside0.mk (keep_drew HK.out)
            have n3_ := Aside0.mk (below_drew1 HB.out)
            clear HO_3
            clear HI0
            clear HK
            clear HB
            have HO_3 := n0_
            have HI0 := n1_
            have HK := n2_
            have HB := n3_
            clear n0_ n1_ n2_ n3_
            obtain ⟨Ao65, co65, eo65⟩ := Kd.S_slice HO_3.out
            (first | subst eo65 | (injection eo65 with f1_ f2_ f3_; have f4_ := f1_.symm; have f5_ := f3_.symm; clear f1_ f2_ f3_; subst f4_; subst f5_))
            have p200 : 0 ≤ (0 : Int) := (by omega)
            have q200 : 0 < (x3_41.length : Int) := of_decide_eq_true (by first | (with_reducible assumption) | assumption)
            obtain ⟨ad200, A200_0, c200_0, A200_1, c200_1, e200, hx200_0, hx200_1, hl200_0, hi200_0, hl200_1, hi200_1⟩ := at_T95 (kA_C (Kd.S_reads' HO_3.out).2.2) 0 p200 q200
            cases e200
            obtain ⟨ce200, hce200, hMe200, hcc200⟩ := Kd.S_get HO_3.out z95 0 p200 (by first | exact q200 | exact of_decide_eq_true (by first | (with_reducible assumption) | assumption) | (have e_ := (Kd.S_reads' HO_3.out).1; omega))
            obtain ⟨ve200_0, ve200_1, rfl, ge200_0, ge200_1⟩ := k95_openM hMe200.1
            have hv200_0 := hcc200 0 _ rfl
            rw [Nat.add_zero] at hv200_0
            replace hv200_0 := Option.some.inj (hv200_0.symm.trans hx200_0)
            rw [hv200_0] at ge200_0
            have HL200_0 := Aside0.mk (show Kd.R (Kd.int .i64) 3 _ _ _ _ ((rd_T95 x3_41 0).f0) from ge200_0)
            clear hv200_0 ge200_0
            have HX200_0 := Aside0.mk hx200_0
            have hv200_1 := hcc200 1 _ rfl
            rw [add_field _ _ 1 (by omega)] at hv200_1
            replace hv200_1 := Option.some.inj (hv200_1.symm.trans hx200_1)
            rw [hv200_1] at ge200_1
            have HL200_1 := Aside0.mk (show Kd.R (Kd.int .i64) 3 _ _ _ _ ((rd_T95 x3_41 0).f1) from ge200_1)
            clear hv200_1 ge200_1
            have HX200_1 := Aside0.mk hx200_1
            clear hcc200 hce200
            have qi200 : (0 < x3_41.length) = True := eq_true (by omega)
            (try rw [show ((0 : Int)).toNat = 0 from rfl] at hx200_0)
            (try rw [show 0 * 2 = 0 from rfl] at hx200_0)
            (try rw [Addr.add_zero'] at hx200_0)
            (try rw [show ((0 : Int)).toNat = 0 from rfl] at hx200_1)
            (try rw [show 0 * 2 = 0 from rfl] at hx200_1)
            (try rw [Addr.add_zero'] at hx200_1)
            have HR200_0 := Aside0.mk hi200_0
            have HC200_0 := Aside0.mk hl200_0
            clear hi200_0 hl200_0
            have HR200_1 := Aside0.mk hi200_1
            have HC200_1 := Aside0.mk hl200_1
            clear hi200_1 hl200_1
            replace p200 := eq_true p200
            replace q200 := eq_true q200
            refine start_ (n := 13) (S := fun w' => w'.cell? ad200 = some (.slice A200_0 ((rd_T95 x3_41 0).f0).length c200_0) ∧ w'.cell? ⟨ad200.block, ad200.off + 1, none⟩ = some (.slice A200_1 ((rd_T95 x3_41 0).f1).length c200_1)) (ds := [12]) #[false, false, false, false, false, false, false, false, false, false, false, false, false] (by kernel_rfl) rfl rfl ⟨hx200_0, hx200_1⟩ (fun hHeld => ?_); refine with_tabW spec_l25Some.tab21 spec_l25Some.bits21 (fun HT_ HW_ => ?_)
            generalize w63.drew = w64 at HO_3 HI0 HK HB HL200_0 HL200_1 HR200_0 HR200_1 HX200_0 HX200_1 hx200_0 hx200_1 hHeld ⊢
            refine pure_ (i := 0) (N := some 70) (v := ?_) (a' := ?_) #[true, false, false, false, false, false, false, false, false, false, false, false, false] rfl rfl (any_of HT_.out (by kernel_rfl)) (fun _ _ _ h => h) (Or.inl ⟨by rfl, ?_⟩) ?_ ?_
            rotate_left
            ·intro w'
             go_simp
             with_reducible rfl
            rotate_left
            ·simp only [Act.put, List.setIfInBounds_toArray, List.set_cons_zero, List.set_cons_succ, i64_w, i32_w]
             rfl
            refine pure_ (i := 1) (N := some 71) (v := ?_) (a' := ?_) #[true, true, false, false, false, false, false, false, false, false, false, false, false] rfl rfl (any_of HT_.out (by kernel_rfl)) (fun _ _ _ h => h) (Or.inl ⟨by rfl, ?_⟩) ?_ ?_
            rotate_left
            ·intro w'
             go_simp
             with_reducible rfl
            rotate_left
            ·simp only [Act.put, List.setIfInBounds_toArray, List.set_cons_zero, List.set_cons_succ, i64_w, i32_w]
             rfl
            refine pure_ (i := 2) (N := some 72) (v := ?_) (a' := ?_) #[true, true, true, false, false, false, false, false, false, false, false, false, false] rfl rfl (any_of HT_.out (by kernel_rfl)) (fun _ _ _ h => h) (Or.inl ⟨by rfl, ?_⟩) ?_ ?_
            rotate_left
            ·intro w'
             go_simp
             with_reducible rfl
            rotate_left
            ·simp only [Act.put, List.setIfInBounds_toArray, List.set_cons_zero, List.set_cons_succ, i64_w, i32_w]
             rfl
            refine pure_ (i := 3) (N := some 73) (v := ?_) (a' := ?_) #[true, true, true, true, false, false, false, false, false, false, false, false, false] rfl rfl (any_of HT_.out (by kernel_rfl)) (fun _ _ _ h => h) (Or.inl ⟨by rfl, ?_⟩) ?_ ?_
            rotate_left
            ·intro w'
             go_simp
             with_reducible rfl
            rotate_left
            ·simp only [Act.put, List.setIfInBounds_toArray, List.set_cons_zero, List.set_cons_succ, i64_w, i32_w]
             rfl
            refine pure_ (i := 5) (N := some 75) (v := ?_) (a' := ?_) #[true, true, true, true, false, true, false, false, false, false, false, false, false] rfl rfl (any_of HT_.out (by kernel_rfl)) (fun _ _ _ h => h) (Or.inl ⟨by rfl, ?_⟩) ?_ ?_
            rotate_left
            ·intro w'
             go_simp
             with_reducible rfl
            rotate_left
            ·simp only [Act.put, List.setIfInBounds_toArray, List.set_cons_zero, List.set_cons_succ, i64_w, i32_w]
             rfl
            refine take_ (i := 4) (N := some 74) (v := ?_) (a' := ?_) #[true, true, true, true, true, true, false, false, false, false, false, false, false] rfl rfl (take_ofW HT_.out HW_.out (by kernel_rfl)) (fun _ _ _ h => h) (Or.inl ⟨by rfl, ?_⟩) hHeld ?_ ?_
            rotate_left
            ·rintro w' ⟨s0, s1⟩
             go_simp
             with_reducible rfl
            rotate_left
            ·simp only [Act.put, List.setIfInBounds_toArray, List.set_cons_zero, List.set_cons_succ, i64_w, i32_w]
             rfl
            refine one_ (i := 6) (N := some 76) #[true, true, true, true, true, true, true, false, false, false, false, false, false] rfl rfl (one_of HT_.out (by kernel_rfl)) (by decide) (fun K hK => ?_)
            refine Kd.R_lit_step (Kd.int .i64) _ 3 ?hg (N := 76) ?hd (xs := ([30, 31, 0] : List Int)) (inner := [.int .i64 30, .int .i64 31, .int .i64 0]) (ok := fun _ => True) (okp := fun _ => True) ?hr ?hp (fun _ hk => hk) trivial (Below.refl _ _) (Nat.le_refl _) (by simp) ?_; (case hd => rfl); (case hg => rfl); (case hr => first | (go_simp; done) | (go_simp; rfl)); (case hp => exact (Reps.one (show Kd.M (Kd.int .i64) _ _ _ 30 [.int .i64 30] from rfl) (Reps.one (show Kd.M (Kd.int .i64) _ _ _ 31 [.int .i64 31] from rfl) (Reps.one (show Kd.M (Kd.int .i64) _ _ _ 0 [.int .i64 0] from rfl) (Reps.none _ _)))))
            intro v202 w66 ho67 hb hg_ hnew_
            have HS0_ := (hb.cell (World.block_lt_of_cell? _ _ (hHeld.1))).trans (hHeld.1)
            have HS1_ := (hb.cell (World.block_lt_of_cell? _ _ (hHeld.2))).trans (hHeld.2)
            clear hg_ hnew_
            (first | rw [← Ny201.out] at ho67 | (simp only [Int.reduceToNat] at ho67; rw [← Ny201.out] at ho67))
            have n0_ := Aside0.mk (Kd.S_elder' (by (with_reducible repeat (first | apply Kd.S_alloc | apply Kd.S_drewN | apply Kd.S_drew)); exact HO_3.out) (Kd.R_base ho67) hb)
            have n1_ := Aside0.mk (Kd.R_elder' (by (with_reducible repeat (first | apply Kd.R_alloc | apply Kd.R_drewN | apply Kd.R_drew)); exact HL200_0.out) (Kd.R_base ho67) hb)
            have n2_ := Aside0.mk (Kd.R_elder' (by (with_reducible repeat (first | apply Kd.R_alloc | apply Kd.R_drewN | apply Kd.R_drew)); exact HL200_1.out) (Kd.R_base ho67) hb)
            have n3_ := Aside0.mk (Kd.R_lower (Kd.R_new' (Kd.R_new' ho67 (Kd.R_lt (by (with_reducible repeat (first | apply Kd.R_alloc | apply Kd.R_drewN | apply Kd.R_drew)); exact HL200_0.out))) (Kd.R_lt (by (with_reducible repeat (first | apply Kd.R_alloc | apply Kd.R_drewN | apply Kd.R_drew)); exact HL200_1.out))) (keep_size (w := w) (g := g) (row := none) (by repeat (first | (with_reducible first | exact HK.out | apply KeepBut.set_ | apply keep_drewN | apply keep_drew | apply keep_alloc) | exact HK.out))))
            have n4_ := Aside0.mk (IsS194.below (by repeat (first | (with_reducible first | exact HI0.out | apply IsS194.alloc | apply IsS194.drewN | apply IsS194.drew | apply IsS194.set_1 | apply IsS194.set_2) | exact HI0.out)) hb)
            have n5_ := Aside0.mk (Kd.C_below (by repeat (first | (with_reducible exact HR200_0.out) | (with_reducible refine Kd.C_alloc ?_ _) | (with_reducible refine Kd.C_drewN ?_ _) | (with_reducible refine Kd.C_drew ?_) | exact HR200_0.out)) hb)
            have n6_ := Aside0.mk (pw_cell_below hb HX200_0.out)
            have n7_ := Aside0.mk (Kd.C_below (by repeat (first | (with_reducible exact HR200_1.out) | (with_reducible refine Kd.C_alloc ?_ _) | (with_reducible refine Kd.C_drewN ?_ _) | (with_reducible refine Kd.C_drew ?_) | exact HR200_1.out)) hb)
            have n8_ := Aside0.mk (pw_cell_below hb HX200_1.out)
            have n9_ := Aside0.mk (KeepBut.trans (by repeat (first | (with_reducible first | exact HK.out | apply KeepBut.set_ | apply keep_drewN | apply keep_drew | apply keep_alloc) | exact HK.out)) (KeepBut.of_below hb g none) (.inl rfl))
            have n10_ := Aside0.mk (below_step (by repeat (first | (with_reducible first | exact HB.out | apply below_alloc | apply pw_below_drewN | apply below_drew1 | refine below_set ?_ (IsS194.ge HI0.out)) | exact HB.out)) hb)
            clear HO_3
            clear HL200_0
            clear HL200_1
            clear HI0
            clear HR200_0
            clear HX200_0
            clear HR200_1
            clear HX200_1
            clear HK
            clear HB
            have HO_3 := n0_
            have HL200_0 := n1_
            have HL200_1 := n2_
            have HO203 := n3_
            have HI0 := n4_
            have HR200_0 := n5_
            have HX200_0 := n6_
            have HR200_1 := n7_
            have HX200_1 := n8_
            have HK := n9_
            have HB := n10_
            clear n0_ n1_ n2_ n3_ n4_ n5_ n6_ n7_ n8_ n9_ n10_
            clear hb ho67
            obtain ⟨Ao68, co68, eo68⟩ := Kd.R_slice HO203.out
            (first | subst eo68 | (injection eo68 with f1_ f2_ f3_; have f4_ := f1_.symm; have f5_ := f3_.symm; clear f1_ f2_ f3_; subst f4_; subst f5_))
            refine hK.out _ _ ⟨HS0_, HS1_⟩ (fun hHeld => ?_)
            clear hK K
            refine norm_ (a' := ?_) ?_ ?_
            rotate_left
            ·show Act.put _ (some 76) _ = _
             simp only [Act.put, List.setIfInBounds_toArray, List.set_cons_zero, List.set_cons_succ, i64_w, i32_w]
             rfl
            refine one_ (i := 7) (N := some 77) #[true, true, true, true, true, true, true, true, false, false, false, false, false] rfl rfl (one_of HT_.out (by kernel_rfl)) (by decide) (fun K hK => ?_)
            refine goes_ Try.func89 (by kernel_rfl) rfl #[.pointer (some ⟨g, 0, none⟩), .slice Ao68 y201.length co68] (by rfl) rfl rfl (by (try simp only [List.map_toArray, List.map_cons, List.map_nil]); first | done | rfl | (simp only [List.length_drop, List.length_take]; rfl)) ?_
            with_reducible refine (spec_l1PickInt.calls g s0_0 t198 t199 _ _ y201 t204 t205 t206 w0 _ ?side1 ?side2 ?side3 ?side4 ?side5 A60.out).mono ?_
            (case side1 => repeat (first | (with_reducible first | exact HI0.out | apply IsS194.alloc | apply IsS194.drewN | apply IsS194.drew | apply IsS194.set_1 | apply IsS194.set_2) | exact HI0.out))
            (case side2 => repeat (first | (with_reducible first | exact HB.out | apply below_alloc | apply pw_below_drewN | apply below_drew1 | refine below_set ?_ (IsS194.ge HI0.out)) | exact HB.out))
            (case side3 => repeat (first | exact (Kd.R_reads' HO203.out).2.2 | (with_reducible refine Kd.C_alloc ?_ _) | (with_reducible refine Kd.C_drewN ?_ _) | (with_reducible refine Kd.C_drew ?_)))
            (case side4 => exact (Kd.R_reads' HO203.out).2.1)
            (case side5 => exact far_slice (IsS194.own_ne HI0.out HO203.out (by decide)))
            rintro e w69 ⟨rfl, hi, hb, hk⟩
            have HS0_ := keep_cell hk (hHeld.1) (by first | (rw [add_block]; exact Kd.own_blk (IsS194.own_neS HI0.out HO_3.out (by decide))) | (show (Addr.add _ _).block ≠ _; rw [add_block]; exact Kd.own_blk (IsS194.own_neS HI0.out HO_3.out (by decide))) | exact Kd.own_blk (IsS194.own_neS HI0.out HO_3.out (by decide)) | (dsimp only; exact Kd.own_blk (IsS194.own_neS HI0.out HO_3.out (by decide))))
            have HS1_ := keep_cell hk (hHeld.2) (by first | (rw [add_block]; exact Kd.own_blk (IsS194.own_neS HI0.out HO_3.out (by decide))) | (show (Addr.add _ _).block ≠ _; rw [add_block]; exact Kd.own_blk (IsS194.own_neS HI0.out HO_3.out (by decide))) | exact Kd.own_blk (IsS194.own_neS HI0.out HO_3.out (by decide)) | (dsimp only; exact Kd.own_blk (IsS194.own_neS HI0.out HO_3.out (by decide))))
            refine ⟨_, rfl, ?_⟩
            have n0_ := Aside0.mk (Kd.S_mono (Kd.S_keep (IsS194.apartS (show IsS194 w0 _ g s0_0 t198 t199 from by repeat (first | (with_reducible first | exact HI0.out | apply IsS194.alloc | apply IsS194.drewN | apply IsS194.drew | apply IsS194.set_1 | apply IsS194.set_2) | exact HI0.out)) (by (with_reducible repeat (first | apply Kd.S_alloc | apply Kd.S_drewN | apply Kd.S_drew)); exact HO_3.out) (by decide)) hk (fun _ h => h.2)) (fun _ h => h.1))
            have n1_ := Aside0.mk (Kd.R_mono (Kd.R_keep (IsS194.apart (show IsS194 w0 _ g s0_0 t198 t199 from by repeat (first | (with_reducible first | exact HI0.out | apply IsS194.alloc | apply IsS194.drewN | apply IsS194.drew | apply IsS194.set_1 | apply IsS194.set_2) | exact HI0.out)) (by (with_reducible repeat (first | apply Kd.R_alloc | apply Kd.R_drewN | apply Kd.R_drew)); exact HL200_0.out) (by decide)) hk (fun _ h => h.2)) (fun _ h => h.1))
            have n2_ := Aside0.mk (keep_cell hk HX200_0.out (by first | (rw [add_block]; exact Kd.own_blk (IsS194.own_neS HI0.out HO_3.out (by decide))) | (show (Addr.add _ _).block ≠ _; rw [add_block]; exact Kd.own_blk (IsS194.own_neS HI0.out HO_3.out (by decide))) | exact Kd.own_blk (IsS194.own_neS HI0.out HO_3.out (by decide)) | (dsimp only; exact Kd.own_blk (IsS194.own_neS HI0.out HO_3.out (by decide)))))
            have n3_ := Aside0.mk (Kd.R_mono (Kd.R_keep (IsS194.apart (show IsS194 w0 _ g s0_0 t198 t199 from by repeat (first | (with_reducible first | exact HI0.out | apply IsS194.alloc | apply IsS194.drewN | apply IsS194.drew | apply IsS194.set_1 | apply IsS194.set_2) | exact HI0.out)) (by (with_reducible repeat (first | apply Kd.R_alloc | apply Kd.R_drewN | apply Kd.R_drew)); exact HL200_1.out) (by decide)) hk (fun _ h => h.2)) (fun _ h => h.1))
            have n4_ := Aside0.mk (keep_cell hk HX200_1.out (by first | (rw [add_block]; exact Kd.own_blk (IsS194.own_neS HI0.out HO_3.out (by decide))) | (show (Addr.add _ _).block ≠ _; rw [add_block]; exact Kd.own_blk (IsS194.own_neS HI0.out HO_3.out (by decide))) | exact Kd.own_blk (IsS194.own_neS HI0.out HO_3.out (by decide)) | (dsimp only; exact Kd.own_blk (IsS194.own_neS HI0.out HO_3.out (by decide)))))
            have n5_ := Aside0.mk (Kd.R_mono (Kd.R_keep (IsS194.apart (show IsS194 w0 _ g s0_0 t198 t199 from by repeat (first | (with_reducible first | exact HI0.out | apply IsS194.alloc | apply IsS194.drewN | apply IsS194.drew | apply IsS194.set_1 | apply IsS194.set_2) | exact HI0.out)) (by (with_reducible repeat (first | apply Kd.R_alloc | apply Kd.R_drewN | apply Kd.R_drew)); exact HO203.out) (by decide)) hk (fun _ h => h.2)) (fun _ h => h.1))
            have n6_ := Aside0.mk (KeepBut.trans (by repeat (first | (with_reducible first | exact HK.out | apply KeepBut.set_ | apply keep_drewN | apply keep_drew | apply keep_alloc) | exact HK.out)) hk (.inl rfl))
            have n7_ := Aside0.mk (hb)
            have n8_ := Aside0.mk (hi)
            clear HO_3
            clear HL200_0
            clear HX200_0
            clear HL200_1
            clear HX200_1
            clear HO203
            clear HK
            clear HB
            clear HI0
            have HO_3 := n0_
            have HL200_0 := n1_
            have HX200_0 := n2_
            have HL200_1 := n3_
            have HX200_1 := n4_
            have HO203 := n5_
            have HK := n6_
            have HB := n7_
            have HI0 := n8_
            clear n0_ n1_ n2_ n3_ n4_ n5_ n6_ n7_ n8_
            (try clear hb)
            (try clear hb2)
            (try clear hk)
            (try clear hi)
            have n_ := Aside0.mk (Kd.S_mono (ok' := (fun k_ => some k_ ≠ (.slice Ao68 y201.length co68 : Value).ownBlock)) HO_3.out (fun k_ hk => hk.2))
            clear HO_3
            have HO_3 := n_
            clear n_
            obtain ⟨go70, co70, eo70, gb70, gl70, cl70, HG70⟩ := Kd.S_form HO_3.out (by have h_ : (0 : Int) < ((x3_41.length : Int) : Int) := of_decide_eq_true (by first | (with_reducible assumption) | assumption); have h2_ : 0 ≤ (0 : Int) := (by omega); omega)
            (first | cases eo70 | (injection eo70 with ea_ en_ ec_; (first | subst ea_ | (injection ea_ with ea_; subst ea_)); subst ec_; clear en_))
            have GB70 := Aside0.mk gb70
            have GG70 := Aside0.mk HG70
            clear gb70 gl70 HG70
            (first | simp only [add_plain] at hx200_0 | skip)
            (first | simp only [add_plain] at hx200_1 | skip)
            obtain ⟨oki70, ce70, hcl70, hM70, hcc70, _, _, hH70⟩ := Kd.S_elem HO_3.out z95 (0 : Int) (by omega) (by have h_ : (0 : Int) < ((x3_41.length : Int) : Int) := of_decide_eq_true (by first | (with_reducible assumption) | assumption); first | exact h_ | (have e_ := (Kd.S_reads' HO_3.out).1; omega) | simpa using h_)
            obtain ⟨ve70_0, ve70_1, rfl, ge70_0, ge70_1⟩ := k95_openM hM70.1
            have AP70 := Aside0.mk (ap_of hM70.2)
            have hv70 := hcc70 0 _ rfl
            have hX70 := HX200_0.out
            (try simp only [add_plain] at hX70)
            (try simp only [Nat.add_zero] at hv70)
            replace hv70 := Option.some.inj (hv70.symm.trans hX70)
            subst hv70
            clear hX70 hcc70 hcl70
            have UU70 := Aside0.mk (show Kd.R (Kd.int .i64) 3 _ w.heap.size oki70 (.slice A200_0 ((rd_T95 x3_41 0).f0).length c200_0) ((rd_T95 x3_41 0).f0) from ge70_0)
            have HH70 := Aside0.mk hH70
            have HN70 := Aside0.mk (Kd.S_reads' HO_3.out).1
            have HE70_1 := Aside0.mk ge70_1
            clear hH70 ge70_0 ge70_1
            refine hK.out _ _ ⟨HS0_, HS1_⟩ (fun hHeld => ?_)
            clear hK K
            refine norm_ (a' := ?_) ?_ ?_
            rotate_left
            ·show Act.put _ (some 77) _ = _
             simp only [Act.put, List.setIfInBounds_toArray, List.set_cons_zero, List.set_cons_succ, i64_w, i32_w]
             rfl
            refine one_ (i := 8) (N := some 78) #[true, true, true, true, true, true, true, true, true, false, false, false, false] rfl rfl (one_of HT_.out (by kernel_rfl)) (by decide) (fun K hK => ?_)
            refine value_ (w1 := ?_) (v := ?_) (by rfl) rfl ?_ ?_
            rotate_left 2
            ·go_simp
             constructor
             ·rfl
             ·rfl
            refine hK.out _ _ ⟨(World.cell?_alloc_lt _ _ _ (World.block_lt_of_cell? _ _ (hHeld.1))).trans (hHeld.1), (World.cell?_alloc_lt _ _ _ (World.block_lt_of_cell? _ _ (hHeld.2))).trans (hHeld.2)⟩ (fun hHeld => ?_)
            clear hK K
            refine norm_ (a' := ?_) ?_ ?_
            rotate_left
            ·show Act.put _ (some 78) _ = _
             simp only [Act.put, List.setIfInBounds_toArray, List.set_cons_zero, List.set_cons_succ, i64_w, i32_w]
             rfl
            refine one_ (i := 9) (N := some 79) #[true, true, true, true, true, true, true, true, true, true, false, false, false] rfl rfl (one_of HT_.out (by kernel_rfl)) (by decide) (fun K hK => ?_)
            refine Kd.R_append_step (Kd.int .i64) w.heap.size (by rfl) (.tmp 74) (.tmp 78) 56 3 (.int .i64 0) 8 rfl Try.underlying56 info3 rfl (by decide) (by omega) (.slice A200_0 ((rd_T95 x3_41 0).f0).length c200_0) ((rd_T95 x3_41 0).f0) t204 [.int .i64 t204] (fun k_ => oki70 k_ ∨ ((fun k_ => some k_ ≠ (.slice Ao68 y201.length co68 : Value).ownBlock)) k_ ∧ w69.heap.size ≤ k_) (fun _ => False) rfl rfl ?aP (fun _ hk => hk.elim) ?aF ?aO (Below.refl _ _) ?aS ?aL ?_
            (case aP => exact rfl)
            (case aF => exact (fun k_ hk => .inr ⟨Kd.fresh' (Kd.R_lt (by (with_reducible repeat (first | apply Kd.R_alloc | apply Kd.R_drewN | apply Kd.R_drew)); exact HO203.out)) k_ hk, hk⟩))
            (case aO => exact (by (with_reducible repeat (first | apply Kd.R_alloc | apply Kd.R_drewN | apply Kd.R_drew)); exact Kd.R_mono UU70.out (fun _ hk => .inl hk)))
            (case aS => exact (keep_size (w := w) (g := g) (row := none) (by repeat (first | (with_reducible first | exact HK.out | apply KeepBut.set_ | apply keep_drewN | apply keep_drew | apply keep_alloc) | exact HK.out))))
            (case aL => have := LMc61.out; omega)
            intro v208 w71 ho hb hg hat
            (first | have HS0_ := cell_grown hg (hHeld.1) (by first | (rw [add_block]; exact (fun e_ => ((HL200_0.out.1 _ e_.symm).1.2) rfl)) | (show some (Addr.add _ _).block ≠ _; rw [add_block]; exact (fun e_ => ((HL200_0.out.1 _ e_.symm).1.2) rfl)) | exact (fun e_ => ((HL200_0.out.1 _ e_.symm).1.2) rfl)) | have HS0_ := cell_grown hg (cell_unalloc (hHeld.1) (by first | (rw [add_block]; exact Kd.S_lt HO_3.out _ rfl) | (show (Addr.add _ _).block < _; rw [add_block]; exact Kd.S_lt HO_3.out _ rfl) | exact Kd.S_lt HO_3.out _ rfl)) (by first | (rw [add_block]; exact (fun e_ => ((HL200_0.out.1 _ e_.symm).1.2) rfl)) | (show some (Addr.add _ _).block ≠ _; rw [add_block]; exact (fun e_ => ((HL200_0.out.1 _ e_.symm).1.2) rfl)) | exact (fun e_ => ((HL200_0.out.1 _ e_.symm).1.2) rfl)))
            (first | have HS1_ := cell_grown hg (hHeld.2) (by first | (rw [add_block]; exact (fun e_ => ((HL200_0.out.1 _ e_.symm).1.2) rfl)) | (show some (Addr.add _ _).block ≠ _; rw [add_block]; exact (fun e_ => ((HL200_0.out.1 _ e_.symm).1.2) rfl)) | exact (fun e_ => ((HL200_0.out.1 _ e_.symm).1.2) rfl)) | have HS1_ := cell_grown hg (cell_unalloc (hHeld.2) (by first | (rw [add_block]; exact Kd.S_lt HO_3.out _ rfl) | (show (Addr.add _ _).block < _; rw [add_block]; exact Kd.S_lt HO_3.out _ rfl) | exact Kd.S_lt HO_3.out _ rfl)) (by first | (rw [add_block]; exact (fun e_ => ((HL200_0.out.1 _ e_.symm).1.2) rfl)) | (show some (Addr.add _ _).block ≠ _; rw [add_block]; exact (fun e_ => ((HL200_0.out.1 _ e_.symm).1.2) rfl)) | exact (fun e_ => ((HL200_0.out.1 _ e_.symm).1.2) rfl)))
            rw [← Ny207.out] at ho
            have AQ70 := Aside0.mk (ap_new hat (ap_sym AP70.out) (Kd.R_lt HE70_1.out))
            have n0_ := Aside0.mk (IsS194.grown (by repeat (first | (with_reducible first | exact HI0.out | apply IsS194.alloc | apply IsS194.drewN | apply IsS194.drew | apply IsS194.set_1 | apply IsS194.set_2) | exact HI0.out)) hg (IsS194.own_ne HI0.out HL200_0.out (by decide)))
            have n1_ := Aside0.mk (Kd.R_grown2 (by (with_reducible repeat (first | apply Kd.R_alloc | apply Kd.R_drewN | apply Kd.R_drew)); exact HO203.out) rfl hg (fun k_ e_ => (HL200_0.out.1 k_ e_).2))
            have n2_ := Aside0.mk (below_weaken (by repeat (first | (with_reducible first | exact HB.out | apply below_alloc | apply pw_below_drewN | apply below_drew1 | refine below_set ?_ (IsS194.ge HI0.out)) | exact HB.out)) HL.out hb)
            have n3_ := Aside0.mk (KeepBut.trans (by repeat (first | (with_reducible first | exact HK.out | apply KeepBut.set_ | apply keep_drewN | apply keep_drew | apply keep_alloc) | exact HK.out)) (KeepBut.of_grown hg g) (Kd.R_base2 HL200_0.out))
            have n4_ := Aside0.mk (Kd.H_grown (Kd.H_widen (by repeat (first | exact HH70.out | refine Kd.H_alloc ?_ _ | refine Kd.H_drewN ?_ _ | refine Kd.H_drew ?_))) hg (fun k_ e_ => .inl (UU70.out.1 k_ e_)))
            have n5_ := Aside0.mk (Kd.R_grown2 (by (with_reducible repeat (first | apply Kd.R_alloc | apply Kd.R_drewN | apply Kd.R_drew)); exact HE70_1.out) rfl hg (ap_sym AP70.out))
            have n6_ := Aside0.mk (ho)
            clear HI0
            clear HO203
            clear HB
            clear HK
            clear HH70
            clear HE70_1
            clear HO_3
            clear UU70
            clear HL200_0
            clear HL200_1
            have HI0 := n0_
            have HO203 := n1_
            have HB := n2_
            have HK := n3_
            have HH70 := n4_
            have HE70_1 := n5_
            have HO209 := n6_
            clear n0_ n1_ n2_ n3_ n4_ n5_ n6_
            clear ho hb hg hat
            have p62 : 0 ≤ (0 : Int) := (by omega)
            have q62 : (0 : Int) < ((x3_41.length : Int) : Int) := of_decide_eq_true (by first | (with_reducible assumption) | assumption)
            replace p62 := eq_true p62
            replace q62 := eq_true q62
            obtain ⟨Ao74, co74, eo74⟩ := Kd.R_slice HO209.out
            (first | subst eo74 | (injection eo74 with f1_ f2_ f3_; have f4_ := f1_.symm; have f5_ := f3_.symm; clear f1_ f2_ f3_; subst f4_; subst f5_))
            obtain ⟨_, _, hraw72, _, _, hcc72, _⟩ := Kd.H_raw HH70.out (by omega) (by have h_ : (0 : Int) < ((x3_41.length : Int) : Int) := of_decide_eq_true (by first | (with_reducible assumption) | assumption); first | exact h_ | (have e_ := (HN70.out); omega) | simpa using h_)
            obtain ⟨_, hfr72⟩ := Kd.H_at HH70.out (by omega) (by have h_ : (0 : Int) < ((x3_41.length : Int) : Int) := of_decide_eq_true (by first | (with_reducible assumption) | assumption); first | exact h_ | (have e_ := (HN70.out); omega) | simpa using h_)
            have hx72_0 := hcc72 0 _ rfl
            have hf72_0 := hfr72 0
            (try simp only [Nat.add_zero] at hx72_0 hf72_0)
            (try rw [show (kA).sz = 2 from rfl] at hx72_0)
            (try rw [show (kA).sz = 2 from rfl] at hf72_0)
            (try rw [show ((0 : Int)).toNat = 0 from rfl] at hx72_0)
            (try simp only [Nat.reduceMul, Nat.zero_mul, Nat.zero_add, Nat.reduceAdd] at hx72_0)
            (try rw [show ((0 : Int)).toNat = 0 from rfl] at hf72_0)
            (try simp only [Nat.reduceMul, Nat.zero_mul, Nat.zero_add, Nat.reduceAdd] at hf72_0)
            have HP72 := Kd.S_seg0 HH70.out (by omega) (by have h_ : (0 : Int) < ((x3_41.length : Int) : Int) := of_decide_eq_true (by first | (with_reducible assumption) | assumption); first | exact h_ | (have e_ := (HN70.out); omega) | simpa using h_) (seg := [.slice Ao74 y207.length co74]) (j := 0) (show 1 ≤ 2 from by decide) (x' := (⟨y207, (rd_T95 x3_41 0).f1⟩ : S95)) (kA_mk (k95_mkM _ _ _ (⟨y207, (rd_T95 x3_41 0).f1⟩ : S95) HO209.out (Kd.R_mono HE70_1.out (fun _ h_ => .inl h_))) (ap_mk (ap_sym AQ70.out))) (fun _ hk => hk)
            clear hcc72 hfr72
            have HN0_go70 := Aside0.mk (show g ≠ go70 from by have h_ := IsS194.own_ne HI0.out hraw72 (by decide); intro e_; exact h_ (by rw [e_]; rfl))
            have HS72 := HP72.1
            rw [← Ny210.out] at HS72
            have HQ72 := Aside0.mk HS72
            obtain ⟨_, hgg72⟩ := Kd.R_typed hraw72 go70 rfl
            have GG72_ := Aside0.mk hgg72
            clear HP72 HS72 hgg72
            refine hK.out _ _ ⟨HS0_, HS1_⟩ (fun hHeld => ?_)
            clear hK K
            refine norm_ (a' := ?_) ?_ ?_
            rotate_left
            ·show Act.put _ (some 79) _ = _
             simp only [Act.put, List.setIfInBounds_toArray, List.set_cons_zero, List.set_cons_succ, i64_w, i32_w]
             rfl
            refine pure_ (i := 10) (N := some 80) (v := ?_) (a' := ?_) #[true, true, true, true, true, true, true, true, true, true, true, false, false] rfl rfl (any_of HT_.out (by kernel_rfl)) (fun _ _ _ h => h) (Or.inl ⟨by rfl, ?_⟩) ?_ ?_
            rotate_left
            ·intro w'
             go_simp
             with_reducible rfl
            rotate_left
            ·simp only [Act.put, List.setIfInBounds_toArray, List.set_cons_zero, List.set_cons_succ, i64_w, i32_w]
             rfl
            refine pure_ (i := 11) (N := some 81) (v := ?_) (a' := ?_) #[true, true, true, true, true, true, true, true, true, true, true, true, false] rfl rfl (any_of HT_.out (by kernel_rfl)) (fun _ _ _ h => h) (Or.inl ⟨by rfl, ?_⟩) ?_ ?_
            rotate_left
            ·intro w'
             go_simp
             with_reducible rfl
            rotate_left
            ·simp only [Act.put, List.setIfInBounds_toArray, List.set_cons_zero, List.set_cons_succ, i64_w, i32_w]
             rfl
            refine last_ (i := 12) (N := none) #[true, true, true, true, true, true, true, true, true, true, true, true, true] rfl rfl (one_of HT_.out (by kernel_rfl)) (by decide) (fun K hK => ?_)
            refine skip_ (w1 := ?_) (by rfl) rfl ?_ ?_
            rotate_left
            ·go_simp
             rfl
            refine hK.out _ _ ?_
            clear hK K
            refine done_ (done_of HT_.out (by kernel_rfl)) ?_
            try go_wp2
            go_ret
            exact ⟨_, by first | rfl | (simp [errW_none, errW_some] <;> rfl) | (simp [*, errW_none, errW_some] <;> rfl), kA_S (by (with_reducible repeat (first | apply Kd.S_alloc | apply Kd.S_drewN | apply Kd.S_drew)); exact Kd.S_mono HQ72.out (fun _ hk => trivial)), by repeat (first | (with_reducible first | exact HI0.out | apply IsS194.alloc | apply IsS194.drewN | apply IsS194.drew | apply IsS194.set_1 | apply IsS194.set_2 | refine IsS194.far ?_ HN0_go70.out _) | exact HI0.out), by repeat (first | (with_reducible first | exact HB.out | apply below_alloc | apply pw_below_drewN | apply below_drew1 | refine below_set ?_ (Nat.le_trans HL.out GB70.out) | refine below_set ?_ (IsS194.ge HI0.out)) | exact HB.out), by repeat (first | (with_reducible first | exact HK.out | apply KeepBut.set_ | apply keep_drewN | apply keep_drew | apply keep_alloc | refine keep_far ?_ GB70.out _) | exact HK.out)⟩
           ·rw [if_neg c61] at H
            exact absurd H (by simp)
          ·rw [if_neg c59] at H
           exact absurd H (by simp)
         ·replace c58 := Bool.eq_false_iff.mpr c58
          subst c58
          have H1 : (some (x3_41, t198, t199)) = some (r1, r2, r3) := by first | rfl | (rw [if_neg (show ¬ (false = true) by decide)] at H; exact H)
          clear H
          have H := H1
          clear H1
          simp only [Option.some.injEq, Prod.mk.injEq] at H
          obtain ⟨rfl, rfl, rfl⟩ := H
          go_wp2_with (first | (go_at_call 156; (with_reducible refine (spec_l1Once.calls g s0_0 x1001_41 x1002_41 12 false t198 t199 w0 _ ?side1 ?side2 A57.out).mono ?_); (case side1 => repeat (first | (with_reducible first | exact HI0.out | apply IsS194.alloc | apply IsS194.drewN | apply IsS194.drew | apply IsS194.set_1 | apply IsS194.set_2) | exact HI0.out)); (case side2 => repeat (first | (with_reducible first | exact HB.out | apply below_alloc | apply pw_below_drewN | apply below_drew1 | refine below_set ?_ (IsS194.ge HI0.out)) | exact HB.out)); rintro e w75 ⟨rfl, hi, hb, hk⟩; have n0_ := Aside0.mk (Kd.S_mono (Kd.S_keep (IsS194.apartS (show IsS194 w0 _ g s0_0 x1001_41 x1002_41 from by repeat (first | (with_reducible first | exact HI0.out | apply IsS194.alloc | apply IsS194.drewN | apply IsS194.drew | apply IsS194.set_1 | apply IsS194.set_2) | exact HI0.out)) (by (with_reducible repeat (first | apply Kd.S_alloc | apply Kd.S_drewN | apply Kd.S_drew)); exact HO_3.out) (by decide)) hk (fun _ h => h.2)) (fun _ h => h.1)); have n1_ := Aside0.mk (KeepBut.trans (by repeat (first | (with_reducible first | exact HK.out | apply KeepBut.set_ | apply keep_drewN | apply keep_drew | apply keep_alloc) | exact HK.out)) hk (.inl rfl)); have n2_ := Aside0.mk (hb); have n3_ := Aside0.mk (hi); clear HO_3; clear HK; clear HB; clear HI0; have HO_3 := n0_; have HK := n1_; have HB := n2_; have HI0 := n3_; clear n0_ n1_ n2_ n3_; (try clear hb); (try clear hb2); (try clear hk); (try clear hi)))
          go_ret
          exact ⟨_, by first | rfl | (simp [errW_none, errW_some] <;> rfl) | (simp [*, errW_none, errW_some] <;> rfl), kA_S (by (with_reducible repeat (first | apply Kd.S_alloc | apply Kd.S_drewN | apply Kd.S_drew)); exact HO_3.out), by repeat (first | (with_reducible first | exact HI0.out | apply IsS194.alloc | apply IsS194.drewN | apply IsS194.drew | apply IsS194.set_1 | apply IsS194.set_2) | exact HI0.out), by repeat (first | (with_reducible first | exact HB.out | apply below_alloc | apply pw_below_drewN | apply below_drew1 | refine below_set ?_ (IsS194.ge HI0.out)) | exact HB.out), by repeat (first | (with_reducible first | exact HK.out | apply KeepBut.set_ | apply keep_drewN | apply keep_drew | apply keep_alloc) | exact HK.out)⟩
        ·rw [if_neg c56] at H
         have c56b0 : decide (0 < t167) = false := decide_eq_false c56
         clear c56
         simp only [Option.some.injEq, Prod.mk.injEq] at H
         obtain ⟨rfl, rfl, rfl⟩ := H
         go_wp2
         go_ret
         exact ⟨_, by first | rfl | (simp [errW_none, errW_some] <;> rfl) | (simp [*, errW_none, errW_some] <;> rfl), kA_S (by (with_reducible repeat (first | apply Kd.S_alloc | apply Kd.S_drewN | apply Kd.S_drew)); exact HO_3.out), by repeat (first | (with_reducible first | exact HI0.out | apply IsS194.alloc | apply IsS194.drewN | apply IsS194.drew | apply IsS194.set_1 | apply IsS194.set_2) | exact HI0.out), by repeat (first | (with_reducible first | exact HB.out | apply below_alloc | apply pw_below_drewN | apply below_drew1 | refine below_set ?_ (IsS194.ge HI0.out)) | exact HB.out), by repeat (first | (with_reducible first | exact HK.out | apply KeepBut.set_ | apply keep_drewN | apply keep_drew | apply keep_alloc) | exact HK.out)⟩

end Go.Proofs.Ytbgfkpagkhofpaa.PFnGroups
