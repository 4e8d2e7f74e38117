-- Written by a program of this session: a Go function told as a Lean function, and the proof.
import Derived.Test.YtbgfkpagkhofpaaPFnGroupsx0
namespace Go.Proofs.Ytbgfkpagkhofpaa.PFnGroups
open Go.RowKit Go.Proofs.YtbgfkpagkhofpaaW.PrintWords Go.Proofs.YtbgfkpagkhofpaaW.PrintLast Go.Proofs.YtbgfkpagkhofpaaW.PrintMore
attribute [local go_sem] max2_int min2_int max_two min_two max_three min_three max_four min_four   -- for this text's walks alone
set_option linter.unusedVariables false
set_option linter.unusedSimpArgs false

/-! ### laws_big: function 11 -/
def laws_big.f (l0 : List Int) : Option (Bool) := some (decide ((l0.length : Int) > 1048576))
set_option maxHeartbeats 8000000 in
set_option maxRecDepth 100000 in
theorem laws_big.calls (A0 : Option Addr) (c0 : Nat) (l0 : List Int) (r : Bool) (w : World) (hr0 : Kd.C (Kd.int .u8) w A0 l0.length l0) (hc0 : l0.length ≤ c0) (h : laws_big.f l0 = some r) :
  Calls Try.prog 11 #[.slice A0 l0.length c0] w fun e w' => e = .returned (.bool r) ∧ Drawn0 w w' := by
 have HR0 := Aside0.mk hr0
 have HC0 := Aside0.mk hc0
 clear hr0 hc0
 have H : (some (decide ((l0.length : Int) > 1048576))) = some r := h
 clear h
 obtain rfl := Option.some.inj H
 go_enter Try.func11, Try.ntmps11
 go_wp2
 go_ret
 exact ⟨by first | rfl | (simp; done) | (simp [*]; done), by repeat (first | exact Drawn0.refl _ | apply Drawn0.step)⟩

/-! ### laws_sameInts: function 31 -/
def laws_sameInts.l0 : Nat → List Int → List Int → Int → Option (Bool)
 | 0, _, _, _ => none
 | k + 1, x0, x1, x5 => if x5 < (x0.length : Int) then (if 0 ≤ x5 then (if x5 < (x1.length : Int) then (if (rd x0 x5) = (rd x1 x5) then (laws_sameInts.l0 k x0 x1 (wrap64 (x5 + 1))) else (some false)) else (none)) else (none)) else (some true)
def laws_sameInts.f (k : Nat) (l0 : List Int) (l1 : List Int) : Option (Bool) := if (l0.length : Int) = (l1.length : Int) then (laws_sameInts.l0 k l0 l1 0) else (some false)
theorem laws_sameInts.mono_l : ∀ k, (∀ y0 y1 y2, LeO (laws_sameInts.l0 k y0 y1 y2) (laws_sameInts.l0 (k + 1) y0 y1 y2))
 | 0 => fun _ _ _ r h => by simp [laws_sameInts.l0] at h
 | k + 1 => by
  have ih0 := laws_sameInts.mono_l k
  ·intro y0 y1 y2
   unfold laws_sameInts.l0
   repeat' first
   | (with_reducible exact ih0 _ _ _)
   | (with_reducible exact LeO.refl _)
   | (with_reducible exact LeO.none _)
   | (with_reducible refine LeO.ite ?_ ?_)
   | (with_reducible refine LeO.bind ?_ (fun _ => ?_))
   | exact ih0 _ _ _
   | exact LeO.none _
   | refine LeO.ite ?_ ?_
   | refine LeO.bind ?_ (fun _ => ?_)
theorem laws_sameInts.mono : ∀ a0 a1 k, LeO (laws_sameInts.f k a0 a1) (laws_sameInts.f (k + 1) a0 a1) := by
 intro a0 a1 k
 have ih0 := laws_sameInts.mono_l k
 unfold laws_sameInts.f
 repeat' first
   | (with_reducible exact ih0 _ _ _)
   | (with_reducible exact LeO.refl _)
   | (with_reducible exact LeO.none _)
   | (with_reducible refine LeO.ite ?_ ?_)
   | (with_reducible refine LeO.bind ?_ (fun _ => ?_))
   | exact ih0 _ _ _
   | exact LeO.none _
   | refine LeO.ite ?_ ?_
   | refine LeO.bind ?_ (fun _ => ?_)
set_option maxHeartbeats 8000000 in
set_option maxRecDepth 100000 in
theorem laws_sameInts.calls (k : Nat) (A0 : Option Addr) (c0 : Nat) (l0 : List Int) (A1 : Option Addr) (c1 : Nat) (l1 : List Int) (r : Bool) (w : World) (hr0 : Kd.C (Kd.int .i64) w A0 l0.length l0) (hc0 : l0.length ≤ c0) (hr1 : Kd.C (Kd.int .i64) w A1 l1.length l1) (hc1 : l1.length ≤ c1) (h : laws_sameInts.f k l0 l1 = some r) :
  Calls Try.prog 31 #[.slice A0 l0.length c0, .slice A1 l1.length c1] w fun e w' => e = .returned (.bool r) ∧ Drawn0 w w' := by
 have HR0 := Aside0.mk hr0
 have HC0 := Aside0.mk hc0
 clear hr0 hc0
 have HR1 := Aside0.mk hr1
 have HC1 := Aside0.mk hc1
 clear hr1 hc1
 have H : (if (l0.length : Int) = (l1.length : Int) then (laws_sameInts.l0 k l0 l1 0) else (some false)) = some r := h
 clear h
 by_cases c3 : (l0.length : Int) = (l1.length : Int)
 ·rw [if_pos c3] at H
  have c3b0 : ((l0.length : Int) == (l1.length : Int)) = true := beq_iff_eq.mpr c3
  have c3b1 : ((l0.length : Int) != (l1.length : Int)) = false := bne_eq_false_iff_eq.mpr c3
  have c3b2 : (l0.length == l1.length) = true := by first | simpa using c3 | (simp at c3 ⊢; omega)
  clear c3
  have H' := Aside0.mk H
  clear H
  go_enter Try.func31, Try.ntmps31
  go_wp2
  repeat (go_quiet (fail); try go_wp2)
  go_loopg [5] k (fun kq v5 w' => ∃ (x5_1 : Int), v5 = .int .i64 x5_1 ∧ Aside0 (laws_sameInts.l0 kq l0 l1 x5_1 = some r) ∧ Aside0 (kq ≤ k) ∧ Drawn0 w w')
  case atStart => exact ⟨(0), (by first | rfl | (simp; done) | (simp [*]; done)), H', ⟨Nat.le_refl _⟩, by repeat (first | exact Drawn0.refl _ | apply Drawn0.step)⟩
  case round =>
   clear H'
   try clear c1
   try clear p2
   try clear c3
   try clear c3b0
   try clear c3b1
   try clear c3b2
   obtain ⟨x5_1, rfl, HA, HK1, ⟨m1, rfl⟩⟩ := hrel
   cases gk with
   | zero => exact absurd HA.out (by simp [laws_sameInts.l0])
   | succ k1 =>
    have H := HA.out
    clear HA
    simp only [laws_sameInts.l0] at H
    by_cases c4 : x5_1 < (l0.length : Int)
    ·rw [if_pos c4] at H
     have c4b0 : decide (x5_1 < (l0.length : Int)) = true := decide_eq_true c4
     clear c4
     by_cases c5 : 0 ≤ x5_1
     ·rw [if_pos c5] at H
      have c5b0 : decide (0 ≤ x5_1) = true := decide_eq_true c5
      clear c5
      by_cases c6 : x5_1 < (l1.length : Int)
      ·rw [if_pos c6] at H
       have c6b0 : decide (x5_1 < (l1.length : Int)) = true := decide_eq_true c6
       clear c6
       by_cases c7 : (rd l0 x5_1) = (rd l1 x5_1)
       ·rw [if_pos c7] at H
        have c7b0 : ((rd l0 x5_1) == (rd l1 x5_1)) = true := beq_iff_eq.mpr c7
        have c7b1 : ((rd l0 x5_1) != (rd l1 x5_1)) = false := bne_eq_false_iff_eq.mpr c7
        clear c7
        have H' := Aside0.mk H
        clear H
        have p101 : 0 ≤ (x5_1 : Int) := of_decide_eq_true (by first | (with_reducible assumption) | assumption)
        have q101 : x5_1 < (l0.length : Int) := of_decide_eq_true (by first | (with_reducible assumption) | assumption)
        obtain ⟨ad101, e101, hx101_0⟩ := Kd.at_int HR0.out x5_1 p101 q101
        cases e101
        replace p101 := eq_true p101
        replace q101 := eq_true q101
        have p102 : 0 ≤ (x5_1 : Int) := of_decide_eq_true (by first | (with_reducible assumption) | assumption)
        have q102 : x5_1 < (l1.length : Int) := of_decide_eq_true (by first | (with_reducible assumption) | assumption)
        obtain ⟨ad102, e102, hx102_0⟩ := Kd.at_int HR1.out x5_1 p102 q102
        cases e102
        replace p102 := eq_true p102
        replace q102 := eq_true q102
        go_wp2
        repeat (go_quiet (fail); try go_wp2)
        go_roundg k1
        case measure => have := HK1.out; omega
        case rel => exact ⟨(wrap64 (x5_1 + 1)), (by first | rfl | (simp; done) | (simp [*]; done)), H', ⟨by have := HK1.out; omega⟩, by repeat (first | exact Drawn0.refl _ | apply Drawn0.step)⟩
       ·rw [if_neg c7] at H
        have c7b0 : ((rd l0 x5_1) == (rd l1 x5_1)) = false := beq_eq_false_iff_ne.mpr c7
        have c7b1 : ((rd l0 x5_1) != (rd l1 x5_1)) = true := bne_iff_ne.mpr c7
        obtain rfl := Option.some.inj H
        have p101 : 0 ≤ (x5_1 : Int) := of_decide_eq_true (by first | (with_reducible assumption) | assumption)
        have q101 : x5_1 < (l0.length : Int) := of_decide_eq_true (by first | (with_reducible assumption) | assumption)
        obtain ⟨ad101, e101, hx101_0⟩ := Kd.at_int HR0.out x5_1 p101 q101
        cases e101
        replace p101 := eq_true p101
        replace q101 := eq_true q101
        have p102 : 0 ≤ (x5_1 : Int) := of_decide_eq_true (by first | (with_reducible assumption) | assumption)
        have q102 : x5_1 < (l1.length : Int) := of_decide_eq_true (by first | (with_reducible assumption) | assumption)
        obtain ⟨ad102, e102, hx102_0⟩ := Kd.at_int HR1.out x5_1 p102 q102
        cases e102
        replace p102 := eq_true p102
        replace q102 := eq_true q102
        go_wp2
        repeat (go_quiet (fail); try go_wp2)
        go_ret
        exact ⟨by first | rfl | (simp; done) | (simp [*]; done), by repeat (first | exact Drawn0.refl _ | apply Drawn0.step)⟩
      ·rw [if_neg c6] at H
       exact absurd H (by simp)
     ·rw [if_neg c5] at H
      exact absurd H (by simp)
    ·rw [if_neg c4] at H
     have c4b0 : decide (x5_1 < (l0.length : Int)) = false := decide_eq_false c4
     clear c4
     obtain rfl := Option.some.inj H
     go_wp2
     repeat (go_quiet (fail); try go_wp2)
     go_ret
     exact ⟨by first | rfl | (simp; done) | (simp [*]; done), by repeat (first | exact Drawn0.refl _ | apply Drawn0.step)⟩
 ·rw [if_neg c3] at H
  have c3b0 : ((l0.length : Int) == (l1.length : Int)) = false := beq_eq_false_iff_ne.mpr c3
  have c3b1 : ((l0.length : Int) != (l1.length : Int)) = true := bne_iff_ne.mpr c3
  have c3b2 : (l0.length == l1.length) = false := by first | simpa using c3 | (simp at c3 ⊢; omega)
  obtain rfl := Option.some.inj H
  go_enter Try.func31, Try.ntmps31
  go_wp2
  repeat (go_quiet (fail); try go_wp2)
  go_ret
  exact ⟨by first | rfl | (simp; done) | (simp [*]; done), by repeat (first | exact Drawn0.refl _ | apply Drawn0.step)⟩

/-! ### impl_within: function 91 -/
def impl_within.f (a0 : Int) (a1 : Int) (a2 : Int) : Option (Bool) := if a0 ≥ a1 then (some (decide (a0 ≤ a2))) else (some false)
set_option maxHeartbeats 8000000 in
set_option maxRecDepth 100000 in
theorem impl_within.calls (a0 : Int) (a1 : Int) (a2 : Int) (r : Bool) (w : World) (h : impl_within.f a0 a1 a2 = some r) :
  Calls Try.prog 91 #[.int .i64 a0, .int .i64 a1, .int .i64 a2] w fun e w' => e = .returned (.bool r) ∧ Drawn0 w w' := by
 have H : (if a0 ≥ a1 then (some (decide (a0 ≤ a2))) else (some false)) = some r := h
 clear h
 by_cases c4 : a0 ≥ a1
 ·rw [if_pos c4] at H
  have c4b0 : decide (a1 ≤ a0) = true := decide_eq_true c4
  clear c4
  obtain rfl := Option.some.inj H
  go_enter Try.func91, Try.ntmps91
  go_wp2
  go_ret
  exact ⟨by first | rfl | (simp; done) | (simp [*]; done), by repeat (first | exact Drawn0.refl _ | apply Drawn0.step)⟩
 ·rw [if_neg c4] at H
  have c4b0 : decide (a1 ≤ a0) = false := decide_eq_false c4
  clear c4
  obtain rfl := Option.some.inj H
  go_enter Try.func91, Try.ntmps91
  go_wp2
  go_ret
  exact ⟨by first | rfl | (simp; done) | (simp [*]; done), by repeat (first | exact Drawn0.refl _ | apply Drawn0.step)⟩

/-! ### impl_areAll: function 183 -/
-- behind 91
theorem areAll_gen (g : Nat) (cb : Array Value) (p : Int → Bool) (m : Int) (A : Option Addr) (c : Nat) (l : List Int) (w : World) (hr : Kd.C (Kd.int .i64) w A l.length l) (hc : l.length ≤ c)
  (eg : ∀ args w, (callFunc g args).run Try.prog w = .ok (.enter g args) w)
  (hcl : ∀ (n : Int) (W : World), Below w.heap.size w W → Calls Try.prog g (#[.int .i64 n] ++ cb) W fun e w' => e = .returned (.bool (p n)) ∧ Below W.heap.size W w') :
  Calls Try.prog 183 #[.slice A l.length c, .int .i64 m, .func (.func g) #[] cb] w fun e w' => e = .returned (.bool (l.all p && decide ((l.length : Int) ≤ m))) ∧ Below w.heap.size w w' := by
 have hlen : l.length ≤ 9223372036854775807 := hr.2.1
 have HR0 := Aside0.mk hr
 have HC0 := Aside0.mk hc
 have HL := Aside0.mk hlen
 have HY := Aside0.mk hcl
 clear hr hc hcl hlen
 have HB := Aside0.mk (Below.refl w.heap.size w)
 go_enter Try.func183, Try.ntmps183
 go_wp2
 go_loopg [11] (l.length) (fun kq v8 w' => ∃ (i : Int), v8 = .int .i64 i ∧ Aside0 (0 ≤ i ∧ i ≤ l.length ∧ kq = l.length - i.toNat) ∧ Aside0 (∀ (j : Nat) y, j < i → l[j]? = some y → p y = true) ∧ Aside0 (Below w.heap.size w w'))
 case atStart => exact ⟨0, rfl, ⟨by omega, by omega, by omega⟩, ⟨fun j y hj => by omega⟩, HB⟩
 case round =>
  clear HB
  obtain ⟨i, rfl, HI, HN, HB⟩ := hrel
  by_cases c3 : i < (l.length : Int)
  ·have c3b0 : decide (i < (l.length : Int)) = true := decide_eq_true c3
   have p1 : 0 ≤ i := HI.out.1
   obtain ⟨ad1, e1, hx0⟩ := Kd.at_int HR0.out i p1 c3
   cases e1
   replace hx0 := (HB.out.cell (World.block_lt_of_cell? w _ hx0)).trans hx0
   have hg : l[i.toNat]? = some (rd l i) := by
    have : i.toNat < l.length := by omega
    simp [rd, List.getD, List.getElem?_eq_getElem this]
   have HC3 := Aside0.mk c3
   have HG := Aside0.mk hg
   have p1' := eq_true p1
   have c3' := eq_true c3
   clear p1 c3 hg
   have hcl2 := HY.out (rd l i) wr HB.out
   cases hp : p (rd l i) with
   | false =>
    rw [hp] at hcl2
    have HCL := Aside0.mk hcl2
    have HF := Aside0.mk (show l.all p = false by rw [List.all_eq_false]; exact ⟨_, List.mem_of_getElem? HG.out, by simp [hp]⟩)
    clear hcl2 hp
    go_wp2_with (go_at_fn g; (refine HCL.out.mono ?_); rintro e w7 ⟨rfl, hb⟩; have HB2 := Aside0.mk (below_step HB.out hb); clear hb)
    go_ret
    rw [HF.out]
    exact ⟨rfl, HB2.out⟩
   | true =>
    rw [hp] at hcl2
    have HCL := Aside0.mk hcl2
    have HP := Aside0.mk hp
    clear hcl2 hp
    go_wp2_with (go_at_fn g; (refine HCL.out.mono ?_); rintro e w7 ⟨rfl, hb⟩; have HB2 := Aside0.mk (below_step HB.out hb); clear hb)
    go_roundg (l.length - (i.toNat + 1))
    case measure => have := HI.out; have := HC3.out; omega
    case rel =>
     have h1 := HC3.out
     have h2 := HL.out
     have h3 := HI.out
     have h4 : wrap64 (i + 1) = i + 1 := by unfold wrap64; omega
     refine ⟨wrap64 (i + 1), rfl, ⟨by omega, by omega, by omega⟩, ⟨fun j y hj hy => ?_⟩, HB2⟩
     by_cases e : j = i.toNat
     ·subst e
      have := HG.out.symm.trans hy
      injection this with this
      rw [← this]; exact HP.out
     ·exact HN.out j y (by omega) hy
  ·have c3b0 : decide (i < (l.length : Int)) = false := decide_eq_false c3
   have HF := Aside0.mk (show l.all p = true by
    rw [List.all_eq_true]
    intro y hy
    obtain ⟨j, hj, rfl⟩ := List.getElem_of_mem hy
    exact HN.out j _ (by have := HI.out; omega) (List.getElem?_eq_getElem hj))
   clear c3
   go_wp2
   go_ret
   rw [HF.out, Bool.true_and]
   exact ⟨rfl, HB.out⟩
def inB (lo hi n : Int) : Bool := decide (lo ≤ n) && decide (n ≤ hi)

/-! ### impl_rises: function 194 -/
def impl_rises.l0 : Nat → List Int → Int → Option (Bool)
 | 0, _, _ => none
 | k + 1, x0, x3 => if x3 < (x0.length : Int) then (if 0 ≤ (wrap64 (x3 - 1)) then (if (wrap64 (x3 - 1)) < (x0.length : Int) then (if 0 ≤ x3 then (if (rd x0 (wrap64 (x3 - 1))) ≥ (rd x0 x3) then (some false) else (impl_rises.l0 k x0 (wrap64 (x3 + 1)))) else (none)) else (none)) else (none)) else (some true)
def impl_rises.f (k : Nat) (l0 : List Int) : Option (Bool) := impl_rises.l0 k l0 1
theorem impl_rises.mono_l : ∀ k, (∀ y0 y1, LeO (impl_rises.l0 k y0 y1) (impl_rises.l0 (k + 1) y0 y1))
 | 0 => fun _ _ r h => by simp [impl_rises.l0] at h
 | k + 1 => by
  have ih0 := impl_rises.mono_l k
  ·intro y0 y1
   unfold impl_rises.l0
   repeat' first
   | (with_reducible exact ih0 _ _)
   | (with_reducible exact LeO.refl _)
   | (with_reducible exact LeO.none _)
   | (with_reducible refine LeO.ite ?_ ?_)
   | (with_reducible refine LeO.bind ?_ (fun _ => ?_))
   | exact ih0 _ _
   | exact LeO.none _
   | refine LeO.ite ?_ ?_
   | refine LeO.bind ?_ (fun _ => ?_)
theorem impl_rises.mono : ∀ a0 k, LeO (impl_rises.f k a0) (impl_rises.f (k + 1) a0) := by
 intro a0 k
 have ih0 := impl_rises.mono_l k
 unfold impl_rises.f
 repeat' first
   | (with_reducible exact ih0 _ _)
   | (with_reducible exact LeO.refl _)
   | (with_reducible exact LeO.none _)
   | (with_reducible refine LeO.ite ?_ ?_)
   | (with_reducible refine LeO.bind ?_ (fun _ => ?_))
   | exact ih0 _ _
   | exact LeO.none _
   | refine LeO.ite ?_ ?_
   | refine LeO.bind ?_ (fun _ => ?_)
set_option maxHeartbeats 8000000 in
set_option maxRecDepth 100000 in
theorem impl_rises.calls (k : Nat) (A0 : Option Addr) (c0 : Nat) (l0 : List Int) (r : Bool) (w : World) (hr0 : Kd.C (Kd.int .i64) w A0 l0.length l0) (hc0 : l0.length ≤ c0) (h : impl_rises.f k l0 = some r) :
  Calls Try.prog 194 #[.slice A0 l0.length c0] w fun e w' => e = .returned (.bool r) ∧ Drawn0 w w' := by
 have HR0 := Aside0.mk hr0
 have HC0 := Aside0.mk hc0
 clear hr0 hc0
 have H : (impl_rises.l0 k l0 1) = some r := h
 clear h
 have H' := Aside0.mk H
 clear H
 go_enter Try.func194, Try.ntmps194
 go_wp2
 repeat (go_quiet (fail); try go_wp2)
 go_loopg [3] k (fun kq v3 w' => ∃ (x3_1 : Int), v3 = .int .i64 x3_1 ∧ Aside0 (impl_rises.l0 kq l0 x3_1 = some r) ∧ Aside0 (kq ≤ k) ∧ Drawn0 w w')
 case atStart => exact ⟨(1), (by first | rfl | (simp; done) | (simp [*]; done)), H', ⟨Nat.le_refl _⟩, by repeat (first | exact Drawn0.refl _ | apply Drawn0.step)⟩
 case round =>
  clear H'
  try clear c1
  obtain ⟨x3_1, rfl, HA, HK1, ⟨m1, rfl⟩⟩ := hrel
  cases gk with
  | zero => exact absurd HA.out (by simp [impl_rises.l0])
  | succ k1 =>
   have H := HA.out
   clear HA
   simp only [impl_rises.l0] at H
   by_cases c2 : x3_1 < (l0.length : Int)
   ·rw [if_pos c2] at H
    have c2b0 : decide (x3_1 < (l0.length : Int)) = true := decide_eq_true c2
    clear c2
    obtain ⟨ji3, hji3⟩ : ∃ j_ : Int, (wrap64 (x3_1 - 1)) = j_ := ⟨_, rfl⟩
    first | rw [hji3] at H | simp only [hji3] at H
    have hji3w : (IntKind.i64.wrap (x3_1 - 1)) = ji3 := (i64_w _).trans hji3
    by_cases c4 : 0 ≤ (ji3)
    ·rw [if_pos c4] at H
     have c4b0 : decide (0 ≤ (ji3)) = true := decide_eq_true c4
     clear c4
     by_cases c5 : (ji3) < (l0.length : Int)
     ·rw [if_pos c5] at H
      have c5b0 : decide ((ji3) < (l0.length : Int)) = true := decide_eq_true c5
      clear c5
      by_cases c6 : 0 ≤ x3_1
      ·rw [if_pos c6] at H
       have c6b0 : decide (0 ≤ x3_1) = true := decide_eq_true c6
       clear c6
       by_cases c7 : (rd l0 (ji3)) ≥ (rd l0 x3_1)
       ·rw [if_pos c7] at H
        have c7b0 : decide ((rd l0 x3_1) ≤ (rd l0 (ji3))) = true := decide_eq_true c7
        clear c7
        obtain rfl := Option.some.inj H
        have p103 : 0 ≤ ((ji3) : Int) := of_decide_eq_true (by first | (with_reducible assumption) | assumption)
        have q103 : (ji3) < (l0.length : Int) := of_decide_eq_true (by first | (with_reducible assumption) | assumption)
        obtain ⟨ad103, e103, hx103_0⟩ := Kd.at_int HR0.out (ji3) p103 q103
        cases e103
        replace p103 := eq_true p103
        replace q103 := eq_true q103
        have p104 : 0 ≤ (x3_1 : Int) := of_decide_eq_true (by first | (with_reducible assumption) | assumption)
        have q104 : x3_1 < (l0.length : Int) := of_decide_eq_true (by first | (with_reducible assumption) | assumption)
        obtain ⟨ad104, e104, hx104_0⟩ := Kd.at_int HR0.out x3_1 p104 q104
        obtain rfl : ad103 = ad104 := (by injection e104)
        replace p104 := eq_true p104
        replace q104 := eq_true q104
        go_wp2
        repeat (go_quiet (fail); try go_wp2)
        go_ret
        exact ⟨by first | rfl | (simp; done) | (simp only [← hji3] <;> (first | rfl | simp)) | (simp [*]; done), by repeat (first | exact Drawn0.refl _ | apply Drawn0.step)⟩
       ·rw [if_neg c7] at H
        have c7b0 : decide ((rd l0 x3_1) ≤ (rd l0 (ji3))) = false := decide_eq_false c7
        clear c7
        have H' := Aside0.mk H
        clear H
        have p103 : 0 ≤ ((ji3) : Int) := of_decide_eq_true (by first | (with_reducible assumption) | assumption)
        have q103 : (ji3) < (l0.length : Int) := of_decide_eq_true (by first | (with_reducible assumption) | assumption)
        obtain ⟨ad103, e103, hx103_0⟩ := Kd.at_int HR0.out (ji3) p103 q103
        cases e103
        replace p103 := eq_true p103
        replace q103 := eq_true q103
        have p104 : 0 ≤ (x3_1 : Int) := of_decide_eq_true (by first | (with_reducible assumption) | assumption)
        have q104 : x3_1 < (l0.length : Int) := of_decide_eq_true (by first | (with_reducible assumption) | assumption)
        obtain ⟨ad104, e104, hx104_0⟩ := Kd.at_int HR0.out x3_1 p104 q104
        obtain rfl : ad103 = ad104 := (by injection e104)
        replace p104 := eq_true p104
        replace q104 := eq_true q104
        go_wp2
        repeat (go_quiet (fail); try go_wp2)
        go_roundg k1
        case measure => have := HK1.out; omega
        case rel => exact ⟨(wrap64 (x3_1 + 1)), (by first | rfl | (simp; done) | (simp [*]; done)), H', ⟨by have := HK1.out; omega⟩, by repeat (first | exact Drawn0.refl _ | apply Drawn0.step)⟩
      ·rw [if_neg c6] at H
       exact absurd H (by simp)
     ·rw [if_neg c5] at H
      exact absurd H (by simp)
    ·rw [if_neg c4] at H
     exact absurd H (by simp)
   ·rw [if_neg c2] at H
    have c2b0 : decide (x3_1 < (l0.length : Int)) = false := decide_eq_false c2
    clear c2
    obtain rfl := Option.some.inj H
    go_wp2
    repeat (go_quiet (fail); try go_wp2)
    go_ret
    exact ⟨by first | rfl | (simp; done) | (simp [*]; done), by repeat (first | exact Drawn0.refl _ | apply Drawn0.step)⟩

/-! ### impl_areAll__impl_areSet_1: function 183 -/
-- behind 183 91
theorem areSet1 (n : Int) (w : World) : Calls Try.prog 239 #[.int .i64 n] w fun e w' => e = .returned (.bool (inB 0 30 n)) ∧ Below w.heap.size w w' := by
 have H := Aside0.mk (show impl_within.f n 0 30 = some (inB 0 30 n) by
  unfold impl_within.f inB
  by_cases h : n ≥ 0
  ·rw [if_pos h]; simp [h]
  ·rw [if_neg h]; simp [h])
 go_enter Try.func239, Try.ntmps239
 go_wp2_with (go_at_call 91; (with_reducible refine (impl_within.calls _ _ _ _ _ H.out).mono ?_); rintro e w' ⟨rfl, ⟨nd, rfl⟩⟩)
 go_ret
 exact ⟨rfl, by repeat (first | exact Below.refl _ _ | apply pw_below_drewN)⟩
def impl_areAll__impl_areSet_1.f (l : List Int) (m : Int) : Option Bool := some (l.all (inB 0 30) && decide ((l.length : Int) ≤ m))
theorem impl_areAll__impl_areSet_1.calls (A0 : Option Addr) (c0 : Nat) (l0 : List Int) (a1 : Int) (r : Bool) (w : World) (hr0 : Kd.C (Kd.int .i64) w A0 l0.length l0) (hc0 : l0.length ≤ c0) (h : impl_areAll__impl_areSet_1.f l0 a1 = some r) :
  Calls Try.prog 183 #[.slice A0 l0.length c0, .int .i64 a1, .func (.func 239) #[] #[]] w fun e w' => e = .returned (.bool r) ∧ Below w.heap.size w w' := by
 obtain rfl := Option.some.inj h
 exact areAll_gen 239 #[] (inB 0 30) a1 A0 c0 l0 w hr0 hc0 (enters_of Try.func239 (by kernel_rfl) rfl) (fun n W _ => areSet1 n W)

/-! ### impl_areSet: function 193 -/
def impl_areSet.f (k : Nat) (l0 : List Int) : Option (Bool) := (impl_rises.f k l0).bind fun t105 => (if t105 = true then ((impl_areAll__impl_areSet_1.f l0 31).bind fun t106 => (some t106)) else (some false))
theorem impl_areSet.mono : ∀ a0 k, LeO (impl_areSet.f k a0) (impl_areSet.f (k + 1) a0) := by
 intro a0 k
 unfold impl_areSet.f
 repeat' first
   | (with_reducible exact impl_rises.mono _ _)
   | (with_reducible exact LeO.refl _)
   | (with_reducible exact LeO.none _)
   | (with_reducible refine LeO.ite ?_ ?_)
   | (with_reducible refine LeO.bind ?_ (fun _ => ?_))
   | exact impl_rises.mono _ _
   | exact LeO.none _
   | refine LeO.ite ?_ ?_
   | refine LeO.bind ?_ (fun _ => ?_)
set_option maxHeartbeats 8000000 in
set_option maxRecDepth 100000 in
theorem impl_areSet.calls (k : Nat) (A0 : Option Addr) (c0 : Nat) (l0 : List Int) (r : Bool) (w : World) (hr0 : Kd.C (Kd.int .i64) w A0 l0.length l0) (hc0 : l0.length ≤ c0) (h : impl_areSet.f k l0 = some r) :
  Calls Try.prog 193 #[.slice A0 l0.length c0] w fun e w' => e = .returned (.bool r) ∧ Below w.heap.size w w' := by
 have HR0 := Aside0.mk hr0
 have HC0 := Aside0.mk hc0
 clear hr0 hc0
 have HB := Aside0.mk (Below.refl w.heap.size w)
 have H : ((impl_rises.f k l0).bind fun t105 => (if t105 = true then ((impl_areAll__impl_areSet_1.f l0 31).bind fun t106 => (some t106)) else (some false))) = some r := h
 clear h
 obtain ⟨t105, A20, H⟩ := bnd_ H
 have A2 := Aside0.mk A20
 clear A20
 by_cases c3 : t105 = true
 ·subst c3
  replace H := ifp_ rfl H
  obtain ⟨t106, A40, H⟩ := bnd_ H
  have A4 := Aside0.mk A40
  clear A40
  obtain rfl := Option.some.inj H
  go_enter Try.func193, Try.ntmps193
  go_wp2_with (first | ((with_reducible refine gate_callee (f := 194) rfl ?_); refine goesL_ (some 4) rfl rfl Try.func194 (by kernel_rfl) rfl #[.slice A0 l0.length c0] rfl (by (try simp only [List.map_toArray, List.map_cons, List.map_nil]); first | done | rfl | (simp only [List.length_drop, List.length_take]; rfl)) ?_; (with_reducible refine (impl_rises.calls k _ _ l0 true _ ?side1 ?side2 A2.out).mono ?_); (case side1 => repeat (first | exact HR0.out | (with_reducible refine Kd.C_alloc ?_ _) | (with_reducible refine Kd.C_drewN ?_ _) | (with_reducible refine Kd.C_drew ?_))); (case side2 => exact HC0.out); rintro e w' ⟨rfl, ⟨nd, rfl⟩⟩; refine ⟨_, rfl, ?_⟩) | (go_at_call 183; (with_reducible refine (impl_areAll__impl_areSet_1.calls _ _ l0 31 t106 _ ?side1 ?side2 A4.out).mono ?_); (case side1 => repeat (first | exact HR0.out | (with_reducible refine Kd.C_alloc ?_ _) | (with_reducible refine Kd.C_drewN ?_ _) | (with_reducible refine Kd.C_drew ?_))); (case side2 => exact HC0.out); rintro e w5 ⟨rfl, hb⟩; have n0_ := Aside0.mk (below_step (by repeat (first | (with_reducible first | exact HB.out | apply below_alloc | apply pw_below_drewN | apply below_drew1) | exact HB.out)) hb); clear HB; have HB := n0_; clear n0_; (try clear hb); (try clear hb2); (try clear hk); (try clear hi)))
  go_ret
  exact ⟨by first | rfl | (simp [errW_none, errW_some] <;> rfl) | (simp [*, errW_none, errW_some] <;> rfl), by repeat (first | (with_reducible first | exact HB.out | apply below_alloc | apply pw_below_drewN | apply below_drew1) | exact HB.out)⟩
 ·replace c3 := Bool.eq_false_iff.mpr c3
  subst c3
  replace H := ifn_ (by decide) H
  obtain rfl := Option.some.inj H
  go_enter Try.func193, Try.ntmps193
  go_wp2_with (first | ((with_reducible refine gate_callee (f := 194) rfl ?_); refine goesL_ (some 4) rfl rfl Try.func194 (by kernel_rfl) rfl #[.slice A0 l0.length c0] rfl (by (try simp only [List.map_toArray, List.map_cons, List.map_nil]); first | done | rfl | (simp only [List.length_drop, List.length_take]; rfl)) ?_; (with_reducible refine (impl_rises.calls k _ _ l0 false _ ?side1 ?side2 A2.out).mono ?_); (case side1 => repeat (first | exact HR0.out | (with_reducible refine Kd.C_alloc ?_ _) | (with_reducible refine Kd.C_drewN ?_ _) | (with_reducible refine Kd.C_drew ?_))); (case side2 => exact HC0.out); rintro e w' ⟨rfl, ⟨nd, rfl⟩⟩; refine ⟨_, rfl, ?_⟩))
  go_ret
  exact ⟨by first | rfl | (simp [errW_none, errW_some] <;> rfl) | (simp [*, errW_none, errW_some] <;> rfl), by repeat (first | (with_reducible first | exact HB.out | apply below_alloc | apply pw_below_drewN | apply below_drew1) | exact HB.out)⟩

/-! ### impl_GroupsOk: function 132 -/
/-- Numbers that rise, behind one. -/
def risF : Int → List Int → Bool
 | _, [] => true
 | p, x :: s => decide (p < x) && risF x s
def risB : List Int → Bool
 | [] => true
 | x :: s => risF x s
theorem ris_l0 (l : List Int) (hl : l.length ≤ 9223372036854775807) : ∀ (s : List Int) (i p : Int), 1 ≤ i → i ≤ l.length → l.drop i.toNat = s → rd l (i - 1) = p → Ev (fun k => impl_rises.l0 k l i) (risF p s)
 | [], i, p, h0, h1, hs, hp => Ev.step (f := fun _ => some (risF p [])) (fun k => by
  have := congrArg List.length hs
  simp at this
  rw [impl_rises.l0, if_neg (by omega)]; rfl) (Ev.now _)
 | x :: s, i, p, h0, h1, hs, hp => by
  have hl' := congrArg List.length hs
  simp at hl'
  have hi : i < (l.length : Int) := by omega
  have hx : rd l i = x := by
   have := congrArg (·[0]?) hs
   simp at this
   unfold rd
   rw [List.getD_eq_getElem?_getD, this]; rfl
  have hs' : l.drop (i + 1).toNat = s := by
   have e : (i + 1).toNat = i.toNat + 1 := by omega
   rw [e, ← List.drop_drop, hs]; rfl
  have hw : wrap64 (i - 1) = i - 1 := by unfold wrap64; omega
  have hw2 : wrap64 (i + 1) = i + 1 := by unfold wrap64; omega
  by_cases c : p < x
  ·have ih := ris_l0 l hl s (i + 1) x (by omega) (by omega) hs' (by rw [show i + 1 - 1 = i by omega]; exact hx)
   rw [risF, decide_eq_true c, Bool.true_and]
   exact Ev.step (fun k => by rw [impl_rises.l0, if_pos hi, hw, if_pos (by omega), if_pos (by omega), if_pos (by omega), hp, hx, if_neg (by omega), hw2]) ih
  ·rw [risF, decide_eq_false c, Bool.false_and]
   exact Ev.step (f := fun _ => some false) (fun k => by rw [impl_rises.l0, if_pos hi, hw, if_pos (by omega), if_pos (by omega), if_pos (by omega), hp, hx, if_pos (by omega)]) (Ev.now _)
theorem rises_ev (l : List Int) (hl : l.length ≤ 9223372036854775807) : Ev (fun k => impl_rises.f k l) (risB l) := by
 cases l with
 | nil => exact Ev.step (f := fun _ => some true) (fun k => by show impl_rises.l0 (k + 1) [] 1 = _; rw [impl_rises.l0, if_neg (by simp)]) (Ev.now _)
 | cons x s => exact ris_l0 (x :: s) hl s 1 x (by omega) (by simp; omega) rfl rfl
def areSetP (l : List Int) : Bool := risB l && (l.all (inB 0 30) && decide ((l.length : Int) ≤ 31))
theorem areSet_ev (l : List Int) (hl : l.length ≤ 9223372036854775807) : Ev (fun k => impl_areSet.f k l) (areSetP l) := by
 unfold impl_areSet.f areSetP
 refine Ev.bind (rises_ev l hl) ?_
 cases risB l with
 | false => exact ⟨0, fun _ _ => by simp⟩
 | true => exact ⟨0, fun _ _ => by simp [impl_areAll__impl_areSet_1.f]⟩
def grpAt (n : Int) (x : S95) : Bool := areSetP x.f0 && (risB x.f1 && (x.f1.all (inB 0 (n - 1)) && decide ((x.f1.length : Int) ≤ n)))
def grpOk (l : List S95) : Bool := l.all (grpAt l.length) && decide ((l.length : Int) ≤ 8)
theorem grp1 (A : Option Addr) (n c b : Nat) (hn : n ≤ 9223372036854775807) (i : Int) (w : World) (hy : w.cell? ⟨b, 0, none⟩ = some (.slice A n c)) : Calls Try.prog 195 (#[.int .i64 i] ++ #[.pointer (some ⟨b, 0, none⟩)]) w fun e w' => e = .returned (.bool (inB 0 ((n : Int) - 1) i)) ∧ Below w.heap.size w w' := by
 obtain ⟨m, hm⟩ : ∃ m : Int, (n : Int) - 1 = m := ⟨_, rfl⟩
 have hw : IntKind.i64.wrap ((n : Int) - 1) = m := by rw [IntKind.wrap_i64]; omega
 rw [hm]
 clear hm
 have H := Aside0.mk (show impl_within.f i 0 m = some (inB 0 m i) by
  unfold impl_within.f inB
  by_cases h : i ≥ 0
  ·rw [if_pos h]; simp [h]
  ·rw [if_neg h]; simp [h])
 clear hn
 go_enter Try.func195, Try.ntmps195
 go_wp2_with (go_at_call 91; (with_reducible refine (impl_within.calls _ _ _ _ _ H.out).mono ?_); rintro e w' ⟨rfl, ⟨nd, rfl⟩⟩)
 go_ret
 exact ⟨rfl, by repeat (first | exact Below.refl _ _ | apply pw_below_drewN)⟩

def impl_GroupsOk.f (l0 : List S95) : Option Bool := some (grpOk l0)
theorem grp_no {l : List S95} {i : Int} (h0 : 0 ≤ i) (h1 : i < (l.length : Int)) (h : grpAt l.length (rd_T95 l i) = false) : grpOk l = false := by
 unfold grpOk
 have : l.all (grpAt l.length) = false := by
  rw [List.all_eq_false]
  have hi : i.toNat < l.length := by omega
  refine ⟨_, List.getElem_mem hi, ?_⟩
  unfold rd_T95 at h
  rw [List.getD_eq_getElem?_getD, List.getElem?_eq_getElem hi] at h
  simpa using h
 rw [this]; rfl
theorem grp_yes {l : List S95} (h : ∀ (j : Nat) y, j < l.length → l[j]? = some y → grpAt l.length y = true) : grpOk l = decide ((l.length : Int) ≤ 8) := by
 unfold grpOk
 have : l.all (grpAt l.length) = true := by
  rw [List.all_eq_true]
  intro y hy
  obtain ⟨j, hj, rfl⟩ := List.getElem_of_mem hy
  exact h j _ hj (List.getElem?_eq_getElem hj)
 rw [this, Bool.true_and]
set_option maxHeartbeats 8000000 in
set_option maxRecDepth 100000 in
theorem impl_GroupsOk.calls (A0 : Option Addr) (c0 : Nat) (l0 : List S95) (r : Bool) (w : World) (hr0 : Kd.C k95 w A0 l0.length l0) (hc0 : l0.length ≤ c0) (h : impl_GroupsOk.f l0 = some r) :
  Calls Try.prog 132 #[.slice A0 l0.length c0] w fun e w' => e = .returned (.bool r) ∧ Below w.heap.size w w' := by
 have hmf : ∀ (fn : Fn) (first cap : Array Value) (w : World), (Instr.makeFunc fn first cap).run Try.prog w = .ok (.func fn first cap) w := fun _ _ _ _ => rfl
 obtain rfl := Option.some.inj h
 clear h
 have hlen : l0.length ≤ 9223372036854775807 := hr0.2.1
 have HR0 := Aside0.mk hr0
 have HC0 := Aside0.mk hc0
 have HL := Aside0.mk hlen
 clear hr0 hc0 hlen
 have HB := Aside0.mk (below_alloc (Below.refl w.heap.size w) (.cells #[.slice A0 l0.length c0] 82))
 have BK := Aside0.mk (heap_alloc_new w (.cells #[.slice A0 l0.length c0] 82))
 go_enter Try.func132, Try.ntmps132
 go_upto_region 1 with (fail)
 generalize w.alloc (.cells #[.slice A0 l0.length c0] 82) = w1 at HB BK ⊢
 generalize w.heap.size = gb at BK ⊢
 have hz : w1.cell? ⟨gb, 0, none⟩ = some (.slice A0 l0.length c0) := (blk_cell BK.out 0).trans rfl
 go_wp2
 clear hz
 go_loopg [7] (l0.length) (fun kq v7 w' => ∃ (i : Int), v7 = .int .i64 i ∧ Aside0 (0 ≤ i ∧ i ≤ l0.length ∧ kq = l0.length - i.toNat) ∧ Aside0 (∀ (j : Nat) y, j < i → l0[j]? = some y → grpAt l0.length y = true) ∧ Aside0 (w'.heap[gb]? = some (.cells #[.slice A0 l0.length c0] 82 (0, 0))) ∧ Aside0 (Below w.heap.size w w'))
 case atStart => exact ⟨0, rfl, ⟨by omega, by omega, by omega⟩, ⟨fun j y hj => by omega⟩, BK, HB⟩
 case round =>
  clear BK HB
  obtain ⟨i, rfl, HI, HN, BK, HB⟩ := hrel
  by_cases c3 : i < (l0.length : Int)
  ·have c3b0 : decide (i < (l0.length : Int)) = true := decide_eq_true c3
   have p1 : 0 ≤ i := HI.out.1
   obtain ⟨ad1, A1, c1, A2, c2, e1, hx0, hx1, hl1, hr1, hl2, hr2⟩ := at_T95 HR0.out i p1 c3
   cases e1
   replace hx0 := (HB.out.cell (World.block_lt_of_cell? w _ hx0)).trans hx0
   replace hx1 := (HB.out.cell (World.block_lt_of_cell? w _ hx1)).trans hx1
   have HR1 := Aside0.mk hr1
   have HL1 := Aside0.mk hl1
   have HR2 := Aside0.mk hr2
   have HL2 := Aside0.mk hl2
   have hg : l0[i.toNat]? = some (rd_T95 l0 i) := by
    have : i.toNat < l0.length := by omega
    simp [rd_T95, List.getD, List.getElem?_eq_getElem this]
   have HC3 := Aside0.mk c3
   have HG := Aside0.mk hg
   have HNO := Aside0.mk (grp_no (l := l0) p1 c3)
   have p1' := eq_true p1
   have c3' := eq_true c3
   obtain ⟨k1, hk1⟩ := (areSet_ev (rd_T95 l0 i).f0 hr1.2.1).rounds
   obtain ⟨k2, hk2⟩ := (rises_ev (rd_T95 l0 i).f1 hr2.2.1).rounds
   have K1 := Aside0.mk hk1
   have K2 := Aside0.mk hk2
   clear p1 c3 hg hk1 hk2 hr1 hl1 hr2 hl2
   go_upto_region 4 with (fail)
   have HB4 := Aside0.mk (below_alloc HB.out (.cells #[.slice A1 (rd_T95 l0 i).f0.length c1, .slice A2 (rd_T95 l0 i).f1.length c2] 95))
   have BK4 := Aside0.mk (blk_alloc BK.out (.cells #[.slice A1 (rd_T95 l0 i).f0.length c1, .slice A2 (rd_T95 l0 i).f1.length c2] 95))
   have BX4 := Aside0.mk (heap_alloc_new wr (.cells #[.slice A1 (rd_T95 l0 i).f0.length c1, .slice A2 (rd_T95 l0 i).f1.length c2] 95))
   generalize wr.alloc (.cells #[.slice A1 (rd_T95 l0 i).f0.length c1, .slice A2 (rd_T95 l0 i).f1.length c2] 95) = w4 at HB4 BK4 BX4 ⊢
   generalize wr.heap.size = gx at BX4 ⊢
   clear hx0 hx1 HB BK
   have hz : w4.cell? ⟨gb, 0, none⟩ = some (.slice (some ad1) l0.length c0) := (blk_cell BK4.out 0).trans rfl
   have hy0 : w4.cell? ⟨gx, 0, none⟩ = some (.slice A1 (rd_T95 l0 i).f0.length c1) := (blk_cell BX4.out 0).trans rfl
   have hy1 : w4.cell? ⟨gx, 1, none⟩ = some (.slice A2 (rd_T95 l0 i).f1.length c2) := (blk_cell BX4.out 1).trans rfl
   cases b1 : areSetP (rd_T95 l0 i).f0 with
   | false =>
    rw [b1] at K1
    have HF := Aside0.mk (HNO.out (by unfold grpAt; rw [b1]; rfl))
    clear b1
    go_wp2_with (go_at_call 193; (with_reducible refine (impl_areSet.calls _ _ _ _ false _ ?hC ?hc K1.out).mono ?_); (case hC => exact Kd.C_below HR1.out HB4.out); (case hc => exact HL1.out); rintro e w5 ⟨rfl, hb⟩; have HB5 := Aside0.mk (below_step HB4.out hb); clear hb)
    go_ret
    rw [HF.out]
    exact ⟨rfl, HB5.out⟩
   | true =>
    rw [b1] at K1
    have B1 := Aside0.mk b1
    clear b1
    cases b2 : risB (rd_T95 l0 i).f1 with
    | false =>
     rw [b2] at K2
     have HF := Aside0.mk (HNO.out (by unfold grpAt; rw [b2, B1.out]; rfl))
     clear b2
     go_wp2_with (first
      | (go_at_call 193; (with_reducible refine (impl_areSet.calls _ _ _ _ true _ ?hC ?hc K1.out).mono ?_); (case hC => exact Kd.C_below HR1.out HB4.out); (case hc => exact HL1.out); rintro e w5 ⟨rfl, hb⟩; have HB5 := Aside0.mk (below_step HB4.out hb); replace BK4 := Aside0.mk (blk_below BK4.out hb); replace BX4 := Aside0.mk (blk_below BX4.out hb); clear hb hz hy0 hy1; have hz : w5.cell? ⟨gb, 0, none⟩ = some (.slice (some ad1) l0.length c0) := (blk_cell BK4.out 0).trans rfl; have hy0 : w5.cell? ⟨gx, 0, none⟩ = some (.slice A1 (rd_T95 l0 i).f0.length c1) := (blk_cell BX4.out 0).trans rfl; have hy1 : w5.cell? ⟨gx, 1, none⟩ = some (.slice A2 (rd_T95 l0 i).f1.length c2) := (blk_cell BX4.out 1).trans rfl)
      | (go_at_call 194; (with_reducible refine (impl_rises.calls _ _ _ _ false _ ?hC ?hc K2.out).mono ?_); (case hC => exact Kd.C_below HR2.out HB5.out); (case hc => exact HL2.out); rintro e w6 ⟨rfl, ⟨nd, rfl⟩⟩))
     go_ret
     rw [HF.out]
     exact ⟨rfl, by repeat (first | exact HB5.out | apply pw_below_drewN)⟩
    | true =>
     rw [b2] at K2
     have B2 := Aside0.mk b2
     clear b2
     cases b3 : ((rd_T95 l0 i).f1.all (inB 0 ((l0.length : Int) - 1)) && decide (((rd_T95 l0 i).f1.length : Int) ≤ (l0.length : Int))) with
     | false =>
      have B3 := Aside0.mk b3
      have HF := Aside0.mk (HNO.out (by unfold grpAt; rw [b3, B1.out, B2.out]; rfl))
      clear b3
      go_wp2_with (first
      | (go_at_call 193; (with_reducible refine (impl_areSet.calls _ _ _ _ true _ ?hC ?hc K1.out).mono ?_); (case hC => exact Kd.C_below HR1.out HB4.out); (case hc => exact HL1.out); rintro e w5 ⟨rfl, hb⟩; have HB5 := Aside0.mk (below_step HB4.out hb); replace BK4 := Aside0.mk (blk_below BK4.out hb); replace BX4 := Aside0.mk (blk_below BX4.out hb); clear hb hz hy0 hy1; have hz : w5.cell? ⟨gb, 0, none⟩ = some (.slice (some ad1) l0.length c0) := (blk_cell BK4.out 0).trans rfl; have hy0 : w5.cell? ⟨gx, 0, none⟩ = some (.slice A1 (rd_T95 l0 i).f0.length c1) := (blk_cell BX4.out 0).trans rfl; have hy1 : w5.cell? ⟨gx, 1, none⟩ = some (.slice A2 (rd_T95 l0 i).f1.length c2) := (blk_cell BX4.out 1).trans rfl)
      | (go_at_call 194; (with_reducible refine (impl_rises.calls _ _ _ _ true _ ?hC ?hc K2.out).mono ?_); (case hC => exact Kd.C_below HR2.out HB5.out); (case hc => exact HL2.out); rintro e w6 ⟨rfl, ⟨nd, rfl⟩⟩)
      | (go_at_call 183; refine (areAll_gen 195 #[.pointer (some ⟨gb, 0, none⟩)] (inB 0 ((l0.length : Int) - 1)) (l0.length : Int) _ _ (rd_T95 l0 i).f1 _ ?hC ?hc ?eg ?hcl).mono ?_; (case hC => exact Kd.C_drewN (Kd.C_below HR2.out HB5.out) _); (case hc => exact HL2.out); (case eg => exact enters_of Try.func195 (by kernel_rfl) rfl); (case hcl => exact fun n W hW => grp1 _ _ _ _ HL.out n W ((blk_cell (blk_below (blk_drewN BK4.out _) hW) 0).trans rfl)); rintro e w7 ⟨rfl, hb⟩; have HB7 := Aside0.mk (below_step (pw_below_drewN HB5.out _) hb); have BK7 := Aside0.mk (blk_below (blk_drewN BK4.out _) hb); clear hb hz hy0 hy1; rw [B3.out]))
      go_ret
      rw [HF.out]
      exact ⟨rfl, HB7.out⟩
     | true =>
      have B3 := Aside0.mk b3
      have HT := Aside0.mk (show grpAt l0.length (rd_T95 l0 i) = true by unfold grpAt; rw [b3, B1.out, B2.out]; rfl)
      clear b3
      go_wp2_with (first
      | (go_at_call 193; (with_reducible refine (impl_areSet.calls _ _ _ _ true _ ?hC ?hc K1.out).mono ?_); (case hC => exact Kd.C_below HR1.out HB4.out); (case hc => exact HL1.out); rintro e w5 ⟨rfl, hb⟩; have HB5 := Aside0.mk (below_step HB4.out hb); replace BK4 := Aside0.mk (blk_below BK4.out hb); replace BX4 := Aside0.mk (blk_below BX4.out hb); clear hb hz hy0 hy1; have hz : w5.cell? ⟨gb, 0, none⟩ = some (.slice (some ad1) l0.length c0) := (blk_cell BK4.out 0).trans rfl; have hy0 : w5.cell? ⟨gx, 0, none⟩ = some (.slice A1 (rd_T95 l0 i).f0.length c1) := (blk_cell BX4.out 0).trans rfl; have hy1 : w5.cell? ⟨gx, 1, none⟩ = some (.slice A2 (rd_T95 l0 i).f1.length c2) := (blk_cell BX4.out 1).trans rfl)
      | (go_at_call 194; (with_reducible refine (impl_rises.calls _ _ _ _ true _ ?hC ?hc K2.out).mono ?_); (case hC => exact Kd.C_below HR2.out HB5.out); (case hc => exact HL2.out); rintro e w6 ⟨rfl, ⟨nd, rfl⟩⟩)
      | (go_at_call 183; refine (areAll_gen 195 #[.pointer (some ⟨gb, 0, none⟩)] (inB 0 ((l0.length : Int) - 1)) (l0.length : Int) _ _ (rd_T95 l0 i).f1 _ ?hC ?hc ?eg ?hcl).mono ?_; (case hC => exact Kd.C_drewN (Kd.C_below HR2.out HB5.out) _); (case hc => exact HL2.out); (case eg => exact enters_of Try.func195 (by kernel_rfl) rfl); (case hcl => exact fun n W hW => grp1 _ _ _ _ HL.out n W ((blk_cell (blk_below (blk_drewN BK4.out _) hW) 0).trans rfl)); rintro e w7 ⟨rfl, hb⟩; have HB7 := Aside0.mk (below_step (pw_below_drewN HB5.out _) hb); have BK7 := Aside0.mk (blk_below (blk_drewN BK4.out _) hb); clear hb hz hy0 hy1; rw [B3.out]))
      go_roundg (l0.length - (i.toNat + 1))
      case measure => have := HI.out; have := HC3.out; omega
      case rel =>
       have h1 := HC3.out
       have h2 := HL.out
       have h3 := HI.out
       have h4 : wrap64 (i + 1) = i + 1 := by unfold wrap64; omega
       refine ⟨wrap64 (i + 1), rfl, ⟨by omega, by omega, by omega⟩, ⟨fun j y hj hy => ?_⟩, BK7, HB7⟩
       by_cases e : j = i.toNat
       ·subst e
        have := HG.out.symm.trans hy
        injection this with this
        rw [← this]; exact HT.out
       ·exact HN.out j y (by omega) hy
  ·have c3b0 : decide (i < (l0.length : Int)) = false := decide_eq_false c3
   have HF := Aside0.mk (grp_yes (l := l0) (fun j y hj hy => HN.out j y (by have := HI.out; omega) hy))
   have hz : wr.cell? ⟨gb, 0, none⟩ = some (.slice A0 l0.length c0) := (blk_cell BK.out 0).trans rfl
   clear c3
   go_wp2
   go_ret
   rw [HF.out]
   exact ⟨rfl, HB.out⟩

end Go.Proofs.Ytbgfkpagkhofpaa.PFnGroups
