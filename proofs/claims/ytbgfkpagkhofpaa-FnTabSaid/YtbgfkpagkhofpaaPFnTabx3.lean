-- Written by a program of this session: a Go function told as a Lean function, and the proof.
import Derived.Test.YtbgfkpagkhofpaaPFnTabx0
import Derived.Test.YtbgfkpagkhofpaaPFnTabx2
namespace Go.Proofs.Ytbgfkpagkhofpaa.PFnTab
open Go.RowKit Go.Proofs.YtbgfkpagkhofpaaW.PrintWords Go.Proofs.YtbgfkpagkhofpaaW.PrintLast Go.Proofs.YtbgfkpagkhofpaaW.PrintMore
attribute [local go_sem] max2_int min2_int max_two min_two max_three min_three max_four min_four   -- for this text's walks alone
set_option linter.unusedVariables false
set_option linter.unusedSimpArgs false

/-! ### spec_TabOk: function 45 -/

theorem S74.ext' {a b : S74} (h0 : a.f0 = b.f0) (h1 : a.f1 = b.f1) (h2 : a.f2 = b.f2) : a = b := by cases a; cases b; simp_all
def sOk (x : S74) : Prop := (0 ≤ x.f0 ∧ x.f0 ≤ 99) ∧ (1 ≤ x.f1 ∧ x.f1 ≤ 1000) ∧ 1 ≤ x.f2 ∧ x.f2 ≤ 1000000
instance (x : S74) : Decidable (sOk x) := by unfold sOk; exact inferInstance
def sLt (a b : S74) : Prop := a.f0 < b.f0 ∨ a.f0 = b.f0 ∧ a.f1 < b.f1
instance (a b : S74) : Decidable (sLt a b) := by unfold sLt; exact inferInstance
theorem sLt.trans {a b c : S74} (h : sLt a b) (k : sLt b c) : sLt a c := by unfold sLt at *; omega
/-- Ahead of and other than. -/
def sAh (a b : S74) : Prop := sLt a b ∧ a.f2 ≠ b.f2
instance (a b : S74) : Decidable (sAh a b) := by unfold sAh; exact inferInstance
def tabQ (l : List S74) : Prop := (∀ x ∈ l, sOk x) ∧ l.Pairwise sAh
instance (l : List S74) : Decidable (tabQ l) := by unfold tabQ; exact inferInstance
def tabP (l : List S74) : Prop := tabQ l ∧ l.length ≤ 20
instance (l : List S74) : Decidable (tabP l) := by unfold tabP; exact inferInstance
def tabOk (l : List S74) : Bool := decide (tabP l)
theorem tabQ.sub {l m : List S74} (h : tabQ l) (s : m.Sublist l) : tabQ m := ⟨fun x hx => h.1 x (s.subset hx), h.2.sublist s⟩
theorem tabP.sub {l m : List S74} (h : tabP l) (s : m.Sublist l) : tabP m := ⟨h.1.sub s, Nat.le_trans s.length_le h.2⟩
/-- One more behind right ones: what is asked of it. -/
theorem tabQ_snoc {p : List S74} {x : S74} : tabQ (p ++ [x]) ↔ tabQ p ∧ sOk x ∧ (∀ y, p.getLast? = some y → sLt y x) ∧ ∀ y ∈ p, y.f2 ≠ x.f2 := by
 constructor
 ·rintro ⟨h, k⟩
  rw [List.pairwise_append] at k
  obtain ⟨k1, _, k2⟩ := k
  exact ⟨⟨fun y hy => h y (by simp [hy]), k1⟩, h x (by simp), fun y hy => (k2 y (List.mem_of_getLast? hy) x (by simp)).1, fun y hy => (k2 y hy x (by simp)).2⟩
 ·rintro ⟨⟨h, k⟩, hx, hl, hn⟩
  refine ⟨fun y hy => ?_, ?_⟩
  ·simp at hy; rcases hy with hy | rfl
   ·exact h y hy
   ·exact hx
  ·rw [List.pairwise_append]
   refine ⟨k, List.pairwise_singleton _ _, fun y hy z hz => ?_⟩
   simp at hz; subst hz
   refine ⟨?_, hn y hy⟩
   rcases List.eq_nil_or_concat p with rfl | ⟨q, t, rfl⟩
   ·simp at hy
   ·have ht := hl t (by simp)
    simp at hy
    rcases hy with hy | rfl
    ·simp only [List.concat_eq_append] at k
     rw [List.pairwise_append] at k
     exact (k.2.2 y hy t (by simp)).1.trans ht
    ·exact ht
/-- The last one of someone. -/
def nowP (l : List S74) (who : Int) : Option S74 := (l.filter fun x => x.f0 == who).getLast?
def lastP (l : List S74) (who : Int) : Int := match nowP l who with
 | some x => x.f1
 | none => 0
def slotNow (l : List S74) (who : Int) : S74 × Bool := if tabOk l then (match nowP l who with
 | some x => (x, true)
 | none => (z74, false)) else (z74, false)
theorem nowP_mem {l : List S74} {who : Int} {x : S74} (h : nowP l who = some x) : x ∈ l ∧ x.f0 = who := by
 have := List.mem_of_getLast? h
 simp at this
 exact this
theorem nowP_none {l : List S74} {who : Int} (h : nowP l who = none) : ∀ x ∈ l, x.f0 ≠ who := by
 unfold nowP at h
 rw [List.getLast?_eq_none_iff, List.filter_eq_nil_iff] at h
 intro x hx
 have := h x hx
 simpa using this
theorem pair_last {l : List S74} {y : S74} (h : l.Pairwise sAh) (hy : l.getLast? = some y) : ∀ x ∈ l, x = y ∨ sAh x y := by
 rcases List.eq_nil_or_concat l with rfl | ⟨q, t, rfl⟩
 ·simp at hy
 ·simp at hy; subst hy
  intro x hx
  simp at hx
  rcases hx with hx | rfl
  ·simp only [List.concat_eq_append] at h
   rw [List.pairwise_append] at h
   exact .inr (h.2.2 x hx t (by simp))
  ·exact .inl rfl
theorem le_last {l : List S74} {who : Int} (h : tabQ l) {x : S74} (hx : x ∈ l) (hw : x.f0 = who) : x.f1 ≤ lastP l who := by
 unfold lastP
 cases e : nowP l who with
 | none => exact absurd hw (nowP_none e x hx)
 | some y =>
  have hf := h.2.sublist (List.filter_sublist (p := fun x : S74 => x.f0 == who))
  rcases pair_last hf e x (by simp [hx, hw]) with rfl | k
  ·exact Int.le_refl _
  ·have := nowP_mem e
   have := k.1
   unfold sLt at this
   simp only
   omega
/-- One more, behind all those that are not of a greater one. -/
def insP (l : List S74) (n : S74) : List S74 := l.takeWhile (fun x => decide (x.f0 ≤ n.f0)) ++ n :: l.dropWhile (fun x => decide (x.f0 ≤ n.f0))
theorem drop_gt {l : List S74} {n : S74} (h : l.Pairwise sAh) : ∀ x ∈ l.dropWhile (fun x => decide (x.f0 ≤ n.f0)), n.f0 < x.f0 := by
 induction l with
 | nil => intro x hx; simp at hx
 | cons a l ih =>
  intro x hx
  rw [List.dropWhile_cons] at hx
  split at hx
  ·exact ih (List.pairwise_cons.1 h).2 x hx
  ·rename_i hc
   simp at hc
   simp at hx
   rcases hx with rfl | hx
   ·exact hc
   ·have := ((List.pairwise_cons.1 h).1 x hx).1
    unfold sLt at this
    omega
theorem take_le {l : List S74} {n : S74} : ∀ x ∈ l.takeWhile (fun x => decide (x.f0 ≤ n.f0)), x.f0 ≤ n.f0 := by
 intro x hx
 have := List.all_takeWhile (p := fun x : S74 => decide (x.f0 ≤ n.f0)) (l := l)
 rw [List.all_eq_true] at this
 have := this x hx
 simpa using this
theorem insP_len (l : List S74) (n : S74) : (insP l n).length = l.length + 1 := by
 unfold insP
 have := congrArg List.length (List.takeWhile_append_dropWhile (p := fun x : S74 => decide (x.f0 ≤ n.f0)) (l := l))
 rw [List.length_append] at this
 rw [List.length_append, List.length_cons]
 omega
theorem insP_ok {l : List S74} {n : S74} (h : tabQ l) (hn : sOk n) (hv : lastP l n.f0 < n.f1) (hk : ∀ x ∈ l, x.f2 ≠ n.f2) : tabQ (insP l n) := by
 have e := List.takeWhile_append_dropWhile (p := fun x : S74 => decide (x.f0 ≤ n.f0)) (l := l)
 have h1 := take_le (l := l) (n := n)
 have h2 := drop_gt (n := n) h.2
 unfold insP
 generalize l.takeWhile (fun x => decide (x.f0 ≤ n.f0)) = a at *
 generalize l.dropWhile (fun x => decide (x.f0 ≤ n.f0)) = b at *
 subst e
 obtain ⟨ho, hp⟩ := h
 have hp' := List.pairwise_append.1 hp
 refine ⟨fun x hx => ?_, ?_⟩
 ·simp at hx
  rcases hx with hx | rfl | hx
  ·exact ho x (by simp [hx])
  ·exact hn
  ·exact ho x (by simp [hx])
 ·rw [List.pairwise_append, List.pairwise_cons]
  refine ⟨hp'.1, ⟨fun x hx => ⟨.inl (h2 x hx), fun e => hk x (by simp [hx]) e.symm⟩, hp'.2.1⟩, fun x hx y hy => ?_⟩
  simp at hy
  rcases hy with rfl | hy
  ·refine ⟨?_, hk x (by simp [hx])⟩
   have := h1 x hx
   by_cases c : x.f0 = y.f0
   ·have := le_last (l := a ++ b) ⟨ho, hp⟩ (x := x) (by simp [hx]) c
    exact .inr ⟨c, by omega⟩
   ·exact .inl (by omega)
  ·exact hp'.2.2 x hx y hy
theorem insP_now {l : List S74} {n : S74} (h : tabQ l) : nowP (insP l n) n.f0 = some n := by
 have h2 := drop_gt (n := n) h.2
 unfold nowP insP
 have e : (l.dropWhile fun x => decide (x.f0 ≤ n.f0)).filter (fun x => x.f0 == n.f0) = [] := by
  rw [List.filter_eq_nil_iff]
  intro x hx
  have := h2 x hx
  simp; omega
 rw [List.filter_append, List.filter_cons, e]
 simp
theorem insP_mem {l : List S74} {n x : S74} (h : x ∈ l) : x ∈ insP l n := by
 have e := List.takeWhile_append_dropWhile (p := fun x : S74 => decide (x.f0 ≤ n.f0)) (l := l)
 rw [← e, List.mem_append] at h
 unfold insP
 rw [List.mem_append, List.mem_cons]
 rcases h with h | h
 ·exact .inl h
 ·exact .inr (.inr h)
/-- The key of someone's version. -/
def findP (l : List S74) (who ver : Int) : Int × Bool := match l.find? (fun x => x.f0 == who && x.f1 == ver) with
 | some x => (x.f2, true)
 | none => (0, false)
theorem find_mem {l : List S74} (h : tabQ l) {x : S74} (hx : x ∈ l) : findP l x.f0 x.f1 = (x.f2, true) := by
 unfold findP
 cases e : l.find? (fun y => y.f0 == x.f0 && y.f1 == x.f1) with
 | none =>
  have := List.find?_eq_none.1 e x hx
  simp at this
 | some y =>
  have hy := List.mem_of_find?_eq_some e
  have hc := List.find?_some e
  simp at hc
  have : y = x := by
   have hp := h.2
   obtain ⟨i, hi, rfl⟩ := List.getElem_of_mem hy
   obtain ⟨j, hj, rfl⟩ := List.getElem_of_mem hx
   rw [List.pairwise_iff_getElem] at hp
   rcases Nat.lt_trichotomy i j with c | c | c
   ·have := (hp i j hi hj c).1; unfold sLt at this; omega
   ·subst c; rfl
   ·have := (hp j i hj hi c).1; unfold sLt at this; omega
  subst this
  rfl
/-- Those with fewer than so many of the same one behind them. -/
def keepL (n : Int) : List S74 → List S74
 | [] => []
 | x :: l => if ((l.filter fun y => y.f0 == x.f0).length : Int) < n then x :: keepL n l else keepL n l
theorem keepL_sub (n : Int) : ∀ l : List S74, (keepL n l).Sublist l
 | [] => List.Sublist.slnil
 | x :: l => by
  unfold keepL
  split
  ·exact (keepL_sub n l).cons_cons x
  ·exact (keepL_sub n l).cons x
theorem keepL_all {n : Int} : ∀ l : List S74, (l.length : Int) ≤ n → keepL n l = l
 | [], _ => rfl
 | x :: l, h => by
  unfold keepL
  have h1 : ((l.filter fun y => y.f0 == x.f0).length : Int) ≤ l.length := by exact_mod_cast List.length_filter_le _ _
  simp at h
  rw [if_pos (by omega), keepL_all l (by omega)]
theorem keepL_zero : ∀ l : List S74, keepL 0 l = []
 | [] => rfl
 | x :: l => by
  unfold keepL
  rw [if_neg (by omega), keepL_zero l]
theorem keepL_now (who : Int) : ∀ l : List S74, nowP (keepL 1 l) who = nowP l who
 | [] => rfl
 | x :: l => by
  have ih := keepL_now who l
  unfold keepL
  unfold nowP at ih ⊢
  split
  ·rename_i hc
   rw [List.filter_cons, List.filter_cons]
   split
   ·rw [List.getLast?_cons, List.getLast?_cons, ih]
   ·exact ih
  ·rename_i hc
   rw [List.filter_cons]
   split
   ·rename_i hx
    simp at hx
    rw [ih, List.getLast?_cons]
    cases e : (l.filter fun x => x.f0 == who).getLast? with
    | some y => rfl
    | none =>
     exfalso
     rw [List.getLast?_eq_none_iff] at e
     rw [hx, e] at hc
     simp at hc
   ·exact ih
def keepP (l : List S74) (n : Int) : List S74 := if tabOk l then keepL n l else []
/-- One more, where it is right. -/
def addOk (l : List S74) (who key : Int) : Prop := tabP l ∧ (0 ≤ who ∧ who ≤ 99) ∧ (1 ≤ key ∧ key ≤ 1000000) ∧ l.length < 20 ∧ lastP l who + 1 ≤ 1000 ∧ ∀ x ∈ l, x.f2 ≠ key
instance (l : List S74) (who key : Int) : Decidable (addOk l who key) := by unfold addOk; exact inferInstance
def addP (l : List S74) (who key : Int) : List S74 × Bool := if addOk l who key then (insP l ⟨who, lastP l who + 1, key⟩, true) else (if tabOk l then l else [], false)
theorem lastP_lo {l : List S74} {who : Int} (h : tabQ l) : 0 ≤ lastP l who := by
 unfold lastP
 cases e : nowP l who with
 | none => exact Int.le_refl _
 | some x => have := h.1 x (nowP_mem e).1; unfold sOk at this; simp only; omega
theorem lastP_hi {l : List S74} {who : Int} (h : tabQ l) : lastP l who ≤ 1000 := by
 unfold lastP
 cases e : nowP l who with
 | none => simp
 | some x => have := h.1 x (nowP_mem e).1; unfold sOk at this; simp only; omega
theorem add_ok {l : List S74} {who key : Int} (h : addOk l who key) : tabP (insP l ⟨who, lastP l who + 1, key⟩) := by
 obtain ⟨h1, h2, h3, h4, h5, h6⟩ := h
 have := lastP_lo (who := who) h1.1
 refine ⟨insP_ok h1.1 ⟨by simpa using h2, by simp only; omega, by simpa using h3⟩ (by simp only; omega) h6, ?_⟩
 rw [insP_len]
 omega

theorem tab_take {l : List S74} {i : Int} (h0 : 0 ≤ i) (h1 : i < (l.length : Int)) : l.take (i.toNat + 1) = l.take i.toNat ++ [rd_T74 l i] := by
 have h : i.toNat < l.length := by omega
 rw [List.take_add_one, List.getElem?_eq_getElem h]
 unfold rd_T74
 rw [List.getD_eq_getElem?_getD, List.getElem?_eq_getElem h]
 rfl
theorem tab_last {l : List S74} {i : Int} (h0 : 0 < i) (h1 : i < (l.length : Int)) : (l.take i.toNat).getLast? = some (rd_T74 l (i - 1)) := by
 have e : i.toNat = (i - 1).toNat + 1 := by omega
 rw [e, tab_take (i := i - 1) (by omega) (by omega)]
 simp
theorem tab_first {l : List S74} {i : Int} (h0 : i = 0) : (l.take i.toNat).getLast? = none := by subst h0; rfl
theorem tab_ok_no {l : List S74} {i : Int} (h : ¬ tabQ (l.take (i.toNat + 1))) : tabOk l = false := by
 unfold tabOk
 rw [decide_eq_false_iff_not]
 exact fun k => h (k.1.sub (List.take_sublist _ _))
theorem tab_ok_long {l : List S74} (h : (l.length : Int) > 20) : tabOk l = false := by
 unfold tabOk
 rw [decide_eq_false_iff_not]
 exact fun k => by have := k.2; omega
theorem tab_ok_yes {l : List S74} {i : Int} (h : tabQ (l.take i.toNat)) (h1 : i = (l.length : Int)) : tabOk l = decide ((l.length : Int) ≤ 20) := by
 unfold tabOk tabP
 rw [h1, Int.toNat_natCast, List.take_length] at h
 simp only [h, true_and, decide_eq_decide]
 omega
theorem tab_key {l : List S74} {i : Int} (h0 : 0 ≤ i) (h1 : i ≤ (l.length : Int)) (k : Int) (hn : ∀ j : Int, 0 ≤ j → j < i → (rd_T74 l j).f2 ≠ k) : ∀ y ∈ l.take i.toNat, y.f2 ≠ k := by
 intro y hy
 obtain ⟨j, hj, rfl⟩ := List.getElem_of_mem hy
 rw [List.length_take] at hj
 have := hn j (by omega) (by omega)
 rw [List.getElem_take]
 unfold rd_T74 at this
 rw [List.getD_eq_getElem?_getD, Int.toNat_natCast, List.getElem?_eq_getElem (by omega)] at this
 exact this
theorem tab_get {l : List S74} {i : Int} {j : Int} (h0 : 0 ≤ j) (h1 : j < i) (h2 : i ≤ (l.length : Int)) : rd_T74 l j ∈ l.take i.toNat := by
 unfold rd_T74
 have : j.toNat < l.length := by omega
 rw [List.getD_eq_getElem?_getD, List.getElem?_eq_getElem this]
 rw [List.mem_iff_getElem]
 exact ⟨j.toNat, by rw [List.length_take]; omega, by rw [List.getElem_take]; rfl⟩
/-- What the next one has to be, as it is asked. -/
def sAt (l : List S74) (i : Int) : Bool := decide (0 < i) && (decide ((rd_T74 l (i - 1)).f0 > (rd_T74 l i).f0) || decide ((rd_T74 l (i - 1)).f0 = (rd_T74 l i).f0) && decide ((rd_T74 l (i - 1)).f1 ≥ (rd_T74 l i).f1))
theorem sAt_iff {l : List S74} {i : Int} (h0 : 0 ≤ i) (h1 : i < (l.length : Int)) : sAt l i = false ↔ ∀ y, (l.take i.toNat).getLast? = some y → sLt y (rd_T74 l i) := by
 unfold sAt
 by_cases c : 0 < i
 ·rw [tab_last c h1]
  simp only [Option.some.injEq, forall_eq', sLt, decide_eq_true c, Bool.true_and, Bool.or_eq_false_iff, Bool.and_eq_false_iff, decide_eq_false_iff_not]
  omega
 ·rw [tab_first (by omega), decide_eq_false c]
  simp
theorem l1In_dec (x a b : Int) : spec_l1In.f x a b = some (decide (a ≤ x ∧ x ≤ b)) := by
 unfold spec_l1In.f
 by_cases h : x ≥ a
 ·rw [if_pos h]; simp [h]
 ·rw [if_neg h]; simp [h]
/-- The next one is wrong by itself or by the one ahead of it. -/
def sBad (l : List S74) (i : Int) : Bool := !(decide (sOk (rd_T74 l i)) && !sAt l i)
theorem sBad_of {l : List S74} {i : Int} (h : ¬ sOk (rd_T74 l i)) : sBad l i = true := by unfold sBad; rw [decide_eq_false h]; rfl
theorem sBad_at {l : List S74} {i : Int} (h : sAt l i = true) : sBad l i = true := by unfold sBad; rw [h]; simp
theorem sBad_no {l : List S74} {i : Int} (h : sOk (rd_T74 l i)) (k : sAt l i = false) : sBad l i = false := by unfold sBad; rw [decide_eq_true h, k]; rfl
theorem sBad_iff {l : List S74} {i : Int} : sBad l i = false ↔ sOk (rd_T74 l i) ∧ sAt l i = false := by unfold sBad; simp
def spec_TabOk.f (l0 : List S74) : Option Bool := some (tabOk l0)
set_option maxHeartbeats 8000000 in
set_option maxRecDepth 100000 in
theorem spec_TabOk.calls (A0 : Option Addr) (c0 : Nat) (l0 : List (S74)) (r : Bool) (w : World) (hr0 : Kd.C k74 w A0 l0.length l0) (hc0 : l0.length ≤ c0) (h : spec_TabOk.f l0 = some r) :
  Calls Try.prog 45 #[.slice A0 l0.length c0] w fun e w' => e = .returned (.bool r) ∧ Below w.heap.size w w' := by
 obtain rfl := Option.some.inj h
 clear h
 have hlen : l0.length ≤ 9223372036854775807 := hr0.2.1
 have HR0 := Aside0.mk hr0
 have HC0 := Aside0.mk hc0
 have HL := Aside0.mk hlen
 clear hr0 hc0 hlen
 have HB := Aside0.mk (Below.refl w.heap.size w)
 by_cases c20 : (l0.length : Int) > 20
 ·have c20b : decide (20 < (l0.length : Int)) = true := decide_eq_true c20
  have HF := Aside0.mk (tab_ok_long c20)
  clear c20
  go_enter Try.func45, Try.ntmps45
  go_wp2
  go_ret
  rw [HF.out]
  exact ⟨rfl, HB.out⟩
 have c20b : decide (20 < (l0.length : Int)) = false := decide_eq_false c20
 have H20 := Aside0.mk c20
 clear c20
 go_enter Try.func45, Try.ntmps45
 go_wp2
 go_loopg [3] (l0.length) (fun kq v3 w' => ∃ (i : Int), v3 = .int .i64 i ∧ Aside0 (0 ≤ i ∧ i ≤ l0.length ∧ kq = l0.length - i.toNat) ∧ Aside0 (tabQ (l0.take i.toNat)) ∧ Aside0 (Below w.heap.size w w'))
 case atStart => exact ⟨0, rfl, ⟨by omega, by omega, by omega⟩, ⟨by simp [tabQ]⟩, HB⟩
 case round =>
  clear HB
  obtain ⟨i, rfl, HI, HN, HB⟩ := hrel
  by_cases c3 : i < (l0.length : Int)
  ·have c3b0 : decide (i < (l0.length : Int)) = true := decide_eq_true c3
   have p1 : 0 ≤ i := HI.out.1
   obtain ⟨ad1, e1, hx0, hx1, hx2⟩ := at_T74 HR0.out i p1 c3
   cases e1
   replace hx0 := (HB.out.cell (World.block_lt_of_cell? w _ hx0)).trans hx0
   replace hx1 := (HB.out.cell (World.block_lt_of_cell? w _ hx1)).trans hx1
   replace hx2 := (HB.out.cell (World.block_lt_of_cell? w _ hx2)).trans hx2
   have HC3 := Aside0.mk c3
   have p1' := eq_true p1
   have c3' := eq_true c3
   have HX := Aside0.mk (tabQ_snoc (p := l0.take i.toNat) (x := rd_T74 l0 i))
   rw [← tab_take p1 c3] at HX
   have HAT := Aside0.mk (sAt_iff p1 c3)
   clear p1 c3
   go_upto_region 7 with (fail)
   have HB6 := Aside0.mk (below_alloc HB.out (.cells #[.int .i64 (rd_T74 l0 i).f0, .int .i64 (rd_T74 l0 i).f1, .int .i64 (rd_T74 l0 i).f2] 74))
   have BK6 := Aside0.mk (heap_alloc_new wr (.cells #[.int .i64 (rd_T74 l0 i).f0, .int .i64 (rd_T74 l0 i).f1, .int .i64 (rd_T74 l0 i).f2] 74))
   clear HB hx0 hx1 hx2
   generalize wr.alloc (.cells #[.int .i64 (rd_T74 l0 i).f0, .int .i64 (rd_T74 l0 i).f1, .int .i64 (rd_T74 l0 i).f2] 74) = w6 at HB6 BK6 ⊢
   generalize wr.heap.size = gb at BK6 ⊢
   have hz0 : w6.cell? ⟨gb, 0, none⟩ = some (.int .i64 (rd_T74 l0 i).f0) := (blk_cell BK6.out 0).trans rfl
   have hz1 : w6.cell? ⟨gb, 1, none⟩ = some (.int .i64 (rd_T74 l0 i).f1) := (blk_cell BK6.out 1).trans rfl
   have hz2 : w6.cell? ⟨gb, 2, none⟩ = some (.int .i64 (rd_T74 l0 i).f2) := (blk_cell BK6.out 2).trans rfl
   have HB := HB6
   clear HB6
   go_cut [71] (fun v71 wc => v71 = .bool (sBad l0 i) ∧ Aside0 (wc.heap[gb]? = some (.cells #[.int .i64 (rd_T74 l0 i).f0, .int .i64 (rd_T74 l0 i).f1, .int .i64 (rd_T74 l0 i).f2] 74 (0, 0))) ∧ Aside0 (Below w.heap.size w wc))
   case first =>
    by_cases s0 : ¬ (0 ≤ (rd_T74 l0 i).f0 ∧ (rd_T74 l0 i).f0 ≤ 99)
    ·have K0 := Aside0.mk ((l1In_dec (rd_T74 l0 i).f0 0 99).trans (congrArg some (decide_eq_false s0)))
     have HF := Aside0.mk (sBad_of (l := l0) (i := i) (fun h => s0 h.1))
     clear s0
     go_quiet ((go_at_call 94; (with_reducible first | refine (spec_l1In.calls _ _ _ false _ K0.out).mono ?_); rintro e w7 ⟨rfl, ⟨nd, rfl⟩⟩; first | exact ⟨rfl, _, World.drewN_drewN _ _ _⟩ | exact ⟨rfl, _, rfl⟩))
     go_wp2
     go_meet
     case rel => exact ⟨by rw [HF.out], ⟨by (with_reducible repeat (first | refine blk_drewN ?_ _ | refine blk_drew ?_)); exact BK6.out⟩, ⟨by repeat (first | exact HB.out | apply below_alloc | apply pw_below_drewN)⟩⟩
    replace s0 := Decidable.not_not.1 s0
    have K0 := Aside0.mk ((l1In_dec (rd_T74 l0 i).f0 0 99).trans (congrArg some (decide_eq_true s0)))
    have S0 := Aside0.mk s0
    clear s0
    by_cases s1 : ¬ (1 ≤ (rd_T74 l0 i).f1 ∧ (rd_T74 l0 i).f1 ≤ 1000)
    ·have K1 := Aside0.mk ((l1In_dec (rd_T74 l0 i).f1 1 1000).trans (congrArg some (decide_eq_false s1)))
     have HF := Aside0.mk (sBad_of (l := l0) (i := i) (fun h => s1 h.2.1))
     clear s1
     go_quiet ((go_at_call 94; (with_reducible first | refine (spec_l1In.calls _ 0 99 true _ K0.out).mono ?_ | refine (spec_l1In.calls _ _ _ false _ K1.out).mono ?_); rintro e w7 ⟨rfl, ⟨nd, rfl⟩⟩; first | exact ⟨rfl, _, World.drewN_drewN _ _ _⟩ | exact ⟨rfl, _, rfl⟩))
     go_wp2
     go_meet
     case rel => exact ⟨by rw [HF.out], ⟨by (with_reducible repeat (first | refine blk_drewN ?_ _ | refine blk_drew ?_)); exact BK6.out⟩, ⟨by repeat (first | exact HB.out | apply below_alloc | apply pw_below_drewN)⟩⟩
    replace s1 := Decidable.not_not.1 s1
    have K1 := Aside0.mk ((l1In_dec (rd_T74 l0 i).f1 1 1000).trans (congrArg some (decide_eq_true s1)))
    have S1 := Aside0.mk s1
    clear s1
    by_cases s2 : ¬ (1 ≤ (rd_T74 l0 i).f2 ∧ (rd_T74 l0 i).f2 ≤ 1000000)
    ·have K2 := Aside0.mk ((l1In_dec (rd_T74 l0 i).f2 1 1000000).trans (congrArg some (decide_eq_false s2)))
     have HF := Aside0.mk (sBad_of (l := l0) (i := i) (fun h => s2 h.2.2))
     clear s2
     go_quiet ((go_at_call 94; (with_reducible first | refine (spec_l1In.calls _ 0 99 true _ K0.out).mono ?_ | refine (spec_l1In.calls _ 1 1000 true _ K1.out).mono ?_ | refine (spec_l1In.calls _ _ _ false _ K2.out).mono ?_); rintro e w7 ⟨rfl, ⟨nd, rfl⟩⟩; first | exact ⟨rfl, _, World.drewN_drewN _ _ _⟩ | exact ⟨rfl, _, rfl⟩))
     go_wp2
     go_meet
     case rel => exact ⟨by rw [HF.out], ⟨by (with_reducible repeat (first | refine blk_drewN ?_ _ | refine blk_drew ?_)); exact BK6.out⟩, ⟨by repeat (first | exact HB.out | apply below_alloc | apply pw_below_drewN)⟩⟩
    replace s2 := Decidable.not_not.1 s2
    have K2 := Aside0.mk ((l1In_dec (rd_T74 l0 i).f2 1 1000000).trans (congrArg some (decide_eq_true s2)))
    have S2 := Aside0.mk s2
    clear s2
    by_cases ci : 0 < i
    ·have cib : decide (0 < i) = true := decide_eq_true ci
     obtain ⟨j, hj⟩ : ∃ j : Int, i - 1 = j := ⟨_, rfl⟩
     have hw1 : IntKind.i64.wrap (i - 1) = j := by have := HI.out; have := HL.out; rw [IntKind.wrap_i64]; omega
     have p2 : 0 ≤ j := by omega
     have q2 : j < (l0.length : Int) := by have := HC3.out; omega
     obtain ⟨ad2, e2, hy0, hy1, hy2⟩ := at_T74 HR0.out j p2 q2
     obtain rfl : ad1 = ad2 := by injection e2
     replace hy0 := (HB.out.cell (World.block_lt_of_cell? w _ hy0)).trans hy0
     replace hy1 := (HB.out.cell (World.block_lt_of_cell? w _ hy1)).trans hy1
     replace hy2 := (HB.out.cell (World.block_lt_of_cell? w _ hy2)).trans hy2
     replace p2 := eq_true p2
     replace q2 := eq_true q2
     have HJ := Aside0.mk hj
     clear hj
     by_cases g0 : (rd_T74 l0 j).f0 > (rd_T74 l0 i).f0
     ·have g0b : decide ((rd_T74 l0 i).f0 < (rd_T74 l0 j).f0) = true := decide_eq_true g0
      have SA := Aside0.mk (show sAt l0 i = true by unfold sAt; rw [HJ.out, decide_eq_true ci, decide_eq_true g0]; rfl)
      clear g0 ci
      have HF := Aside0.mk (sBad_at SA.out)
      clear SA
      go_quiet ((go_at_call 94; (with_reducible first | refine (spec_l1In.calls _ 0 99 true _ K0.out).mono ?_ | refine (spec_l1In.calls _ 1 1000 true _ K1.out).mono ?_ | refine (spec_l1In.calls _ 1 1000000 true _ K2.out).mono ?_); rintro e w7 ⟨rfl, ⟨nd, rfl⟩⟩; first | exact ⟨rfl, _, World.drewN_drewN _ _ _⟩ | exact ⟨rfl, _, rfl⟩))
      go_wp2
      go_meet
      case rel => exact ⟨by rw [HF.out], ⟨by (with_reducible repeat (first | refine blk_drewN ?_ _ | refine blk_drew ?_)); exact BK6.out⟩, ⟨by repeat (first | exact HB.out | apply below_alloc | apply pw_below_drewN)⟩⟩
     ·have g0b : decide ((rd_T74 l0 i).f0 < (rd_T74 l0 j).f0) = false := decide_eq_false g0
      by_cases g1 : (rd_T74 l0 j).f0 = (rd_T74 l0 i).f0
      ·have g1b : ((rd_T74 l0 j).f0 == (rd_T74 l0 i).f0) = true := beq_iff_eq.mpr g1
       by_cases g2 : (rd_T74 l0 j).f1 ≥ (rd_T74 l0 i).f1
       ·have g2b : decide ((rd_T74 l0 i).f1 ≤ (rd_T74 l0 j).f1) = true := decide_eq_true g2
        have SA := Aside0.mk (show sAt l0 i = true by unfold sAt; rw [HJ.out, decide_eq_true ci, decide_eq_false g0, decide_eq_true g1, decide_eq_true g2]; rfl)
        clear g0 g1 g2 ci
        have HF := Aside0.mk (sBad_at SA.out)
        clear SA
        go_quiet ((go_at_call 94; (with_reducible first | refine (spec_l1In.calls _ 0 99 true _ K0.out).mono ?_ | refine (spec_l1In.calls _ 1 1000 true _ K1.out).mono ?_ | refine (spec_l1In.calls _ 1 1000000 true _ K2.out).mono ?_); rintro e w7 ⟨rfl, ⟨nd, rfl⟩⟩; first | exact ⟨rfl, _, World.drewN_drewN _ _ _⟩ | exact ⟨rfl, _, rfl⟩))
        go_wp2
        go_meet
        case rel => exact ⟨by rw [HF.out], ⟨by (with_reducible repeat (first | refine blk_drewN ?_ _ | refine blk_drew ?_)); exact BK6.out⟩, ⟨by repeat (first | exact HB.out | apply below_alloc | apply pw_below_drewN)⟩⟩
       ·have g2b : decide ((rd_T74 l0 i).f1 ≤ (rd_T74 l0 j).f1) = false := decide_eq_false g2
        have SA := Aside0.mk (show sAt l0 i = false by unfold sAt; rw [HJ.out, decide_eq_true ci, decide_eq_false g0, decide_eq_true g1, decide_eq_false g2]; rfl)
        clear g0 g1 g2 ci
        have HF := Aside0.mk (sBad_no ⟨S0.out, S1.out, S2.out⟩ SA.out)
        clear SA
        go_quiet ((go_at_call 94; (with_reducible first | refine (spec_l1In.calls _ 0 99 true _ K0.out).mono ?_ | refine (spec_l1In.calls _ 1 1000 true _ K1.out).mono ?_ | refine (spec_l1In.calls _ 1 1000000 true _ K2.out).mono ?_); rintro e w7 ⟨rfl, ⟨nd, rfl⟩⟩; first | exact ⟨rfl, _, World.drewN_drewN _ _ _⟩ | exact ⟨rfl, _, rfl⟩))
        go_wp2
        go_meet
        case rel => exact ⟨by rw [HF.out], ⟨by (with_reducible repeat (first | refine blk_drewN ?_ _ | refine blk_drew ?_)); exact BK6.out⟩, ⟨by repeat (first | exact HB.out | apply below_alloc | apply pw_below_drewN)⟩⟩
      ·have g1b : ((rd_T74 l0 j).f0 == (rd_T74 l0 i).f0) = false := beq_eq_false_iff_ne.mpr g1
       have SA := Aside0.mk (show sAt l0 i = false by unfold sAt; rw [HJ.out, decide_eq_true ci, decide_eq_false g0, decide_eq_false g1]; rfl)
       clear g0 g1 ci
       have HF := Aside0.mk (sBad_no ⟨S0.out, S1.out, S2.out⟩ SA.out)
       clear SA
       go_quiet ((go_at_call 94; (with_reducible first | refine (spec_l1In.calls _ 0 99 true _ K0.out).mono ?_ | refine (spec_l1In.calls _ 1 1000 true _ K1.out).mono ?_ | refine (spec_l1In.calls _ 1 1000000 true _ K2.out).mono ?_); rintro e w7 ⟨rfl, ⟨nd, rfl⟩⟩; first | exact ⟨rfl, _, World.drewN_drewN _ _ _⟩ | exact ⟨rfl, _, rfl⟩))
       go_wp2
       go_meet
       case rel => exact ⟨by rw [HF.out], ⟨by (with_reducible repeat (first | refine blk_drewN ?_ _ | refine blk_drew ?_)); exact BK6.out⟩, ⟨by repeat (first | exact HB.out | apply below_alloc | apply pw_below_drewN)⟩⟩
    ·have cib : decide (0 < i) = false := decide_eq_false ci
     have SA := Aside0.mk (show sAt l0 i = false by unfold sAt; rw [decide_eq_false ci]; rfl)
     clear ci
     have HF := Aside0.mk (sBad_no ⟨S0.out, S1.out, S2.out⟩ SA.out)
     clear SA
     go_quiet ((go_at_call 94; (with_reducible first | refine (spec_l1In.calls _ 0 99 true _ K0.out).mono ?_ | refine (spec_l1In.calls _ 1 1000 true _ K1.out).mono ?_ | refine (spec_l1In.calls _ 1 1000000 true _ K2.out).mono ?_); rintro e w7 ⟨rfl, ⟨nd, rfl⟩⟩; first | exact ⟨rfl, _, World.drewN_drewN _ _ _⟩ | exact ⟨rfl, _, rfl⟩))
     go_wp2
     go_meet
     case rel => exact ⟨by rw [HF.out], ⟨by (with_reducible repeat (first | refine blk_drewN ?_ _ | refine blk_drew ?_)); exact BK6.out⟩, ⟨by repeat (first | exact HB.out | apply below_alloc | apply pw_below_drewN)⟩⟩
   case rest =>
    clear HB BK6 hz0 hz1 hz2
    obtain ⟨hv, BK, HB⟩ := hcut
    by_cases hb : sBad l0 i = true
    ·rw [hb] at hv
     subst hv
     have HBB := Aside0.mk hb
     have HF := Aside0.mk (tab_ok_no (i := i) (fun k => by
      obtain ⟨_, k2, k3, k4⟩ := HX.out.1 k
      have := sBad_no k2 (HAT.out.2 k3)
      rw [HBB.out] at this
      simp at this))
     clear hb
     go_wp2
     go_ret
     rw [HF.out]
     exact ⟨rfl, HB.out⟩
    ·replace hb := Bool.eq_false_iff.mpr hb
     rw [hb] at hv
     subst hv
     have HOK := Aside0.mk (sBad_iff.1 hb)
     clear hb
     go_wp2
     go_loopg [5] (i.toNat) (fun kq v5 w' => ∃ (k : Int), v5 = .int .i64 k ∧ Aside0 (0 ≤ k ∧ k ≤ i ∧ kq = i.toNat - k.toNat) ∧ Aside0 (∀ j : Int, 0 ≤ j → j < k → (rd_T74 l0 j).f2 ≠ (rd_T74 l0 i).f2) ∧ Aside0 (w'.heap[gb]? = some (.cells #[.int .i64 (rd_T74 l0 i).f0, .int .i64 (rd_T74 l0 i).f1, .int .i64 (rd_T74 l0 i).f2] 74 (0, 0))) ∧ Aside0 (Below w.heap.size w w'))
     case atStart => exact ⟨0, rfl, ⟨by omega, by have := HI.out; omega, by omega⟩, ⟨fun j h0 h1 => by omega⟩, BK, HB⟩
     case round =>
      clear BK HB
      obtain ⟨k, rfl, HK, HN2, BK, HB⟩ := hrel
      by_cases c5 : k < i
      ·have c5b : decide (k < i) = true := decide_eq_true c5
       have p5 : 0 ≤ k := HK.out.1
       have q5 : k < (l0.length : Int) := by have := HC3.out; omega
       obtain ⟨ad2, e2, hy0, hy1, hy2⟩ := at_T74 HR0.out k p5 q5
       obtain rfl : ad1 = ad2 := by injection e2
       replace hy0 := (HB.out.cell (World.block_lt_of_cell? w _ hy0)).trans hy0
       replace hy1 := (HB.out.cell (World.block_lt_of_cell? w _ hy1)).trans hy1
       replace hy2 := (HB.out.cell (World.block_lt_of_cell? w _ hy2)).trans hy2
       have hz0 : wr.cell? ⟨gb, 0, none⟩ = some (.int .i64 (rd_T74 l0 i).f0) := (blk_cell BK.out 0).trans rfl
       have hz1 : wr.cell? ⟨gb, 1, none⟩ = some (.int .i64 (rd_T74 l0 i).f1) := (blk_cell BK.out 1).trans rfl
       have hz2 : wr.cell? ⟨gb, 2, none⟩ = some (.int .i64 (rd_T74 l0 i).f2) := (blk_cell BK.out 2).trans rfl
       have C5 := Aside0.mk c5
       replace p5 := eq_true p5
       replace q5 := eq_true q5
       clear c5
       by_cases c6 : (rd_T74 l0 k).f2 = (rd_T74 l0 i).f2
       ·have c6b : ((rd_T74 l0 k).f2 == (rd_T74 l0 i).f2) = true := beq_iff_eq.mpr c6
        have HF := Aside0.mk (tab_ok_no (i := i) (fun h => by
         obtain ⟨_, _, _, k4⟩ := HX.out.1 h
         exact k4 _ (tab_get HK.out.1 C5.out (by have := HC3.out; omega)) c6))
        clear c6
        go_wp2
        go_quiet (fail)
        go_wp2
        go_ret
        rw [HF.out]
        exact ⟨rfl, by repeat (first | exact HB.out | apply below_alloc | apply pw_below_drewN)⟩
       ·have c6b : ((rd_T74 l0 k).f2 == (rd_T74 l0 i).f2) = false := beq_eq_false_iff_ne.mpr c6
        have C6 := Aside0.mk c6
        clear c6
        go_wp2
        go_quiet (fail)
        go_wp2
        go_roundg (i.toNat - (k.toNat + 1))
        case measure => have := HK.out; have := C5.out; omega
        case rel =>
         have h1 := HK.out
         have h2 := C5.out
         have h3 := HC3.out
         have h4 := HL.out
         have h5 : wrap64 (k + 1) = k + 1 := by unfold wrap64; omega
         refine ⟨wrap64 (k + 1), rfl, ⟨by omega, by omega, by omega⟩, ⟨fun j g0 g1 => ?_⟩, ⟨by (with_reducible repeat (first | refine blk_drewN ?_ _ | refine blk_drew ?_)); exact BK.out⟩, ⟨by repeat (first | exact HB.out | apply below_alloc | apply pw_below_drewN)⟩⟩
         by_cases e : j = k
         ·rw [e]; exact C6.out
         ·exact HN2.out j g0 (by omega)
      ·have c5b : decide (k < i) = false := decide_eq_false c5
       have HQ := Aside0.mk (show tabQ (l0.take (i.toNat + 1)) from HX.out.2 ⟨HN.out, HOK.out.1, HAT.out.1 HOK.out.2, tab_key HI.out.1 HI.out.2.1 _ (fun j g0 g1 => HN2.out j g0 (by have := HK.out; omega))⟩)
       clear c5
       go_wp2
       go_roundg (l0.length - (i.toNat + 1))
       case measure => have := HI.out; have := HC3.out; omega
       case rel =>
        have h1 := HI.out
        have h3 := HC3.out
        have h4 := HL.out
        have h5 : wrap64 (i + 1) = i + 1 := by unfold wrap64; omega
        have h6 : (i + 1).toNat = i.toNat + 1 := by omega
        exact ⟨wrap64 (i + 1), rfl, ⟨by omega, by omega, by omega⟩, ⟨by rw [h5, h6]; exact HQ.out⟩, ⟨by repeat (first | exact HB.out | apply below_alloc | apply pw_below_drewN)⟩⟩
  ·have c3b0 : decide (i < (l0.length : Int)) = false := decide_eq_false c3
   have HF := Aside0.mk ((tab_ok_yes HN.out (by have := HI.out; omega)).trans (decide_eq_true (by have := H20.out; omega)))
   clear c3
   go_wp2
   go_ret
   rw [HF.out]
   exact ⟨rfl, HB.out⟩

/-! ### spec_l19Last: function 128 -/
def spec_l19Last.l0 : Nat → List (S74) → Int → Int → Int → Option (Int)
 | 0, _, _, _, _ => none
 | k + 1, x0, x1, x5, x6 => if x6 < (x0.length : Int) then (if 0 ≤ x6 then (if ((rd_T74 x0 x6).f0) = x1 then (spec_l19Last.l0 k x0 x1 ((rd_T74 x0 x6).f1) (wrap64 (x6 + 1))) else (spec_l19Last.l0 k x0 x1 x5 (wrap64 (x6 + 1)))) else (none)) else (some x5)
def spec_l19Last.f (k : Nat) (l0 : List (S74)) (a1 : Int) : Option (Int) := spec_l19Last.l0 k l0 a1 0 0
theorem spec_l19Last.mono_l : ∀ k, (∀ y0 y1 y2 y3, LeO (spec_l19Last.l0 k y0 y1 y2 y3) (spec_l19Last.l0 (k + 1) y0 y1 y2 y3))
 | 0 => fun _ _ _ _ r h => by simp [spec_l19Last.l0] at h
 | k + 1 => by
  have ih0 := spec_l19Last.mono_l k
  ·intro y0 y1 y2 y3
   unfold spec_l19Last.l0
   repeat' first
   | (with_reducible exact ih0 _ _ _ _)
   | (with_reducible exact LeO.refl _)
   | (with_reducible exact LeO.none _)
   | (with_reducible refine LeO.ite ?_ ?_)
   | (with_reducible refine LeO.bind ?_ (fun _ => ?_))
   | exact ih0 _ _ _ _
   | exact LeO.none _
   | refine LeO.ite ?_ ?_
   | refine LeO.bind ?_ (fun _ => ?_)
theorem spec_l19Last.mono : ∀ a0 a1 k, LeO (spec_l19Last.f k a0 a1) (spec_l19Last.f (k + 1) a0 a1) := by
 intro a0 a1 k
 have ih0 := spec_l19Last.mono_l k
 unfold spec_l19Last.f
 repeat' first
   | (with_reducible exact ih0 _ _ _ _)
   | (with_reducible exact LeO.refl _)
   | (with_reducible exact LeO.none _)
   | (with_reducible refine LeO.ite ?_ ?_)
   | (with_reducible refine LeO.bind ?_ (fun _ => ?_))
   | exact ih0 _ _ _ _
   | exact LeO.none _
   | refine LeO.ite ?_ ?_
   | refine LeO.bind ?_ (fun _ => ?_)
set_option maxHeartbeats 8000000 in
set_option maxRecDepth 100000 in
theorem spec_l19Last.calls (k : Nat) (A0 : Option Addr) (c0 : Nat) (l0 : List (S74)) (a1 : Int) (r : Int) (w : World) (hr0 : Kd.C k74 w A0 l0.length l0) (hc0 : l0.length ≤ c0) (h : spec_l19Last.f k l0 a1 = some r) :
  Calls Try.prog 128 #[.slice A0 l0.length c0, .int .i64 a1] w fun e w' => e = .returned (.int .i64 r) ∧ Drawn0 w w' := by
 have HR0 := Aside0.mk hr0
 have HC0 := Aside0.mk hc0
 clear hr0 hc0
 have H : (spec_l19Last.l0 k l0 a1 0 0) = some r := h
 clear h
 have H' := Aside0.mk H
 clear H
 go_enter Try.func128, Try.ntmps128
 go_wp2
 go_loopg [5, 6] k (fun kq v5 v6 w' => ∃ (x5_1 : Int) (x6_1 : Int), v5 = .int .i64 x5_1 ∧ v6 = .int .i64 x6_1 ∧ Aside0 (spec_l19Last.l0 kq l0 a1 x5_1 x6_1 = some r) ∧ Aside0 (kq ≤ k) ∧ Drawn0 w w')
 case atStart => exact ⟨(0), (0), (by first | rfl | (simp; done) | (simp [*]; done)), (by first | rfl | (simp; done) | (simp [*]; done)), H', ⟨Nat.le_refl _⟩, by repeat (first | exact Drawn0.refl _ | apply Drawn0.step)⟩
 case round =>
  clear H'
  try clear c1
  try clear p2
  obtain ⟨x5_1, x6_1, rfl, rfl, HA, HK1, ⟨m1, rfl⟩⟩ := hrel
  cases gk with
  | zero => exact absurd HA.out (by simp [spec_l19Last.l0])
  | succ k1 =>
   have H := HA.out
   clear HA
   simp only [spec_l19Last.l0] at H
   by_cases c3 : x6_1 < (l0.length : Int)
   ·rw [if_pos c3] at H
    have c3b0 : decide (x6_1 < (l0.length : Int)) = true := decide_eq_true c3
    clear c3
    by_cases c4 : 0 ≤ x6_1
    ·rw [if_pos c4] at H
     have c4b0 : decide (0 ≤ x6_1) = true := decide_eq_true c4
     clear c4
     by_cases c5 : ((rd_T74 l0 x6_1).f0) = a1
     ·rw [if_pos c5] at H
      have c5b0 : (((rd_T74 l0 x6_1).f0) == a1) = true := beq_iff_eq.mpr c5
      have c5b1 : (((rd_T74 l0 x6_1).f0) != a1) = false := bne_eq_false_iff_eq.mpr c5
      clear c5
      have H' := Aside0.mk H
      clear H
      have p124 : 0 ≤ (x6_1 : Int) := of_decide_eq_true (by first | (with_reducible assumption) | assumption)
      have q124 : x6_1 < (l0.length : Int) := of_decide_eq_true (by first | (with_reducible assumption) | assumption)
      obtain ⟨ad124, e124, hx124_0, hx124_1, hx124_2⟩ := at_T74 HR0.out x6_1 p124 q124
      cases e124
      replace p124 := eq_true p124
      replace q124 := eq_true q124
      have p125 : 0 ≤ (x6_1 : Int) := of_decide_eq_true (by first | (with_reducible assumption) | assumption)
      have q125 : x6_1 < (l0.length : Int) := of_decide_eq_true (by first | (with_reducible assumption) | assumption)
      obtain ⟨ad125, e125, hx125_0, hx125_1, hx125_2⟩ := at_T74 HR0.out x6_1 p125 q125
      obtain rfl : ad124 = ad125 := (by injection e125)
      replace p125 := eq_true p125
      replace q125 := eq_true q125
      go_wp2
      go_roundg k1
      case measure => have := HK1.out; omega
      case rel => exact ⟨((rd_T74 l0 x6_1).f1), (wrap64 (x6_1 + 1)), (by first | rfl | (simp; done) | (simp [*]; done)), (by first | rfl | (simp; done) | (simp [*]; done)), H', ⟨by have := HK1.out; omega⟩, by repeat (first | exact Drawn0.refl _ | apply Drawn0.step)⟩
     ·rw [if_neg c5] at H
      have c5b0 : (((rd_T74 l0 x6_1).f0) == a1) = false := beq_eq_false_iff_ne.mpr c5
      have c5b1 : (((rd_T74 l0 x6_1).f0) != a1) = true := bne_iff_ne.mpr c5
      have H' := Aside0.mk H
      clear H
      have p124 : 0 ≤ (x6_1 : Int) := of_decide_eq_true (by first | (with_reducible assumption) | assumption)
      have q124 : x6_1 < (l0.length : Int) := of_decide_eq_true (by first | (with_reducible assumption) | assumption)
      obtain ⟨ad124, e124, hx124_0, hx124_1, hx124_2⟩ := at_T74 HR0.out x6_1 p124 q124
      cases e124
      replace p124 := eq_true p124
      replace q124 := eq_true q124
      go_wp2
      go_roundg k1
      case measure => have := HK1.out; omega
      case rel => exact ⟨(x5_1), (wrap64 (x6_1 + 1)), (by first | rfl | (simp; done) | (simp [*]; done)), (by first | rfl | (simp; done) | (simp [*]; done)), H', ⟨by have := HK1.out; omega⟩, by repeat (first | exact Drawn0.refl _ | apply Drawn0.step)⟩
    ·rw [if_neg c4] at H
     exact absurd H (by simp)
   ·rw [if_neg c3] at H
    have c3b0 : decide (x6_1 < (l0.length : Int)) = false := decide_eq_false c3
    clear c3
    obtain rfl := Option.some.inj H
    go_wp2
    go_ret
    exact ⟨by first | rfl | (simp; done) | (simp [*]; done), by repeat (first | exact Drawn0.refl _ | apply Drawn0.step)⟩

end Go.Proofs.Ytbgfkpagkhofpaa.PFnTab
