/- The law FnHaves holds: the best ticket is one of those there and none is better, and what is put away for a new one was no better for anything: the plain part, on numbers and lists. -/
import Derived.Test.YtbgfkpagkhofpaaPFnHavesx0
import Derived.Test.YtbgfkpagkhofpaaPFnHavesx1
import Derived.Test.YtbgfkpagkhofpaaPFnHavesx2
import Derived.Test.YtbgfkpagkhofpaaPFnHavesx3
import Derived.Test.YtbgfkpagkhofpaaPFnHavesx4
import Derived.Test.YtbgfkpagkhofpaaPFnHavesx5
import Derived.Test.YtbgfkpagkhofpaaPFnHavesx6
import Derived.Test.YtbgfkpagkhofpaaPFnHavesx7
import Derived.Test.YtbgfkpagkhofpaaPFnHavesx8
set_option linter.unusedVariables false
/- Draws: a byte is from 0 to 255, what is drawn below n is below n; the place in the code stays in it. -/
namespace Go.Proofs.Ytbgfkpagkhofpaa.PFnHaves
open Go.RowKit Go.Proofs.YtbgfkpagkhofpaaW.PrintWords Go.Proofs.YtbgfkpagkhofpaaW.PrintLast
/-- The cursor stands in the code. -/
def St (b : List Int) (i : Int) : Prop := 0 ≤ i ∧ i ≤ (b.length : Int) ∧ (b.length : Int) ≤ 140737488351232
theorem wrap_id {x : Int} (h0 : -9223372036854775808 ≤ x) (h1 : x ≤ 9223372036854775807) : wrap64 x = x := by unfold wrap64; omega
theorem and_low (x : Int) (m : Nat) (hm : m ≤ 1073741823) : 0 ≤ Go.bits .and .i64 x m ∧ Go.bits .and .i64 x m ≤ m := by
  have hk : IntKind.i64.bits = 64 := rfl
  have h : Go.bits .and .i64 x m = IntKind.i64.wrap (((BitVec.ofInt 64 x).toNat &&& m : Nat) : Int) := by
    simp only [Go.bits, BitVec.toNat_and, hk, BitVec.ofInt_natCast, BitVec.toNat_ofNat]
    rw [Nat.mod_eq_of_lt (a := m) (by omega)]
    rfl
  have h1 : (BitVec.ofInt 64 x).toNat &&& m ≤ m := Nat.and_le_right
  rw [h, IntKind.wrap_i64]
  omega
theorem and255 (x : Int) : 0 ≤ Go.bits .and .i64 x 255 ∧ Go.bits .and .i64 x 255 ≤ 255 := and_low x 255 (by omega)
theorem byte_ev {b : List Int} {i : Int} (h : Int) (hs : St b i) : ∃ x i' h', spec_l1Byte.f b i h = some (x, i', h') ∧ 0 ≤ x ∧ x ≤ 255 ∧ St b i' := by
  obtain ⟨h0, h1, h2⟩ := hs
  unfold spec_l1Byte.f
  by_cases c : i < (b.length : Int)
  · rw [if_pos c, if_pos h0]
    exact ⟨_, _, _, rfl, (and255 _).1, (and255 _).2, by rw [wrap_id (by omega) (by omega)]; exact ⟨by omega, by omega, h2⟩⟩
  · rw [if_neg c]
    exact ⟨_, _, _, rfl, (and255 _).1, (and255 _).2, h0, h1, h2⟩
theorem below_ev {b : List Int} {i : Int} (h n : Int) (hs : St b i) (hn : n ≤ 256) : ∃ x i' h', spec_l1Below.f b i h n = some (x, i', h') ∧ 0 ≤ x ∧ x ≤ 255 ∧ (0 < n → x < n) ∧ (n ≤ 0 → x = 0) ∧ St b i' := by
  unfold spec_l1Below.f
  by_cases c : n ≤ 0
  · rw [if_pos c]; exact ⟨_, _, _, rfl, by omega, by omega, by omega, fun _ => rfl, hs⟩
  · rw [if_neg c, if_pos hn]
    obtain ⟨x, i', h', he, h0, h1, h2⟩ := byte_ev h hs
    rw [he]
    simp only [Option.bind_some]
    rw [if_neg (by omega)]
    have e : Int.tmod x n = x % n := Int.tmod_eq_emod_of_nonneg h0
    have e1 := Int.emod_nonneg x (show n ≠ 0 by omega)
    have e2 := Int.emod_lt_of_pos x (show 0 < n by omega)
    exact ⟨_, _, _, rfl, by omega, by omega, by omega, by omega, h2⟩
theorem once_ev {b : List Int} {i : Int} (h n : Int) (hs : St b i) (hn : n ≤ 256) : ∃ x i' h', spec_l1Once.f b i h n = some (x, i', h') ∧ St b i' := by
  obtain ⟨x, i', h', he, _, _, _, _, h2⟩ := below_ev h n hs hn
  unfold spec_l1Once.f
  rw [he]
  exact ⟨_, _, _, rfl, h2⟩
theorem rd_mem {l : List Int} {i : Int} (h0 : 0 ≤ i) (h1 : i < (l.length : Int)) : rd l i ∈ l := by
  unfold rd
  have : i.toNat < l.length := by omega
  rw [List.getD_eq_getElem?_getD, List.getElem?_eq_getElem this]
  exact List.getElem_mem this
theorem pick_ev {b : List Int} {i : Int} (h : Int) (l : List Int) (hs : St b i) (hl : 0 < l.length) (hn : l.length ≤ 256) : ∃ x i' h', spec_l1PickInt.f b i h l = some (x, i', h') ∧ x ∈ l ∧ St b i' := by
  obtain ⟨x, i', h', he, h0, _, h1, _, h2⟩ := below_ev h l.length hs (by omega)
  unfold spec_l1PickInt.f
  rw [he]
  simp only [Option.bind_some]
  rw [if_pos h0, if_pos (h1 (by omega))]
  exact ⟨_, _, _, rfl, rd_mem h0 (h1 (by omega)), h2⟩
theorem new_l0 (b : List Int) (hb : (b.length : Int) ≤ 140737488351232) (d : Nat) : ∀ (h i : Int), 0 ≤ i → i ≤ b.length → (b.length : Int) - i = d → ∃ h', Ev (fun k => spec_l1New.l0 k b h i) (b, 0, h') := by
  induction d with
  | zero =>
    intro h i h0 h1 hd
    exact ⟨h, Ev.step (fun k => by rw [spec_l1New.l0, if_neg (by omega)]) (Ev.now _)⟩
  | succ d ih =>
    intro h i h0 h1 hd
    by_cases c : i < 4000
    · obtain ⟨h', e⟩ := ih (Go.bits .and .i64 (wrap64 ((wrap64 ((wrap64 (h * 131)) + (wrap64 (rd b i)))) + 7)) 1073741823) (i + 1) (by omega) (by omega) (by omega)
      refine ⟨h', Ev.step (fun k => ?_) e⟩
      rw [spec_l1New.l0, if_pos (by omega), if_pos c, if_pos h0, wrap_id (x := i + 1) (by omega) (by omega)]
    · exact ⟨h, Ev.step (fun k => by rw [spec_l1New.l0, if_pos (by omega), if_neg c]) (Ev.now _)⟩
theorem new_ev (b : List Int) (hb : (b.length : Int) ≤ 140737488351232) : ∃ h', Ev (fun k => spec_l1New.f k b) (b, 0, h') := by
  obtain ⟨h', e⟩ := new_l0 b hb b.length (wrap64 (10101 + (b.length : Int))) 0 (by omega) (by omega) (by omega)
  exact ⟨h', Ev.congr (fun k => rfl) e⟩
theorem st_new {b : List Int} (hb : (b.length : Int) ≤ 140737488351232) : St b 0 := ⟨by omega, by omega, hb⟩
end Go.Proofs.Ytbgfkpagkhofpaa.PFnHaves

/- Lists and places: what stands behind a place, element by element. -/
namespace Go.Proofs.Ytbgfkpagkhofpaa.PFnHaves
open Go.RowKit Go.Proofs.YtbgfkpagkhofpaaW.PrintWords Go.Proofs.YtbgfkpagkhofpaaW.PrintLast
theorem rd_def (l : List Int) (i : Int) : rd l i = l.getD i.toNat 0 := rfl
/-- The suffix of a list at a place. -/
def At {α : Type} (l : List α) (i : Int) (s : List α) : Prop := 0 ≤ i ∧ i ≤ (l.length : Int) ∧ l.drop i.toNat = s
theorem At.zero {α : Type} (l : List α) : At l 0 l := ⟨by omega, by omega, rfl⟩
theorem At.nil {α : Type} {l : List α} {i : Int} (h : At l i []) : i = (l.length : Int) := by
  obtain ⟨h0, h1, h2⟩ := h
  have := congrArg List.length h2
  simp at this
  omega
theorem At.cons {α : Type} {l : List α} {i : Int} {x : α} {s : List α} (h : At l i (x :: s)) : i < (l.length : Int) ∧ l[i.toNat]? = some x ∧ At l (i + 1) s := by
  obtain ⟨h0, h1, h2⟩ := h
  have hl := congrArg List.length h2
  simp at hl
  have e : (i + 1).toNat = i.toNat + 1 := by omega
  refine ⟨by omega, ?_, by omega, by omega, ?_⟩
  · have := congrArg (·[0]?) h2
    simpa using this
  · rw [e, ← List.drop_drop, h2]; rfl
theorem At.len {α : Type} {l : List α} {i : Int} {s : List α} (h : At l i s) : (s.length : Int) = l.length - i := by
  obtain ⟨h0, h1, h2⟩ := h
  rw [← h2, List.length_drop]
  omega
theorem At.mem {α : Type} {l : List α} {i : Int} {x : α} {s : List α} (h : At l i (x :: s)) : x ∈ l := List.mem_of_getElem? h.cons.2.1
theorem At.rdv {l : List Int} {i x : Int} {s : List Int} (h : At l i (x :: s)) : rd l i = x := by
  have := h.cons.2.1
  rw [rd_def, List.getD_eq_getElem?_getD, this]
  rfl
theorem At.of {α : Type} (l : List α) {i : Int} (h0 : 0 ≤ i) (h1 : i ≤ l.length) : ∃ s, At l i s := ⟨_, h0, h1, rfl⟩
theorem rd_of_get {l : List Int} {i : Int} {x : Int} (h : l[i.toNat]? = some x) : rd l i = x := by
  rw [rd_def, List.getD_eq_getElem?_getD, h]
  rfl
theorem get_of_rd {l : List Int} {i : Int} (h0 : 0 ≤ i) (h1 : i < (l.length : Int)) : l[i.toNat]? = some (rd l i) := by
  have : i.toNat < l.length := by omega
  rw [rd_def, List.getD_eq_getElem?_getD, List.getElem?_eq_getElem this]
  rfl
/-- One round of a loop, told as what it comes to. -/
theorem Ev.go {α : Type} {g f : Nat → Option α} {r : α} (k : Ev f r) (h : ∀ n, g (n + 1) = f n) : Ev g r := Ev.step h k
theorem Ev.val {α : Type} {g : Nat → Option α} {r : α} (h : ∀ n, g n = some r) : Ev g r := ⟨0, fun n _ => h n⟩
theorem Ev.stop {α : Type} {g : Nat → Option α} {r : α} (h : ∀ n, g (n + 1) = some r) : Ev g r := Ev.step (f := fun _ => some r) h (Ev.now r)
/-- What goes before is known. -/
theorem Ev.bd {α β : Type} {g : Nat → Option α} {f : Nat → α → Option β} {a : α} {r : β} (h : Ev g a) (k : Ev (fun n => f n a) r) : Ev (fun n => (g n).bind (fun x => f n x)) r := Ev.bind h k
theorem Ev.fit {α : Type} {g f : Nat → Option α} {r : α} (k : Ev f r) (h : g = f) : Ev g r := h ▸ k
theorem Ev.same {α : Type} {g : Nat → Option α} {r q : α} (h : Ev g r) (k : Ev g q) : r = q := by
  obtain ⟨K, h⟩ := h
  obtain ⟨K', k⟩ := k
  have := (h (max K K') (by omega)).symm.trans (k (max K K') (by omega))
  injection this
end Go.Proofs.Ytbgfkpagkhofpaa.PFnHaves

/- Tickets that are held: what each function comes to. -/
namespace Go.Proofs.Ytbgfkpagkhofpaa.PFnHaves
open Go.RowKit Go.Proofs.YtbgfkpagkhofpaaW.PrintWords Go.Proofs.YtbgfkpagkhofpaaW.PrintLast
def inR (lo hi n : Int) : Bool := decide (lo ≤ n) && decide (n ≤ hi)
theorem inR_iff {lo hi n : Int} : inR lo hi n = true ↔ lo ≤ n ∧ n ≤ hi := by unfold inR; simp
theorem within_eq (n lo hi : Int) : impl_within.f n lo hi = some (inR lo hi n) := by
  unfold impl_within.f inR
  by_cases h : n ≥ lo
  · rw [if_pos h]; simp [h]
  · rw [if_neg h]; simp [h]
theorem in_eq (n lo hi : Int) : spec_l1In.f n lo hi = some (inR lo hi n) := by
  unfold spec_l1In.f inR
  by_cases h : n ≥ lo
  · rw [if_pos h]; simp [h]
  · rw [if_neg h]; simp [h]
def okH (x : S28) : Bool := inR 0 99 x.f0 && (decide (0 ≤ x.f1) && (inR x.f1 100000 x.f2 && (inR 0 255 x.f3 && inR 1 1000000 x.f4)))
theorem okH_iff {x : S28} : okH x = true ↔ (0 ≤ x.f0 ∧ x.f0 ≤ 99) ∧ 0 ≤ x.f1 ∧ (x.f1 ≤ x.f2 ∧ x.f2 ≤ 100000) ∧ (0 ≤ x.f3 ∧ x.f3 ≤ 255) ∧ 1 ≤ x.f4 ∧ x.f4 ≤ 1000000 := by
  unfold okH; simp only [Bool.and_eq_true, inR_iff, decide_eq_true_eq]
theorem implH (x : S28) : impl_haveOk.f x.f0 x.f1 x.f2 x.f3 x.f4 = some (okH x) := by
  unfold impl_haveOk.f impl_FlagsOk.f impl_isKey.f okH
  simp only [within_eq, Option.bind_some]
  cases inR 0 99 x.f0 <;> by_cases h : x.f1 ≥ 0 <;> cases inR x.f1 100000 x.f2 <;> cases inR 0 255 x.f3 <;> simp [h]
theorem specH (x : S28) : spec_l26Ok.f x.f0 x.f1 x.f2 x.f3 x.f4 = some (okH x) := by
  unfold spec_l26Ok.f spec_FlagsOk.f okH
  simp only [in_eq, Option.bind_some]
  cases inR 0 99 x.f0 <;> by_cases h : x.f1 ≥ 0 <;> cases inR x.f1 100000 x.f2 <;> cases inR 0 255 x.f3 <;> simp [h]
/-- Right tickets of unlike keys, ahead of which some stand. -/
def okPre : List S28 → List S28 → Bool
  | _, [] => true
  | p, x :: s => okH x && (!(p.any fun y => y.f4 == x.f4) && okPre (p ++ [x]) s)
def okL (l : List S28) : Bool := okPre [] l && decide ((l.length : Int) ≤ 12)
theorem At.rdS {l : List S28} {i : Int} {x : S28} {s : List S28} (h : At l i (x :: s)) : rd_T28 l i = x := by
  have := h.cons.2.1
  unfold rd_T28
  rw [List.getD_eq_getElem?_getD, this]
  rfl
theorem At.take {α : Type} {l : List α} {i : Int} {x : α} {s : List α} (h : At l i (x :: s)) : l.take (i + 1).toNat = l.take i.toNat ++ [x] := by
  have h1 := h.cons.2.1
  have h0 := h.1
  have e : (i + 1).toNat = i.toNat + 1 := by omega
  rw [e, List.take_add_one, h1]; rfl
theorem fidx_any {α : Type} (p : α → Bool) (l : List α) : decide (0 ≤ fidx p l) = l.any p := by
  unfold fidx
  cases h : l.findIdx? p with
  | none =>
    rw [List.findIdx?_eq_none_iff] at h
    have : l.any p = false := by rw [List.any_eq_false]; intro x hx; simp [h x hx]
    rw [this]; rfl
  | some i =>
    have : l.any p = true := by
      rw [List.findIdx?_eq_some_iff_getElem] at h
      obtain ⟨hi, hp, _⟩ := h
      rw [List.any_eq_true]
      exact ⟨l[i], List.getElem_mem hi, hp⟩
    rw [this]; simp
theorem implAt (l : List S28) (i : Int) : impl_HavesOk.at l i = (okH (rd_T28 l i) && !((l.take i.toNat).any fun x => x.f4 == (rd_T28 l i).f4)) := by
  unfold impl_HavesOk.at impl_haveOkB
  rw [implH, fidx_any]; rfl
theorem implPre (l : List S28) (s : List S28) : ∀ i : Int, At l i s → okPre (l.take i.toNat) s = (List.range s.length).all fun j => impl_HavesOk.at l (i + (j : Int)) := by
  induction s with
  | nil => intro i h; rfl
  | cons x s ih =>
    intro i h
    obtain ⟨h1, _, h2⟩ := h.cons
    rw [okPre, List.length_cons, List.range_succ_eq_map, List.all_cons, List.all_map]
    have e := ih _ h2
    rw [h.take] at e
    rw [e, implAt]
    simp only [Int.natCast_zero, Int.add_zero, h.rdS, Bool.and_assoc]
    congr 2
    congr 1
    funext j
    simp only [Function.comp, Int.natCast_succ]
    congr 1; omega
theorem implL (l : List S28) : impl_HavesOk.f l = some (okL l) := by
  unfold impl_HavesOk.f impl_HavesOk.all okL
  have e := implPre l l 0 (At.zero l)
  simp only [Int.toNat_zero, List.take_zero, Int.zero_add] at e
  rw [e]
  congr 2
  simp only [decide_eq_decide]; omega
theorem specL_l1 (l : List S28) (hl : l.length ≤ 12) (i : Int) (hi0 : 0 ≤ i) (hi1 : i < l.length) (r : Bool) (e : Ev (fun k => spec_HavesOk.l0 k l (i + 1)) r) (s : List S28) :
    ∀ j, 0 ≤ j → j ≤ i → s = (l.take i.toNat).drop j.toNat → Ev (fun k => spec_HavesOk.l1 k l i j) (!(s.any fun y => y.f4 == (rd_T28 l i).f4) && r) := by
  induction s with
  | nil =>
    intro j h0 h1 hs
    have hlen := congrArg List.length hs
    simp at hlen
    exact Ev.go e fun k => by rw [spec_HavesOk.l1, if_neg (by omega), wrap_id (by omega) (by omega)]
  | cons x s ih =>
    intro j h0 h1 hs
    have hlen := congrArg List.length hs
    simp at hlen
    have hj : j < i := by omega
    have hx : rd_T28 l j = x := by
      have h2 : ((l.take i.toNat).drop j.toNat)[0]? = some x := by rw [← hs]; rfl
      rw [List.getElem?_drop, List.getElem?_take, if_pos (by omega)] at h2
      unfold rd_T28
      rw [List.getD_eq_getElem?_getD]
      simp only [Nat.add_zero] at h2
      rw [h2]; rfl
    have hs2 : s = (l.take i.toNat).drop (j + 1).toNat := by
      have hjn : (j + 1).toNat = j.toNat + 1 := by omega
      rw [hjn, ← List.drop_drop, ← hs]; rfl
    by_cases g : x.f4 = (rd_T28 l i).f4
    · have : (!((x :: s).any fun y => y.f4 == (rd_T28 l i).f4) && r) = false := by simp [g]
      rw [this]
      exact Ev.stop fun k => by rw [spec_HavesOk.l1, if_pos hj, if_pos h0, if_pos (by omega), if_pos hi0, if_pos hi1, hx, if_pos g]
    · have gb : (x.f4 == (rd_T28 l i).f4) = false := by simpa using g
      have : (!((x :: s).any fun y => y.f4 == (rd_T28 l i).f4) && r) = (!(s.any fun y => y.f4 == (rd_T28 l i).f4) && r) := by rw [List.any_cons, gb, Bool.false_or]
      rw [this]
      exact Ev.go (ih (j + 1) (by omega) (by omega) hs2) fun k => by rw [spec_HavesOk.l1, if_pos hj, if_pos h0, if_pos (by omega), if_pos hi0, if_pos hi1, hx, if_neg g, wrap_id (by omega) (by omega)]
theorem specL_l0 (l : List S28) (hl : l.length ≤ 12) (s : List S28) : ∀ i : Int, At l i s → Ev (fun k => spec_HavesOk.l0 k l i) (okPre (l.take i.toNat) s) := by
  induction s with
  | nil => intro i h; exact Ev.stop fun k => by rw [spec_HavesOk.l0, if_neg (by have := h.nil; omega)]; rfl
  | cons x s ih =>
    intro i h
    obtain ⟨h1, _, h2⟩ := h.cons
    have h0 := h.1
    have e := ih _ h2
    rw [h.take] at e
    have e1 := specL_l1 l hl i h0 h1 _ e (l.take i.toNat) 0 (by omega) h0 (by simp)
    rw [h.rdS] at e1
    rw [okPre]
    cases hx : okH x with
    | true =>
      rw [Bool.true_and]
      exact Ev.go e1 fun k => by rw [spec_HavesOk.l0, if_pos h1, if_pos h0, h.rdS, specH, hx, Option.bind_some, if_pos rfl]
    | false =>
      rw [Bool.false_and]
      exact Ev.stop fun k => by rw [spec_HavesOk.l0, if_pos h1, if_pos h0, h.rdS, specH, hx, Option.bind_some, if_neg (by simp)]
theorem specL (l : List S28) : Ev (fun k => spec_HavesOk.f k l) (okL l) := by
  unfold okL
  by_cases h : (l.length : Int) > 12
  · rw [decide_eq_false (by omega), Bool.and_false]
    exact Ev.val fun k => by unfold spec_HavesOk.f; rw [if_pos h]
  · rw [decide_eq_true (by omega), Bool.and_true]
    have e := specL_l0 l (by omega) l 0 (At.zero l)
    simp only [Int.toNat_zero, List.take_zero] at e
    exact Ev.fit e (funext fun k => by unfold spec_HavesOk.f; rw [if_neg h])
theorem okPre_mem (s : List S28) : ∀ p, okPre p s = true → ∀ x ∈ s, okH x = true := by
  induction s with
  | nil => intro p _ x hx; simp at hx
  | cons y s ih =>
    intro p h x hx
    rw [okPre] at h
    simp only [Bool.and_eq_true] at h
    rcases List.mem_cons.1 hx with rfl | hx
    · exact h.1
    · exact ih _ h.2.2 x hx
theorem okL_mem {l : List S28} (h : okL l = true) : (∀ x ∈ l, okH x = true) ∧ l.length ≤ 12 := by
  unfold okL at h
  simp only [Bool.and_eq_true, decide_eq_true_eq] at h
  exact ⟨okPre_mem l [] h.1, by omega⟩
/-- What is taken out of right ones leaves right ones. -/
theorem okPre_filter (q : S28 → Bool) (s : List S28) : ∀ p p', (∀ y ∈ p', y ∈ p) → okPre p s = true → okPre p' (s.filter q) = true := by
  induction s with
  | nil => intro p p' _ _; rfl
  | cons x s ih =>
    intro p p' hp h
    rw [okPre] at h
    simp only [Bool.and_eq_true, Bool.not_eq_true', List.any_eq_false] at h
    obtain ⟨h1, h2, h3⟩ := h
    cases hq : q x with
    | true =>
      rw [List.filter_cons_of_pos hq, okPre]
      simp only [Bool.and_eq_true, Bool.not_eq_true', List.any_eq_false]
      refine ⟨h1, fun y hy => h2 y (hp y hy), ih _ _ (fun y hy => ?_) h3⟩
      rcases List.mem_append.1 hy with hy | hy
      · exact List.mem_append_left _ (hp y hy)
      · exact List.mem_append_right _ hy
    | false =>
      rw [List.filter_cons_of_neg (by simp [hq])]
      exact ih _ _ (fun y hy => List.mem_append_left _ (hp y hy)) h3
theorem okL_filter (q : S28 → Bool) {l : List S28} (h : okL l = true) : okL (l.filter q) = true := by
  have hl := (okL_mem h).2
  unfold okL at h ⊢
  simp only [Bool.and_eq_true, decide_eq_true_eq] at h ⊢
  have := List.length_filter_le q l
  exact ⟨okPre_filter q l [] [] (by simp) h.1, by omega⟩
end Go.Proofs.Ytbgfkpagkhofpaa.PFnHaves

/- Tickets that are held: the best one, putting one away, purging. -/
namespace Go.Proofs.Ytbgfkpagkhofpaa.PFnHaves
open Go.RowKit Go.Proofs.YtbgfkpagkhofpaaW.PrintWords Go.Proofs.YtbgfkpagkhofpaaW.PrintLast
theorem fin255 {p : Int → Prop} (h : ∀ a : Fin 256, p (a.val : Int)) {x : Int} (h0 : 0 ≤ x) (h1 : x ≤ 255) : p x := by
  have := h ⟨x.toNat, by omega⟩
  simp only [Int.toNat_of_nonneg h0] at this
  exact this
def inval (f : Int) : Bool := decide (Go.bits .and .i64 f 16 = 0)
theorem has16 {f : Int} (h0 : 0 ≤ f) (h1 : f ≤ 255) : spec_l15Has.f f 16 = some (!inval f) := by
  refine fin255 (p := fun f => spec_l15Has.f f 16 = some (!inval f)) ?_ h0 h1
  decide +kernel
theorem div16 {f : Int} (h0 : 0 ≤ f) (h1 : f ≤ 255) : decide (Int.tmod (wrap64 (Int.tdiv f 16)) 2 = 0) = inval f := by
  refine fin255 (p := fun f => decide (Int.tmod (wrap64 (Int.tdiv f 16)) 2 = 0) = inval f) ?_ h0 h1
  decide +kernel
theorem all_fin : ∀ a : Fin 256, ∀ g : Fin 4, spec_l26All.f 20 ([0, 1, 2, 4].getD g.val 0) (a.val : Int) = some (decide (Go.bits .and .i64 (a.val : Int) ([0, 1, 2, 4].getD g.val 0) = [0, 1, 2, 4].getD g.val 0)) := by
  decide +kernel
theorem and256 : ∀ a : Fin 256, Go.bits .and .i64 (a.val : Int) 256 = 0 := by decide +kernel
theorem mem4 {g : Int} (hg : g ∈ [0, 1, 2, 4]) : ∃ j : Fin 4, g = [0, 1, 2, 4].getD j.val 0 := by
  simp at hg
  rcases hg with rfl | rfl | rfl | rfl
  · exact ⟨0, rfl⟩
  · exact ⟨1, rfl⟩
  · exact ⟨2, rfl⟩
  · exact ⟨3, rfl⟩
theorem all_ev {g f : Int} (hg : g ∈ [0, 1, 2, 4]) (h0 : 0 ≤ f) (h1 : f ≤ 255) : Ev (fun k => spec_l26All.f k g f) (decide (Go.bits .and .i64 f g = g)) := by
  obtain ⟨j, rfl⟩ := mem4 hg
  refine Ev.of (fun k => spec_l26All.mono _ _ k) (k := 20) ?_
  exact fin255 (p := fun f => spec_l26All.f 20 ([0, 1, 2, 4].getD j.val 0) f = some (decide (Go.bits .and .i64 f ([0, 1, 2, 4].getD j.val 0) = [0, 1, 2, 4].getD j.val 0))) (fun a => all_fin a j) h0 h1
def below (a b : Int) : Bool := decide (Go.bits .andNot .i64 (Go.bits .and .i64 a 15) b = 0)
theorem below_fin : ∀ a : Fin 256, ∀ g : Fin 7, spec_Below.f 20 (a.val : Int) ([0, 1, 3, 15, 31, 64, 5].getD g.val 0) = some (below (a.val : Int) ([0, 1, 3, 15, 31, 64, 5].getD g.val 0)) := by
  decide +kernel
theorem belowFl_ev {a g : Int} (hg : g ∈ [0, 1, 3, 15, 31, 64, 5]) (h0 : 0 ≤ a) (h1 : a ≤ 255) : Ev (fun k => spec_Below.f k a g) (below a g) := by
  have : ∃ j : Fin 7, g = [0, 1, 3, 15, 31, 64, 5].getD j.val 0 := by
    simp at hg
    rcases hg with rfl | rfl | rfl | rfl | rfl | rfl | rfl
    · exact ⟨0, rfl⟩
    · exact ⟨1, rfl⟩
    · exact ⟨2, rfl⟩
    · exact ⟨3, rfl⟩
    · exact ⟨4, rfl⟩
    · exact ⟨5, rfl⟩
    · exact ⟨6, rfl⟩
  obtain ⟨j, rfl⟩ := this
  refine Ev.of (fun k => spec_Below.mono _ _ k) (k := 20) ?_
  exact fin255 (p := fun a => spec_Below.f 20 a ([0, 1, 3, 15, 31, 64, 5].getD j.val 0) = some (below a ([0, 1, 3, 15, 31, 64, 5].getD j.val 0))) (fun a => below_fin a j) h0 h1
abbrev tup (p : S28 × Bool) : Int × Int × Int × Int × Int × Bool := (p.1.f0, p.1.f1, p.1.f2, p.1.f3, p.1.f4, p.2)
def pickB (q : S28 → Bool) (p : S28 × Bool) (h : S28) : S28 × Bool := if q h = true ∧ (p.2 = true → p.1.f2 < h.f2) then (h, true) else p
def zH : S28 := ⟨0, 0, 0, 0, 0⟩
def lives (s n fl : Int) (x : S28) : Bool := x.f0 == s && (inR x.f1 x.f2 n && (inval x.f3 && decide (Go.bits .and .i64 x.f3 fl = fl)))
def best (l : List S28) (s n fl : Int) : S28 × Bool := if okL l = true then l.foldl (pickB (lives s n fl)) (zH, false) else (zH, false)
theorem fold_no (q : S28 → Bool) (l : List S28) (h : ∀ x ∈ l, q x = false) : ∀ p, l.foldl (pickB q) p = p := by
  induction l with
  | nil => intro p; rfl
  | cons x l ih =>
    intro p
    have : pickB q p x = p := by unfold pickB; rw [if_neg (by simp [h x (by simp)])]
    rw [List.foldl_cons, this]
    exact ih (fun y hy => h y (by simp [hy])) p
theorem implB_l0 (l : List S28) (hl : l.length ≤ 100) (srv n fl : Int) (s : List S28) : ∀ (i : Int) (b : S28) (f : Bool), At l i s →
    Ev (fun k => impl_Best.l0 k l srv n fl f l (l.length : Int) i b.f0 b.f1 b.f2 b.f3 b.f4) (tup (s.foldl (pickB fun x => okL l && lives srv n fl x) (b, f))) := by
  induction s with
  | nil => intro i b f h; exact Ev.stop fun k => by rw [impl_Best.l0, if_neg (by have := h.nil; omega)]; rfl
  | cons x s ih =>
    intro i b f h
    obtain ⟨h1, _, h2⟩ := h.cons
    have h0 := h.1
    have hi : wrap64 (i + 1) = i + 1 := wrap_id (by omega) (by omega)
    rw [List.foldl_cons]
    have no : (okL l && lives srv n fl x) = false → Ev (fun k => impl_Best.l0 k l srv n fl f l (l.length : Int) (i + 1) b.f0 b.f1 b.f2 b.f3 b.f4) (tup (s.foldl (pickB fun x => okL l && lives srv n fl x) (pickB (fun x => okL l && lives srv n fl x) (b, f) x))) := by
      intro hq
      have : pickB (fun x => okL l && lives srv n fl x) (b, f) x = (b, f) := by unfold pickB; rw [if_neg (by simp [hq])]
      rw [this]; exact ih _ _ _ h2
    by_cases g1 : x.f0 = srv
    · cases g2 : inR x.f1 x.f2 n with
      | false => exact Ev.go (no (by unfold lives; simp [g2])) fun k => by rw [impl_Best.l0, if_pos h1, if_pos h0, if_pos h1, h.rdS, if_pos g1, within_eq, g2, Option.bind_some, if_neg (by simp), hi]
      | true =>
        by_cases g3 : Go.bits .and .i64 x.f3 16 = 0
        · by_cases g4 : Go.bits .and .i64 x.f3 fl = fl
          · rcases Bool.eq_false_or_eq_true (okL l) with g5 | g5
            rotate_left
            · exact Ev.go (no (by simp [g5])) fun k => by rw [impl_Best.l0, if_pos h1, if_pos h0, if_pos h1, h.rdS, if_pos g1, within_eq, g2, Option.bind_some, if_pos rfl, if_pos g3, if_pos g4, implL, g5, Option.bind_some, if_neg (by simp), hi]
            · have hq : (okL l && lives srv n fl x) = true := by unfold lives inval; simp [g1, g2, g3, g4, g5]
              simp only [g5] at ih hq ⊢
              cases f with
              | true =>
                by_cases g6 : x.f2 > b.f2
                · have e : pickB (fun x => true && lives srv n fl x) (b, true) x = (x, true) := by unfold pickB; rw [if_pos ⟨hq, fun _ => g6⟩]
                  rw [e]
                  exact Ev.go (ih _ x true h2) fun k => by rw [impl_Best.l0, if_pos h1, if_pos h0, if_pos h1, h.rdS, if_pos g1, within_eq, g2, Option.bind_some, if_pos rfl, if_pos g3, if_pos g4, implL, g5, Option.bind_some, if_pos rfl, if_pos rfl, if_pos g6, hi]
                · have e : pickB (fun x => true && lives srv n fl x) (b, true) x = (b, true) := by unfold pickB; rw [if_neg (by intro hh; exact g6 (hh.2 rfl))]
                  rw [e]
                  exact Ev.go (ih _ b true h2) fun k => by rw [impl_Best.l0, if_pos h1, if_pos h0, if_pos h1, h.rdS, if_pos g1, within_eq, g2, Option.bind_some, if_pos rfl, if_pos g3, if_pos g4, implL, g5, Option.bind_some, if_pos rfl, if_pos rfl, if_neg g6, hi]
              | false =>
                have e : pickB (fun x => true && lives srv n fl x) (b, false) x = (x, true) := by unfold pickB; rw [if_pos ⟨hq, fun hh => by simp at hh⟩]
                rw [e]
                exact Ev.go (ih _ x true h2) fun k => by rw [impl_Best.l0, if_pos h1, if_pos h0, if_pos h1, h.rdS, if_pos g1, within_eq, g2, Option.bind_some, if_pos rfl, if_pos g3, if_pos g4, implL, g5, Option.bind_some, if_pos rfl, if_neg (by simp), hi]
          · exact Ev.go (no (by unfold lives; simp [g4])) fun k => by rw [impl_Best.l0, if_pos h1, if_pos h0, if_pos h1, h.rdS, if_pos g1, within_eq, g2, Option.bind_some, if_pos rfl, if_pos g3, if_neg g4, hi]
        · exact Ev.go (no (by unfold lives inval; simp [g3])) fun k => by rw [impl_Best.l0, if_pos h1, if_pos h0, if_pos h1, h.rdS, if_pos g1, within_eq, g2, Option.bind_some, if_pos rfl, if_neg g3, hi]
    · exact Ev.go (no (by unfold lives; simp [g1])) fun k => by rw [impl_Best.l0, if_pos h1, if_pos h0, if_pos h1, h.rdS, if_neg g1, hi]
theorem implB (l : List S28) (hl : l.length ≤ 100) (srv n fl : Int) : Ev (fun k => impl_Best.f k l srv n fl) (tup (best l srv n fl)) := by
  have e := implB_l0 l hl srv n fl l 0 zH false (At.zero l)
  have : l.foldl (pickB fun x => okL l && lives srv n fl x) (zH, false) = best l srv n fl := by
    unfold best
    cases h : okL l with
    | true => simp
    | false => simp only [Bool.false_and, Bool.false_eq_true, if_false]; exact fold_no (fun _ => false) l (fun _ _ => rfl) _
  rw [this] at e
  exact Ev.fit e (funext fun k => rfl)
theorem specB_l0 (l : List S28) (hk : okL l = true) (srv n fl : Int) (hfl : fl ∈ [0, 1, 2, 4]) (s : List S28) : ∀ (i : Int) (b : S28) (f : Bool), At l i s →
    Ev (fun k => spec_Best.l0 k l srv n fl f i b.f0 b.f1 b.f2 b.f3 b.f4) (tup (s.foldl (pickB (lives srv n fl)) (b, f))) := by
  obtain ⟨hok, hl⟩ := okL_mem hk
  have hfb : inR 0 255 fl = true := by rw [inR_iff]; simp at hfl; omega
  induction s with
  | nil =>
    intro i b f h
    refine Ev.go (f := fun k => spec_Best.j1 k l srv n fl f i false b.f0 b.f1 b.f2 b.f3 b.f4) ?_ fun k => by rw [spec_Best.l0, if_neg (by have := h.nil; omega)]
    exact Ev.stop fun k => by rw [spec_Best.j1, if_neg (by simp)]; rfl
  | cons x s ih =>
    intro i b f h
    obtain ⟨h1, _, h2⟩ := h.cons
    have h0 := h.1
    have hx := okH_iff.1 (hok x h.mem)
    have hi : wrap64 (i + 1) = i + 1 := wrap_id (by omega) (by omega)
    refine Ev.go (f := fun k => (spec_HavesOk.f k l).bind fun t => if t = true then (spec_FlagsOk.f fl).bind fun t1 => spec_Best.j1 k l srv n fl f i t1 b.f0 b.f1 b.f2 b.f3 b.f4 else spec_Best.j1 k l srv n fl f i false b.f0 b.f1 b.f2 b.f3 b.f4) ?_ fun k => by rw [spec_Best.l0, if_pos h1]
    refine Ev.bd (specL l) ?_
    unfold spec_FlagsOk.f
    simp only [hk, if_true, in_eq, Option.bind_some, hfb]
    rw [List.foldl_cons]
    have no : lives srv n fl x = false → Ev (fun k => spec_Best.l0 k l srv n fl f (i + 1) b.f0 b.f1 b.f2 b.f3 b.f4) (tup (s.foldl (pickB (lives srv n fl)) (pickB (lives srv n fl) (b, f) x))) := by
      intro hq
      have : pickB (lives srv n fl) (b, f) x = (b, f) := by unfold pickB; rw [if_neg (by simp [hq])]
      rw [this]; exact ih _ _ _ h2
    by_cases g1 : x.f0 = srv
    · cases g2 : inR x.f1 x.f2 n with
      | false => exact Ev.go (no (by unfold lives; simp [g2])) fun k => by rw [spec_Best.j1, if_pos rfl, if_pos h0, if_pos h1, h.rdS, if_pos g1, in_eq, g2, Option.bind_some, if_neg (by simp), hi]
      | true =>
        have h16 := has16 hx.2.2.2.1.1 hx.2.2.2.1.2
        cases g3 : inval x.f3 with
        | false => exact Ev.go (no (by unfold lives; simp [g3])) fun k => by rw [spec_Best.j1, if_pos rfl, if_pos h0, if_pos h1, h.rdS, if_pos g1, in_eq, g2, Option.bind_some, if_pos rfl, h16, g3, Option.bind_some, if_pos (by simp), hi]
        | true =>
          have ha := all_ev hfl hx.2.2.2.1.1 hx.2.2.2.1.2
          refine Ev.go (f := fun k => (spec_l26All.f k fl x.f3).bind fun t => if t = true then (if f = true then (if x.f2 > b.f2 then spec_Best.l0 k l srv n fl true (i + 1) x.f0 x.f1 x.f2 x.f3 x.f4 else spec_Best.l0 k l srv n fl f (i + 1) b.f0 b.f1 b.f2 b.f3 b.f4) else spec_Best.l0 k l srv n fl true (i + 1) x.f0 x.f1 x.f2 x.f3 x.f4) else spec_Best.l0 k l srv n fl f (i + 1) b.f0 b.f1 b.f2 b.f3 b.f4) ?_ fun k => by rw [spec_Best.j1, if_pos rfl, if_pos h0, if_pos h1, h.rdS, if_pos g1, in_eq, g2, Option.bind_some, if_pos rfl, h16, g3, Option.bind_some, if_neg (by simp), hi]
          refine Ev.bd ha ?_
          by_cases g4 : Go.bits .and .i64 x.f3 fl = fl
          · have hq : lives srv n fl x = true := by unfold lives; simp [g1, g2, g3, g4]
            simp only [decide_eq_true g4, if_true]
            cases f with
            | true =>
              by_cases g6 : x.f2 > b.f2
              · have e : pickB (lives srv n fl) (b, true) x = (x, true) := by unfold pickB; rw [if_pos ⟨hq, fun _ => g6⟩]
                rw [e]; simp only [if_true, if_pos g6]; exact ih _ x true h2
              · have e : pickB (lives srv n fl) (b, true) x = (b, true) := by unfold pickB; rw [if_neg (by intro hh; exact g6 (hh.2 rfl))]
                rw [e]; simp only [if_true, if_neg g6]; exact ih _ b true h2
            | false =>
              have e : pickB (lives srv n fl) (b, false) x = (x, true) := by unfold pickB; rw [if_pos ⟨hq, fun hh => by simp at hh⟩]
              rw [e]; simp only [Bool.false_eq_true, if_false]; exact ih _ x true h2
          · simp only [decide_eq_false g4, Bool.false_eq_true, if_false]
            exact no (by unfold lives; simp [g4])
    · exact Ev.go (no (by unfold lives; simp [g1])) fun k => by rw [spec_Best.j1, if_pos rfl, if_pos h0, if_pos h1, h.rdS, if_neg g1, hi]
theorem specB (l : List S28) (srv n fl : Int) (hfl : fl ∈ [0, 0, 1, 2, 4, 256]) : Ev (fun k => spec_Best.f k l srv n fl) (tup (best l srv n fl)) := by
  cases hk : okL l with
  | true =>
    by_cases hf : fl = 256
    · subst hf
      have : best l srv n 256 = (zH, false) := by
        unfold best
        rw [if_pos hk]
        refine fold_no _ _ (fun x hx => ?_) _
        have h := okH_iff.1 ((okL_mem hk).1 x hx)
        have := fin255 (p := fun a => Go.bits .and .i64 a 256 = 0) and256 h.2.2.2.1.1 h.2.2.2.1.2
        unfold lives
        rw [this]
        simp
      rw [this]
      unfold spec_Best.f
      cases l with
      | nil =>
        refine Ev.go (f := fun k => spec_Best.j1 k [] srv n 256 false 0 false 0 0 0 0 0) (Ev.stop fun k => by rw [spec_Best.j1, if_neg (by simp)]; rfl) fun k => by rw [spec_Best.l0, if_neg (show ¬ (0 : Int) < (([] : List S28).length : Int) by simp)]
      | cons x s =>
        refine Ev.go (f := fun k => (spec_HavesOk.f k (x :: s)).bind fun t => if t = true then (spec_FlagsOk.f 256).bind fun t1 => spec_Best.j1 k (x :: s) srv n 256 false 0 t1 0 0 0 0 0 else spec_Best.j1 k (x :: s) srv n 256 false 0 false 0 0 0 0 0) ?_ fun k => by rw [spec_Best.l0, if_pos (show (0 : Int) < (((x :: s).length : Nat) : Int) by rw [List.length_cons]; omega)]
        refine Ev.bd (specL _) ?_
        rw [hk]
        simp only [if_true]
        exact Ev.stop fun k => by
          have : spec_FlagsOk.f 256 = some false := by decide +kernel
          rw [this, Option.bind_some, spec_Best.j1, if_neg (by simp)]; rfl
    · have hfl' : fl ∈ [0, 1, 2, 4] := by simp at hfl ⊢; omega
      have e := specB_l0 l hk srv n fl hfl' l 0 zH false (At.zero l)
      have : best l srv n fl = l.foldl (pickB (lives srv n fl)) (zH, false) := by unfold best; rw [if_pos hk]
      rw [this]
      exact Ev.fit e (funext fun k => rfl)
  | false =>
    have : best l srv n fl = (zH, false) := by unfold best; rw [hk, if_neg (by simp)]
    rw [this]
    unfold spec_Best.f
    have hj : Ev (fun k => spec_Best.j1 k l srv n fl false 0 false 0 0 0 0 0) (tup (zH, false)) := Ev.stop fun k => by rw [spec_Best.j1, if_neg (by simp)]; rfl
    by_cases hc : 0 < (l.length : Int)
    · refine Ev.go (f := fun k => (spec_HavesOk.f k l).bind fun t => if t = true then (spec_FlagsOk.f fl).bind fun t1 => spec_Best.j1 k l srv n fl false 0 t1 0 0 0 0 0 else spec_Best.j1 k l srv n fl false 0 false 0 0 0 0 0) ?_ fun k => by rw [spec_Best.l0, if_pos hc]
      refine Ev.bd (specL _) ?_
      rw [hk]
      simp only [Bool.false_eq_true, if_false]
      exact hj
    · exact Ev.go hj fun k => by rw [spec_Best.l0, if_neg hc]
end Go.Proofs.Ytbgfkpagkhofpaa.PFnHaves

/- Tickets that are held: putting one away, purging, the draws, and what the law asks. -/
namespace Go.Proofs.Ytbgfkpagkhofpaa.PFnHaves
open Go.RowKit Go.Proofs.YtbgfkpagkhofpaaW.PrintWords Go.Proofs.YtbgfkpagkhofpaaW.PrintLast
def keep (h x : S28) : Bool := !(x.f0 == h.f0 && (decide (x.f2 ≤ h.f2) && below x.f3 h.f3))
def havePut (l : List S28) (h : S28) : List S28 × Bool := if okL l = true then (if okL (l.filter (keep h) ++ [h]) = true then (l.filter (keep h) ++ [h], true) else (l, false)) else ([], false)
theorem eta28 (x : S28) : (⟨x.f0, x.f1, x.f2, x.f3, x.f4⟩ : S28) = x := rfl
theorem implP_l0 (l : List S28) (hl : l.length ≤ 100) (h : S28) (s : List S28) : ∀ (i : Int) (acc : List S28), At l i s → (acc.length : Int) ≤ i →
    Ev (fun k => impl_HavePut.l0 k l acc l (l.length : Int) i h.f0 h.f1 h.f2 h.f3 h.f4) (if okL (acc ++ s.filter (keep h) ++ [h]) = true then (acc ++ s.filter (keep h) ++ [h], true) else (l, false)) := by
  induction s with
  | nil =>
    intro i acc ha hacc
    have hi := ha.nil
    simp only [List.filter_nil, List.append_nil]
    refine Ev.stop fun k => ?_
    rw [impl_HavePut.l0, if_neg (by omega), if_pos (by omega), Option.bind_some, implL, Option.bind_some, eta28]
    by_cases hq : okL (acc ++ [h]) = true
    · rw [if_pos hq, if_pos hq]
    · rw [if_neg hq, if_neg hq, if_pos (by simp; omega)]; rfl
  | cons x s ih =>
    intro i acc ha hacc
    obtain ⟨h1, _, h2⟩ := ha.cons
    have h0 := ha.1
    have hi : wrap64 (i + 1) = i + 1 := wrap_id (by omega) (by omega)
    have yes : keep h x = true → Ev (fun k => impl_HavePut.l0 k l (acc ++ [x]) l (l.length : Int) (i + 1) h.f0 h.f1 h.f2 h.f3 h.f4) (if okL (acc ++ (x :: s).filter (keep h) ++ [h]) = true then (acc ++ (x :: s).filter (keep h) ++ [h], true) else (l, false)) := by
      intro hq
      have e := ih (i + 1) (acc ++ [x]) h2 (by simp; omega)
      rw [List.filter_cons_of_pos hq]
      simpa using e
    by_cases g1 : x.f0 = h.f0
    · by_cases g2 : x.f2 > h.f2
      · exact Ev.go (yes (by unfold keep; simp [g1]; omega)) fun k => by rw [impl_HavePut.l0, if_pos h1, if_pos h0, if_pos h1, ha.rdS, if_pos g1, if_pos g2, if_pos (by omega), hi]
      · by_cases g3 : Go.bits .andNot .i64 (Go.bits .and .i64 x.f3 15) h.f3 = 0
        · have hq : keep h x = false := by unfold keep below; simp [g1, g3]; omega
          rw [List.filter_cons_of_neg (by simp [hq])]
          exact Ev.go (ih (i + 1) acc h2 (by omega)) fun k => by rw [impl_HavePut.l0, if_pos h1, if_pos h0, if_pos h1, ha.rdS, if_pos g1, if_neg g2, if_pos g3, hi]
        · exact Ev.go (yes (by unfold keep below; simp [g3])) fun k => by rw [impl_HavePut.l0, if_pos h1, if_pos h0, if_pos h1, ha.rdS, if_pos g1, if_neg g2, if_neg g3, if_pos (by omega), hi]
    · exact Ev.go (yes (by unfold keep; simp [g1])) fun k => by rw [impl_HavePut.l0, if_pos h1, if_pos h0, if_pos h1, ha.rdS, if_neg g1, if_pos (by omega), hi]
theorem implP (l : List S28) (hl : l.length ≤ 100) (h : S28) : Ev (fun k => impl_HavePut.f k l h.f0 h.f1 h.f2 h.f3 h.f4) (havePut l h) := by
  unfold havePut impl_HavePut.f
  simp only [implL, Option.bind_some]
  cases hk : okL l with
  | false => simp only [Bool.false_eq_true, if_false]; exact Ev.now _
  | true =>
    simp only [if_true]
    have e := implP_l0 l hl h l 0 [] (At.zero l) (by simp)
    simpa using e
theorem okL_not (l : List S28) (h : S28) (hh : okH h = false) : okL (l ++ [h]) = false := by
  cases hk : okL (l ++ [h]) with
  | false => rfl
  | true => have := (okL_mem hk).1 h (by simp); rw [hh] at this; simp at this
theorem specP_l0 (l : List S28) (hk : okL l = true) (h : S28) (hfl : okH h = true → h.f3 ∈ [0, 1, 3, 15, 31, 64, 5]) (s : List S28) : ∀ (i : Int) (acc : List S28), At l i s → (acc.length : Int) ≤ i →
    Ev (fun k => spec_HavePut.l0 k l acc i h.f0 h.f1 h.f2 h.f3 h.f4) (if okL (acc ++ s.filter (fun x => !okH h || keep h x) ++ [h]) = true then (acc ++ s.filter (fun x => !okH h || keep h x) ++ [h], true) else (l, false)) := by
  obtain ⟨hok, hl⟩ := okL_mem hk
  induction s with
  | nil =>
    intro i acc ha hacc
    have hi := ha.nil
    simp only [List.filter_nil, List.append_nil]
    refine Ev.go (f := fun k => (spec_HavesOk.f k (acc ++ [h])).bind fun t => if t = true then some (acc ++ [h], true) else some (l, false)) ?_ fun k => by
      rw [spec_HavePut.l0, if_neg (by omega), if_pos (by omega), Option.bind_some, eta28]
      simp only [Option.bind_some, List.length_nil, Nat.zero_add, List.nil_append, if_pos (show l.length < 3518437208883 by omega)]
    refine Ev.bd (specL _) ?_
    cases okL (acc ++ [h]) with
    | true => exact Ev.now _
    | false => simp only [Bool.false_eq_true, if_false]; exact Ev.now _
  | cons x s ih =>
    intro i acc ha hacc
    obtain ⟨h1, _, h2⟩ := ha.cons
    have h0 := ha.1
    have hx := okH_iff.1 (hok x ha.mem)
    have hi : wrap64 (i + 1) = i + 1 := wrap_id (by omega) (by omega)
    have yes : (!okH h || keep h x) = true → Ev (fun k => spec_HavePut.l0 k l (acc ++ [x]) (i + 1) h.f0 h.f1 h.f2 h.f3 h.f4) (if okL (acc ++ (x :: s).filter (fun x => !okH h || keep h x) ++ [h]) = true then (acc ++ (x :: s).filter (fun x => !okH h || keep h x) ++ [h], true) else (l, false)) := by
      intro hq
      have e := ih (i + 1) (acc ++ [x]) h2 (by simp; omega)
      rw [List.filter_cons_of_pos (p := fun x => !okH h || keep h x) hq]
      simpa using e
    cases hh : okH h with
    | false =>
      rw [hh] at yes
      exact Ev.go (yes (by simp)) fun k => by rw [spec_HavePut.l0, if_pos h1, specH, hh, Option.bind_some, if_neg (by simp), if_pos h0, ha.rdS, if_pos (by omega), hi]
    | true =>
      rw [hh] at yes ih
      by_cases g1 : x.f0 = h.f0
      · by_cases g2 : x.f2 ≤ h.f2
        · have hb := belowFl_ev (hfl hh) hx.2.2.2.1.1 hx.2.2.2.1.2
          refine Ev.go (f := fun k => (spec_Below.f k x.f3 h.f3).bind fun t => if t = true then spec_HavePut.l0 k l acc (i + 1) h.f0 h.f1 h.f2 h.f3 h.f4 else spec_HavePut.l0 k l (acc ++ [x]) (i + 1) h.f0 h.f1 h.f2 h.f3 h.f4) ?_ fun k => by
            rw [spec_HavePut.l0, if_pos h1, specH, hh, Option.bind_some, if_pos rfl, if_pos h0, ha.rdS, if_pos g1, if_pos g2, if_pos (show acc.length < 3518437208883 by omega), hi]
          refine Ev.bd hb ?_
          cases g3 : below x.f3 h.f3 with
          | true =>
            have hq : (!true || keep h x) = false := by unfold keep; simp [g1, g2, g3]
            rw [List.filter_cons_of_neg (p := fun x => !true || keep h x) (by rw [hq]; simp)]
            simp only [if_true]
            exact ih (i + 1) acc h2 (by omega)
          | false =>
            simp only [Bool.false_eq_true, if_false]
            exact yes (by unfold keep; simp [g3])
        · exact Ev.go (yes (by unfold keep; simp [g2])) fun k => by rw [spec_HavePut.l0, if_pos h1, specH, hh, Option.bind_some, if_pos rfl, if_pos h0, ha.rdS, if_pos g1, if_neg g2, if_pos (by omega), hi]
      · exact Ev.go (yes (by unfold keep; simp [g1])) fun k => by rw [spec_HavePut.l0, if_pos h1, specH, hh, Option.bind_some, if_pos rfl, if_pos h0, ha.rdS, if_neg g1, if_pos (by omega), hi]
theorem specP (l : List S28) (h : S28) (hfl : okH h = true → h.f3 ∈ [0, 1, 3, 15, 31, 64, 5]) : Ev (fun k => spec_HavePut.f k l h.f0 h.f1 h.f2 h.f3 h.f4) (havePut l h) := by
  unfold havePut spec_HavePut.f
  refine Ev.bd (specL l) ?_
  cases hk : okL l with
  | false => simp only [Bool.false_eq_true, if_false]; exact Ev.now _
  | true =>
    simp only [if_true]
    have e := specP_l0 l hk h hfl l 0 [] (At.zero l) (by simp)
    simp only [List.nil_append] at e
    cases hh : okH h with
    | true => simpa [hh] using e
    | false =>
      rw [okL_not _ h hh, if_neg (by simp)]
      rw [okL_not _ h hh, if_neg (by simp)] at e
      exact e
def purge (l : List S28) (n : Int) : List S28 := if okL l = true then l.filter (fun x => decide (n ≤ x.f2)) else []
theorem implPu_l0 (l : List S28) (hl : l.length ≤ 100) (n : Int) (s : List S28) : ∀ (i : Int) (acc : List S28), At l i s → (acc.length : Int) ≤ i →
    Ev (fun k => impl_Purge.l0 k n acc l (l.length : Int) i) (acc ++ s.filter (fun x => decide (n ≤ x.f2))) := by
  induction s with
  | nil => intro i acc ha _; exact Ev.stop fun k => by rw [impl_Purge.l0, if_neg (by have := ha.nil; omega)]; simp
  | cons x s ih =>
    intro i acc ha hacc
    obtain ⟨h1, _, h2⟩ := ha.cons
    have h0 := ha.1
    have hi : wrap64 (i + 1) = i + 1 := wrap_id (by omega) (by omega)
    by_cases g : x.f2 ≥ n
    · have e := ih (i + 1) (acc ++ [x]) h2 (by simp; omega)
      rw [List.filter_cons_of_pos (by simpa using g)]
      simp only [List.append_assoc, List.singleton_append] at e
      exact Ev.go e fun k => by rw [impl_Purge.l0, if_pos h1, if_pos h0, if_pos h1, ha.rdS, if_pos g, if_pos (by omega), hi]
    · rw [List.filter_cons_of_neg (by simpa using g)]
      exact Ev.go (ih (i + 1) acc h2 (by omega)) fun k => by rw [impl_Purge.l0, if_pos h1, if_pos h0, if_pos h1, ha.rdS, if_neg g, hi]
theorem implPu (l : List S28) (hl : l.length ≤ 100) (n : Int) : Ev (fun k => impl_Purge.f k l n) (purge l n) := by
  unfold purge impl_Purge.f
  simp only [implL, Option.bind_some]
  cases hk : okL l with
  | false => simp only [Bool.false_eq_true, if_false]; exact Ev.now _
  | true =>
    simp only [if_true]
    have e := implPu_l0 l hl n l 0 [] (At.zero l) (by simp)
    simpa using e
/-- What is drawn: a ticket whose flags are one of a few. -/
def FlH (h : S28) : Prop := h.f3 ∈ [0, 1, 3, 15, 31, 64, 5] ∨ okH h = false
theorem have_ev {b : List Int} {i : Int} (h : Int) (hs : St b i) : ∃ (x : S28) (i' h' : Int), spec_l26Have.f b i h = some (x.f0, x.f1, x.f2, x.f3, x.f4, i', h') ∧ FlH x ∧ St b i' := by
  obtain ⟨a, i1, h1, e1, _, _, _, _, s1⟩ := below_ev h 3 hs (by omega)
  obtain ⟨c, i2, h2, e2, _, _, _, _, s2⟩ := below_ev h1 20 s1 (by omega)
  obtain ⟨f, i3, h3, e3, hf, s3⟩ := pick_ev h2 [0, 1, 3, 15, 31, 64, 5] s2 (by simp) (by simp)
  obtain ⟨g, i4, h4, e4, _, _, _, _, s4⟩ := below_ev h3 40 s3 (by omega)
  obtain ⟨m, i5, h5, e5, _, _, _, _, s5⟩ := below_ev h4 30 s4 (by omega)
  obtain ⟨o, i6, h6, e6, s6⟩ := once_ev h5 15 s5 (by omega)
  unfold spec_l26Have.f
  simp only [e1, e2, e3, e4, e5, e6, Option.bind_some]
  cases o with
  | true =>
    obtain ⟨q, i7, h7, e7, _, _, _, _, s7⟩ := below_ev h6 3 s6 (by omega)
    simp only [if_true, e7, Option.bind_some]
    by_cases g1 : q = 0
    · rw [if_pos g1]; exact ⟨⟨_, _, _, _, _⟩, _, _, rfl, .inl hf, s7⟩
    · rw [if_neg g1]
      by_cases g2 : q = 1
      · rw [if_pos g2]; exact ⟨⟨_, _, _, 256, _⟩, _, _, rfl, .inr (by unfold okH inR; simp), s7⟩
      · rw [if_neg g2]; exact ⟨⟨100, _, _, _, _⟩, _, _, rfl, .inl hf, s7⟩
  | false =>
    simp only [Bool.false_eq_true, if_false]
    exact ⟨⟨_, _, _, _, _⟩, _, _, rfl, .inl hf, s6⟩
theorem FlH.to {h : S28} (hf : FlH h) : okH h = true → h.f3 ∈ [0, 1, 3, 15, 31, 64, 5] := by
  rcases hf with hf | hf
  · exact fun _ => hf
  · intro hh; rw [hf] at hh; simp at hh
theorem havePut_len (l : List S28) (h : S28) : (havePut l h).1.length ≤ 12 := by
  unfold havePut
  split
  · rename_i hk
    split
    · rename_i hk2; exact (okL_mem hk2).2
    · exact (okL_mem hk).2
  · simp
theorem some_l0 (b : List Int) (d : Nat) : ∀ (l : List S28) (n i h : Int), St b i → 0 ≤ n → n = d → n ≤ 100 → l.length ≤ 12 → ∃ l' i' h', Ev (fun k => spec_l26Some.l0 k l n b i h) (l', i', h') ∧ l'.length ≤ 13 ∧ St b i' := by
  induction d with
  | zero =>
    intro l n i h hs h0 hn hn2 hl
    obtain ⟨x, i1, h1, e1, hs1⟩ := once_ev h 12 hs (by omega)
    cases x with
    | true =>
      obtain ⟨y, i2, h2, e2, _, hs2⟩ := have_ev h1 hs1
      refine ⟨l ++ [y], i2, h2, Ev.stop fun k => ?_, by simp; omega, hs2⟩
      rw [spec_l26Some.l0, if_neg (by omega), e1, Option.bind_some, if_pos rfl, e2, Option.bind_some, if_pos (by omega)]
    | false =>
      refine ⟨l, i1, h1, Ev.stop fun k => ?_, by omega, hs1⟩
      rw [spec_l26Some.l0, if_neg (by omega), e1, Option.bind_some, if_neg (by simp)]
  | succ d ih =>
    intro l n i h hs h0 hn hn2 hl
    obtain ⟨y, i1, h1, e1, hf, hs1⟩ := have_ev h hs
    obtain ⟨l', i', h', e, hlen, hs'⟩ := ih (havePut l y).1 (n - 1) i1 h1 hs1 (by omega) (by omega) (by omega) (havePut_len l y)
    refine ⟨l', i', h', ?_, hlen, hs'⟩
    refine Ev.go (f := fun k => (spec_HavePut.f k l y.f0 y.f1 y.f2 y.f3 y.f4).bind fun p => spec_l26Some.l0 k p.1 (n - 1) b i1 h1) ?_ fun k => by
      rw [spec_l26Some.l0, if_pos (by omega), e1, Option.bind_some, wrap_id (x := n - 1) (by omega) (by omega)]
    exact Ev.bd (specP l y hf.to) e
theorem some_ev {b : List Int} {i : Int} (h : Int) (hs : St b i) : ∃ l i' h', Ev (fun k => spec_l26Some.f k b i h) (l, i', h') ∧ l.length ≤ 13 ∧ St b i' := by
  obtain ⟨x, i1, h1, e1, hx0, _, hx1, _, hs1⟩ := below_ev h 12 hs (by omega)
  have := hx1 (by omega)
  obtain ⟨l', i', h', e, hl, hs'⟩ := some_l0 b x.toNat [] x i1 h1 hs1 hx0 (by omega) (by omega) (by simp)
  exact ⟨l', i', h', Ev.fit e (funext fun k => by unfold spec_l26Some.f; rw [e1]; rfl), hl, hs'⟩
theorem drawB {b : List Int} (hb : (b.length : Int) ≤ 140737488351232) : ∃ l s n f, Ev (fun k => spec_DrawBest.f k b) (l, s, n, f) ∧ l.length ≤ 13 ∧ f ∈ [0, 0, 1, 2, 4, 256] := by
  obtain ⟨h0, e0⟩ := new_ev b hb
  obtain ⟨s, i1, h1, e1, _, _, _, _, s1⟩ := below_ev h0 3 (st_new hb) (by omega)
  obtain ⟨n, i2, h2, e2, _, _, _, _, s2⟩ := below_ev h1 50 s1 (by omega)
  obtain ⟨f, i3, h3, e3, hf, s3⟩ := pick_ev h2 [0, 0, 1, 2, 4, 256] s2 (by simp) (by simp)
  obtain ⟨l, i4, h4, e4, hl, _⟩ := some_ev h3 s3
  refine ⟨l, s, n, f, ?_, hl, hf⟩
  unfold spec_DrawBest.f
  refine Ev.bd e0 ?_
  simp only [e1, e2, e3, Option.bind_some]
  exact Ev.bd e4 (Ev.now _)
theorem drawHP {b : List Int} (hb : (b.length : Int) ≤ 140737488351232) : ∃ (l : List S28) (x : S28), Ev (fun k => spec_DrawHavePut.f k b) (l, x.f0, x.f1, x.f2, x.f3, x.f4) ∧ l.length ≤ 13 ∧ FlH x := by
  obtain ⟨h0, e0⟩ := new_ev b hb
  obtain ⟨x, i1, h1, e1, hf, s1⟩ := have_ev h0 (st_new hb)
  obtain ⟨l, i4, h4, e4, hl, _⟩ := some_ev h1 s1
  refine ⟨l, x, ?_, hl, hf⟩
  unfold spec_DrawHavePut.f
  refine Ev.bd e0 ?_
  simp only [e1, Option.bind_some]
  exact Ev.bd e4 (Ev.now _)
theorem drawPu {b : List Int} (hb : (b.length : Int) ≤ 140737488351232) : ∃ (l : List S28) (n : Int), Ev (fun k => spec_DrawPurge.f k b) (l, n) ∧ l.length ≤ 13 := by
  obtain ⟨h0, e0⟩ := new_ev b hb
  obtain ⟨n, i1, h1, e1, _, _, _, _, s1⟩ := below_ev h0 50 (st_new hb) (by omega)
  obtain ⟨l, i4, h4, e4, hl, _⟩ := some_ev h1 s1
  refine ⟨l, n, ?_, hl⟩
  unfold spec_DrawPurge.f
  refine Ev.bd e0 ?_
  simp only [e1, Option.bind_some]
  exact Ev.bd e4 (Ev.now _)
/-- The best one is the greatest: what is found, and what it is. -/
theorem fold_best (q : S28 → Bool) (l : List S28) : ∀ p : S28 × Bool, (p.2 = true → (l.foldl (pickB q) p).2 = true ∧ p.1.f2 ≤ (l.foldl (pickB q) p).1.f2) ∧ (∀ x ∈ l, q x = true → (l.foldl (pickB q) p).2 = true ∧ x.f2 ≤ (l.foldl (pickB q) p).1.f2) ∧ ((l.foldl (pickB q) p).2 = true → p.2 = true ∧ (l.foldl (pickB q) p).1 = p.1 ∨ (l.foldl (pickB q) p).1 ∈ l ∧ q (l.foldl (pickB q) p).1 = true) := by
  induction l with
  | nil => intro p; exact ⟨fun h => ⟨h, by simp⟩, fun x hx => by simp at hx, fun h => .inl ⟨h, rfl⟩⟩
  | cons y l ih =>
    intro p
    obtain ⟨i1, i2, i3⟩ := ih (pickB q p y)
    rw [List.foldl_cons]
    by_cases g : q y = true ∧ (p.2 = true → p.1.f2 < y.f2)
    · have e : pickB q p y = (y, true) := by unfold pickB; rw [if_pos g]
      rw [e] at i1 i2 i3 ⊢
      have j := i1 rfl
      simp only at j
      refine ⟨fun h => ⟨j.1, by have := g.2 h; omega⟩, fun x hx hq => ?_, fun h => ?_⟩
      · rcases List.mem_cons.1 hx with rfl | hx
        · exact j
        · exact i2 x hx hq
      · rcases i3 h with ⟨_, h2⟩ | ⟨h1, h2⟩
        · exact .inr ⟨by rw [h2]; simp, by rw [h2]; exact g.1⟩
        · exact .inr ⟨List.mem_cons_of_mem _ h1, h2⟩
    · have e : pickB q p y = p := by unfold pickB; rw [if_neg g]
      rw [e] at i1 i2 i3 ⊢
      refine ⟨i1, fun x hx hq => ?_, fun h => ?_⟩
      · rcases List.mem_cons.1 hx with rfl | hx
        · have hp : p.2 = true ∧ x.f2 ≤ p.1.f2 := by
            cases hp2 : p.2 with
            | true => refine ⟨rfl, ?_⟩; have : ¬ p.1.f2 < x.f2 := fun hh => g ⟨hq, fun _ => hh⟩; omega
            | false => exact absurd ⟨hq, fun hh => by rw [hp2] at hh; simp at hh⟩ g
          have := i1 hp.1
          exact ⟨this.1, by omega⟩
        · exact i2 x hx hq
      · rcases i3 h with h1 | ⟨h1, h2⟩
        · exact .inl h1
        · exact .inr ⟨List.mem_cons_of_mem _ h1, h2⟩
/-- What is put away for a new one was no better. -/
theorem put_better {m : List S28} {n : S28} (hp : (havePut m n).2 = true) (s : Int) (hi : inval n.f3 = true) (hw : (best m s n.f1 0).2 = true) :
    (best (havePut m n).1 s n.f1 0).2 = true ∧ (best m s n.f1 0).1.f2 ≤ (best (havePut m n).1 s n.f1 0).1.f2 := by
  have hk : okL m = true := by
    cases h : okL m with
    | true => rfl
    | false => unfold havePut at hp; rw [h, if_neg (by simp)] at hp; simp at hp
  have hk2 : okL (m.filter (keep n) ++ [n]) = true := by
    cases h : okL (m.filter (keep n) ++ [n]) with
    | true => rfl
    | false => unfold havePut at hp; rw [if_pos hk, h, if_neg (by simp)] at hp; simp at hp
  have hx : (havePut m n).1 = m.filter (keep n) ++ [n] := by unfold havePut; rw [if_pos hk, if_pos hk2]
  rw [hx]
  unfold best at hw ⊢
  rw [if_pos hk] at hw ⊢
  rw [if_pos hk2]
  obtain ⟨_, _, f3⟩ := fold_best (lives s n.f1 0) m (zH, false)
  obtain ⟨_, g2, _⟩ := fold_best (lives s n.f1 0) (m.filter (keep n) ++ [n]) (zH, false)
  rcases f3 hw with ⟨h, _⟩ | ⟨hm, hq⟩
  · simp at h
  · cases hkeep : keep n (m.foldl (pickB (lives s n.f1 0)) (zH, false)).1 with
    | true => exact g2 _ (List.mem_append_left _ (List.mem_filter.2 ⟨hm, hkeep⟩)) hq
    | false =>
      unfold keep at hkeep
      simp only [Bool.not_eq_false', Bool.and_eq_true, beq_iff_eq, decide_eq_true_eq] at hkeep
      have hn := okH_iff.1 ((okL_mem hk2).1 n (by simp))
      have hln : lives s n.f1 0 n = true := by
        unfold lives at hq ⊢
        simp only [Bool.and_eq_true, beq_iff_eq, decide_eq_true_eq] at hq ⊢
        refine ⟨by rw [← hkeep.1]; exact hq.1, inR_iff.2 ⟨by omega, hn.2.2.1.1⟩, hi, ?_⟩
        exact fin255 (p := fun a => Go.bits .and .i64 a 0 = 0) (by decide +kernel) hn.2.2.2.1.1 hn.2.2.2.1.2
      have := g2 n (by simp) hln
      exact ⟨this.1, by have := hkeep.2.1; omega⟩
theorem fold_filter (q r : S28 → Bool) (hqr : ∀ x, q x = true → r x = true) (l : List S28) : ∀ p, (l.filter r).foldl (pickB q) p = l.foldl (pickB q) p := by
  induction l with
  | nil => intro p; rfl
  | cons x l ih =>
    intro p
    cases h : r x with
    | true => rw [List.filter_cons_of_pos h, List.foldl_cons, List.foldl_cons]; exact ih _
    | false =>
      have hq : q x = false := by
        cases hq : q x with
        | false => rfl
        | true => rw [hqr x hq] at h; simp at h
      have : pickB q p x = p := by unfold pickB; rw [if_neg (by simp [hq])]
      rw [List.filter_cons_of_neg (by simp [h]), List.foldl_cons, this]; exact ih _
theorem purge_best (p : List S28) (s k fl : Int) : best (purge p k) s k fl = best p s k fl := by
  unfold purge
  cases hk : okL p with
  | false =>
    rw [if_neg (by simp)]
    have h1 : best p s k fl = (zH, false) := by unfold best; rw [hk, if_neg (by simp)]
    rw [h1]; rfl
  | true =>
    rw [if_pos rfl]
    unfold best
    rw [if_pos (okL_filter _ hk), if_pos hk]
    refine fold_filter _ _ (fun x hx => ?_) _ _
    unfold lives at hx
    simp only [Bool.and_eq_true, inR_iff] at hx
    simpa using hx.2.1.2
theorem purge_mem {p : List S28} {k : Int} {x : S28} (h : x ∈ purge p k) : k ≤ x.f2 := by
  unfold purge at h
  split at h
  · simpa using (List.mem_filter.1 h).2
  · simp at h
end Go.Proofs.Ytbgfkpagkhofpaa.PFnHaves
