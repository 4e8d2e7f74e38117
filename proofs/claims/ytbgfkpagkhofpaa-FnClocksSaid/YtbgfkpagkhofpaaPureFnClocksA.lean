/- The law FnClocks holds: clocks that are slewed come together and never go past, and those that agree are any two close: the plain part, on numbers and lists. -/
import Derived.Test.YtbgfkpagkhofpaaPFnClocksx0
import Derived.Test.YtbgfkpagkhofpaaPFnClocksx1
import Derived.Test.YtbgfkpagkhofpaaPFnClocksx2
import Derived.Test.YtbgfkpagkhofpaaPFnClocksx3
import Derived.Test.YtbgfkpagkhofpaaPFnClocksx4
import Derived.Test.YtbgfkpagkhofpaaPFnClocksx5
set_option linter.unusedVariables false
/- Draws: a byte is from 0 to 255, what is drawn below n is below n; the place in the code stays in it. -/
namespace Go.Proofs.Ytbgfkpagkhofpaa.PFnClocks
open Go.RowKit Go.Proofs.YtbgfkpagkhofpaaW.PrintWords Go.Proofs.YtbgfkpagkhofpaaW.PrintLast
/-- The cursor stands in the code. -/
def St (b : List Int) (i : Int) : Prop := 0 ≤ i ∧ i ≤ (b.length : Int) ∧ (b.length : Int) ≤ 140737488351232
theorem wrap_id {x : Int} (h0 : -9223372036854775808 ≤ x) (h1 : x ≤ 9223372036854775807) : wrap64 x = x := by unfold wrap64; omega
theorem and_low (x : Int) (m : Nat) (hm : m ≤ 1073741823) : 0 ≤ Go.bits .and .i64 x m ∧ Go.bits .and .i64 x m ≤ m := by
  have hk : IntKind.i64.bits = 64 := rfl
  have h : Go.bits .and .i64 x m = IntKind.i64.wrap (((BitVec.ofInt 64 x).toNat &&& m : Nat) : Int) := by
    simp only [Go.bits, BitVec.toNat_and, hk, BitVec.ofInt_natCast, BitVec.toNat_ofNat]
    rw [Nat.mod_eq_of_lt (a := m) (by omega)]
    rfl
  have h1 : (BitVec.ofInt 64 x).toNat &&& m ≤ m := Nat.and_le_right
  rw [h, IntKind.wrap_i64]
  omega
theorem and255 (x : Int) : 0 ≤ Go.bits .and .i64 x 255 ∧ Go.bits .and .i64 x 255 ≤ 255 := and_low x 255 (by omega)
theorem byte_ev {b : List Int} {i : Int} (h : Int) (hs : St b i) : ∃ x i' h', spec_l1Byte.f b i h = some (x, i', h') ∧ 0 ≤ x ∧ x ≤ 255 ∧ St b i' := by
  obtain ⟨h0, h1, h2⟩ := hs
  unfold spec_l1Byte.f
  by_cases c : i < (b.length : Int)
  · rw [if_pos c, if_pos h0]
    exact ⟨_, _, _, rfl, (and255 _).1, (and255 _).2, by rw [wrap_id (by omega) (by omega)]; exact ⟨by omega, by omega, h2⟩⟩
  · rw [if_neg c]
    exact ⟨_, _, _, rfl, (and255 _).1, (and255 _).2, h0, h1, h2⟩
theorem below_ev {b : List Int} {i : Int} (h n : Int) (hs : St b i) (hn : n ≤ 256) : ∃ x i' h', spec_l1Below.f b i h n = some (x, i', h') ∧ 0 ≤ x ∧ x ≤ 255 ∧ (0 < n → x < n) ∧ (n ≤ 0 → x = 0) ∧ St b i' := by
  unfold spec_l1Below.f
  by_cases c : n ≤ 0
  · rw [if_pos c]; exact ⟨_, _, _, rfl, by omega, by omega, by omega, fun _ => rfl, hs⟩
  · rw [if_neg c, if_pos hn]
    obtain ⟨x, i', h', he, h0, h1, h2⟩ := byte_ev h hs
    rw [he]
    simp only [Option.bind_some]
    rw [if_neg (by omega)]
    have e : Int.tmod x n = x % n := Int.tmod_eq_emod_of_nonneg h0
    have e1 := Int.emod_nonneg x (show n ≠ 0 by omega)
    have e2 := Int.emod_lt_of_pos x (show 0 < n by omega)
    exact ⟨_, _, _, rfl, by omega, by omega, by omega, by omega, h2⟩
theorem once_ev {b : List Int} {i : Int} (h n : Int) (hs : St b i) (hn : n ≤ 256) : ∃ x i' h', spec_l1Once.f b i h n = some (x, i', h') ∧ St b i' := by
  obtain ⟨x, i', h', he, _, _, _, _, h2⟩ := below_ev h n hs hn
  unfold spec_l1Once.f
  rw [he]
  exact ⟨_, _, _, rfl, h2⟩
theorem rd_mem {l : List Int} {i : Int} (h0 : 0 ≤ i) (h1 : i < (l.length : Int)) : rd l i ∈ l := by
  unfold rd
  have : i.toNat < l.length := by omega
  rw [List.getD_eq_getElem?_getD, List.getElem?_eq_getElem this]
  exact List.getElem_mem this
theorem pick_ev {b : List Int} {i : Int} (h : Int) (l : List Int) (hs : St b i) (hl : 0 < l.length) (hn : l.length ≤ 256) : ∃ x i' h', spec_l1PickInt.f b i h l = some (x, i', h') ∧ x ∈ l ∧ St b i' := by
  obtain ⟨x, i', h', he, h0, _, h1, _, h2⟩ := below_ev h l.length hs (by omega)
  unfold spec_l1PickInt.f
  rw [he]
  simp only [Option.bind_some]
  rw [if_pos h0, if_pos (h1 (by omega))]
  exact ⟨_, _, _, rfl, rd_mem h0 (h1 (by omega)), h2⟩
theorem new_l0 (b : List Int) (hb : (b.length : Int) ≤ 140737488351232) (d : Nat) : ∀ (h i : Int), 0 ≤ i → i ≤ b.length → (b.length : Int) - i = d → ∃ h', Ev (fun k => spec_l1New.l0 k b h i) (b, 0, h') := by
  induction d with
  | zero =>
    intro h i h0 h1 hd
    exact ⟨h, Ev.step (fun k => by rw [spec_l1New.l0, if_neg (by omega)]) (Ev.now _)⟩
  | succ d ih =>
    intro h i h0 h1 hd
    by_cases c : i < 4000
    · obtain ⟨h', e⟩ := ih (Go.bits .and .i64 (wrap64 ((wrap64 ((wrap64 (h * 131)) + (wrap64 (rd b i)))) + 7)) 1073741823) (i + 1) (by omega) (by omega) (by omega)
      refine ⟨h', Ev.step (fun k => ?_) e⟩
      rw [spec_l1New.l0, if_pos (by omega), if_pos c, if_pos h0, wrap_id (x := i + 1) (by omega) (by omega)]
    · exact ⟨h, Ev.step (fun k => by rw [spec_l1New.l0, if_pos (by omega), if_neg c]) (Ev.now _)⟩
theorem new_ev (b : List Int) (hb : (b.length : Int) ≤ 140737488351232) : ∃ h', Ev (fun k => spec_l1New.f k b) (b, 0, h') := by
  obtain ⟨h', e⟩ := new_l0 b hb b.length (wrap64 (10101 + (b.length : Int))) 0 (by omega) (by omega) (by omega)
  exact ⟨h', Ev.congr (fun k => rfl) e⟩
theorem st_new {b : List Int} (hb : (b.length : Int) ≤ 140737488351232) : St b 0 := ⟨by omega, by omega, hb⟩
end Go.Proofs.Ytbgfkpagkhofpaa.PFnClocks

/- Lists and places: what stands behind a place, element by element. -/
namespace Go.Proofs.Ytbgfkpagkhofpaa.PFnClocks
open Go.RowKit Go.Proofs.YtbgfkpagkhofpaaW.PrintWords Go.Proofs.YtbgfkpagkhofpaaW.PrintLast
theorem rd_def (l : List Int) (i : Int) : rd l i = l.getD i.toNat 0 := rfl
/-- The suffix of a list at a place. -/
def At {α : Type} (l : List α) (i : Int) (s : List α) : Prop := 0 ≤ i ∧ i ≤ (l.length : Int) ∧ l.drop i.toNat = s
theorem At.zero {α : Type} (l : List α) : At l 0 l := ⟨by omega, by omega, rfl⟩
theorem At.nil {α : Type} {l : List α} {i : Int} (h : At l i []) : i = (l.length : Int) := by
  obtain ⟨h0, h1, h2⟩ := h
  have := congrArg List.length h2
  simp at this
  omega
theorem At.cons {α : Type} {l : List α} {i : Int} {x : α} {s : List α} (h : At l i (x :: s)) : i < (l.length : Int) ∧ l[i.toNat]? = some x ∧ At l (i + 1) s := by
  obtain ⟨h0, h1, h2⟩ := h
  have hl := congrArg List.length h2
  simp at hl
  have e : (i + 1).toNat = i.toNat + 1 := by omega
  refine ⟨by omega, ?_, by omega, by omega, ?_⟩
  · have := congrArg (·[0]?) h2
    simpa using this
  · rw [e, ← List.drop_drop, h2]; rfl
theorem At.len {α : Type} {l : List α} {i : Int} {s : List α} (h : At l i s) : (s.length : Int) = l.length - i := by
  obtain ⟨h0, h1, h2⟩ := h
  rw [← h2, List.length_drop]
  omega
theorem At.mem {α : Type} {l : List α} {i : Int} {x : α} {s : List α} (h : At l i (x :: s)) : x ∈ l := List.mem_of_getElem? h.cons.2.1
theorem At.rdv {l : List Int} {i x : Int} {s : List Int} (h : At l i (x :: s)) : rd l i = x := by
  have := h.cons.2.1
  rw [rd_def, List.getD_eq_getElem?_getD, this]
  rfl
theorem At.of {α : Type} (l : List α) {i : Int} (h0 : 0 ≤ i) (h1 : i ≤ l.length) : ∃ s, At l i s := ⟨_, h0, h1, rfl⟩
theorem rd_of_get {l : List Int} {i : Int} {x : Int} (h : l[i.toNat]? = some x) : rd l i = x := by
  rw [rd_def, List.getD_eq_getElem?_getD, h]
  rfl
theorem get_of_rd {l : List Int} {i : Int} (h0 : 0 ≤ i) (h1 : i < (l.length : Int)) : l[i.toNat]? = some (rd l i) := by
  have : i.toNat < l.length := by omega
  rw [rd_def, List.getD_eq_getElem?_getD, List.getElem?_eq_getElem this]
  rfl
/-- One round of a loop, told as what it comes to. -/
theorem Ev.go {α : Type} {g f : Nat → Option α} {r : α} (k : Ev f r) (h : ∀ n, g (n + 1) = f n) : Ev g r := Ev.step h k
theorem Ev.val {α : Type} {g : Nat → Option α} {r : α} (h : ∀ n, g n = some r) : Ev g r := ⟨0, fun n _ => h n⟩
theorem Ev.stop {α : Type} {g : Nat → Option α} {r : α} (h : ∀ n, g (n + 1) = some r) : Ev g r := Ev.step (f := fun _ => some r) h (Ev.now r)
/-- What goes before is known. -/
theorem Ev.bd {α β : Type} {g : Nat → Option α} {f : Nat → α → Option β} {a : α} {r : β} (h : Ev g a) (k : Ev (fun n => f n a) r) : Ev (fun n => (g n).bind (fun x => f n x)) r := Ev.bind h k
theorem Ev.fit {α : Type} {g f : Nat → Option α} {r : α} (k : Ev f r) (h : g = f) : Ev g r := h ▸ k
theorem Ev.same {α : Type} {g : Nat → Option α} {r q : α} (h : Ev g r) (k : Ev g q) : r = q := by
  obtain ⟨K, h⟩ := h
  obtain ⟨K', k⟩ := k
  have := (h (max K K') (by omega)).symm.trans (k (max K K') (by omega))
  injection this
end Go.Proofs.Ytbgfkpagkhofpaa.PFnClocks

/- Clocks: what each function comes to. -/
namespace Go.Proofs.Ytbgfkpagkhofpaa.PFnClocks
open Go.RowKit Go.Proofs.YtbgfkpagkhofpaaW.PrintWords Go.Proofs.YtbgfkpagkhofpaaW.PrintLast
def okC (c : List Int) : Bool := c.all (inB (-1000) 1000) && decide ((c.length : Int) ≤ 8)
theorem okC_iff {c : List Int} : okC c = true ↔ (∀ x ∈ c, -1000 ≤ x ∧ x ≤ 1000) ∧ c.length ≤ 8 := by
  unfold okC inB
  simp only [Bool.and_eq_true, List.all_eq_true, decide_eq_true_eq]
  constructor
  · rintro ⟨h1, h2⟩; exact ⟨h1, by omega⟩
  · rintro ⟨h1, h2⟩; exact ⟨h1, by omega⟩
theorem specIn_eq (n lo hi : Int) : spec_l1In.f n lo hi = some (inB lo hi n) := by
  unfold spec_l1In.f inB
  by_cases h : n ≥ lo
  · rw [if_pos h]; simp [h]
  · rw [if_neg h]; simp [h]
theorem specOk_l0 (c : List Int) (hc : c.length ≤ 8) (s : List Int) : ∀ i, At c i s → Ev (fun k => spec_ClocksOk.l0 k c i) (s.all (inB (-1000) 1000)) := by
  induction s with
  | nil =>
    intro i h
    exact Ev.stop fun k => by rw [spec_ClocksOk.l0, if_neg (by have := h.nil; omega)]; rfl
  | cons x s ih =>
    intro i h
    obtain ⟨h1, _, h2⟩ := h.cons
    have h0 := h.1
    cases hx : inB (-1000) 1000 x with
    | true =>
      have e := ih _ h2
      rw [List.all_cons, hx, Bool.true_and]
      exact Ev.go e fun k => by rw [spec_ClocksOk.l0, if_pos h1, if_pos h0, h.rdv, specIn_eq, hx, Option.bind_some, if_pos rfl, wrap_id (by omega) (by omega)]
    | false =>
      rw [List.all_cons, hx, Bool.false_and]
      exact Ev.stop fun k => by rw [spec_ClocksOk.l0, if_pos h1, if_pos h0, h.rdv, specIn_eq, hx, Option.bind_some, if_neg (by simp)]
theorem specOk_ev (c : List Int) : Ev (fun k => spec_ClocksOk.f k c) (okC c) := by
  by_cases h : (c.length : Int) > 8
  · have : okC c = false := by unfold okC; rw [decide_eq_false (by omega), Bool.and_false]
    rw [this]
    exact Ev.val fun k => by unfold spec_ClocksOk.f; rw [if_pos h]
  · have : okC c = c.all (inB (-1000) 1000) := by unfold okC; rw [decide_eq_true (by omega), Bool.and_true]
    rw [this]
    exact Ev.fit (specOk_l0 c (by omega) c 0 (At.zero c)) (funext fun k => by unfold spec_ClocksOk.f; rw [if_neg h])
theorem implOk (c : List Int) : impl_ClocksOk.f c = some (okC c) := rfl
/-- The places from i on whose clocks are at least low, and no more than skew above. -/
def setL (skew low : Int) : List Int → Int → List Int
  | [], _ => []
  | x :: xs, i => if low ≤ x ∧ x - low ≤ skew then i :: setL skew low xs (i + 1) else setL skew low xs (i + 1)
theorem setL_len (skew low : Int) : ∀ (s : List Int) (i : Int), (setL skew low s i).length ≤ s.length
  | [], _ => by simp [setL]
  | x :: xs, i => by
    have := setL_len skew low xs (i + 1)
    unfold setL
    split <;> simp <;> omega
def stepA (c : List Int) (skew : Int) (p : List Int × Int) (low : Int) : List Int × Int :=
  if (setL skew low c 0).length > p.1.length ∨ (setL skew low c 0).length = p.1.length ∧ low < p.2 then (setL skew low c 0, low) else p
def agree (c : List Int) (skew : Int) : List Int := if okC c = true ∧ 0 ≤ skew then (c.foldl (stepA c skew) ([], 0)).1 else []
theorem wsub {c : List Int} (hc : ∀ x ∈ c, -1000 ≤ x ∧ x ≤ 1000) {x y : Int} (hx : x ∈ c) (hy : y ∈ c) : wrap64 (x - y) = x - y := by
  have := hc x hx
  have := hc y hy
  exact wrap_id (by omega) (by omega)
theorem implA_l1 {c : List Int} (hc : ∀ x ∈ c, -1000 ≤ x ∧ x ≤ 1000) (hl : c.length ≤ 8) (skew : Int) (best : List Int) (lowest low : Int) (hlow : low ∈ c) (o : Int) (r : List Int) (s : List Int) :
    ∀ (i : Int) (acc : List Int), At c i s → (acc.length : Int) ≤ i →
    Ev (fun k => if ((acc ++ setL skew low s i).length : Int) > (best.length : Int) then impl_Agree.l0 k c skew (acc ++ setL skew low s i) low c (c.length : Int) (wrap64 (o + 1)) else if ((acc ++ setL skew low s i).length : Int) = (best.length : Int) then (if low < lowest then impl_Agree.l0 k c skew (acc ++ setL skew low s i) low c (c.length : Int) (wrap64 (o + 1)) else impl_Agree.l0 k c skew best lowest c (c.length : Int) (wrap64 (o + 1))) else impl_Agree.l0 k c skew best lowest c (c.length : Int) (wrap64 (o + 1))) r →
    Ev (fun k => impl_Agree.l1 k c skew best lowest low acc c (c.length : Int) o c (c.length : Int) i) r := by
  induction s with
  | nil =>
    intro i acc h hacc e
    simp only [setL, List.append_nil] at e
    exact Ev.go e fun k => by rw [impl_Agree.l1, if_neg (by have := h.nil; omega)]
  | cons x s ih =>
    intro i acc h hacc e
    obtain ⟨h1, _, h2⟩ := h.cons
    have h0 := h.1
    have hw := wsub hc h.mem hlow
    have hi : wrap64 (i + 1) = i + 1 := wrap_id (by omega) (by omega)
    by_cases c1 : x ≥ low
    · by_cases c2 : x - low ≤ skew
      · have e1 : acc ++ setL skew low (x :: s) i = (acc ++ [i]) ++ setL skew low s (i + 1) := by
          rw [setL, if_pos ⟨c1, c2⟩, List.append_assoc]; rfl
        rw [e1] at e
        refine Ev.go (ih (i + 1) (acc ++ [i]) h2 (by simp; omega) e) fun k => ?_
        rw [impl_Agree.l1, if_pos h1, if_pos h0, if_pos h1, h.rdv, if_pos c1, hw, if_pos c2, if_pos (by omega), hi]
      · have e1 : setL skew low (x :: s) i = setL skew low s (i + 1) := by rw [setL, if_neg (by omega)]
        rw [e1] at e
        refine Ev.go (ih (i + 1) acc h2 (by omega) e) fun k => ?_
        rw [impl_Agree.l1, if_pos h1, if_pos h0, if_pos h1, h.rdv, if_pos c1, hw, if_neg c2, hi]
    · have e1 : setL skew low (x :: s) i = setL skew low s (i + 1) := by rw [setL, if_neg (by omega)]
      rw [e1] at e
      refine Ev.go (ih (i + 1) acc h2 (by omega) e) fun k => ?_
      rw [impl_Agree.l1, if_pos h1, if_pos h0, if_pos h1, h.rdv, if_neg c1, hi]
theorem implA_l0 {c : List Int} (hc : ∀ x ∈ c, -1000 ≤ x ∧ x ≤ 1000) (hl : c.length ≤ 8) (skew : Int) (s : List Int) :
    ∀ (o : Int) (best : List Int) (lowest : Int), At c o s → Ev (fun k => impl_Agree.l0 k c skew best lowest c (c.length : Int) o) (s.foldl (stepA c skew) (best, lowest)).1 := by
  induction s with
  | nil =>
    intro o best lowest h
    exact Ev.stop fun k => by rw [impl_Agree.l0, if_neg (by have := h.nil; omega)]; rfl
  | cons x s ih =>
    intro o best lowest h
    obtain ⟨h1, _, h2⟩ := h.cons
    have h0 := h.1
    have ho : wrap64 (o + 1) = o + 1 := wrap_id (by omega) (by omega)
    have e := implA_l1 hc hl skew best lowest x h.mem o ((x :: s).foldl (stepA c skew) (best, lowest)).1 c 0 [] (At.zero c) (by simp) (by
      simp only [List.nil_append, ho, List.foldl_cons]
      unfold stepA
      by_cases g1 : ((setL skew x c 0).length : Int) > best.length
      · simp only [if_pos g1]
        rw [if_pos (.inl (by omega))]
        exact ih _ _ _ h2
      · simp only [if_neg g1]
        by_cases g2 : ((setL skew x c 0).length : Int) = best.length
        · simp only [if_pos g2]
          by_cases g3 : x < lowest
          · simp only [if_pos g3]
            rw [if_pos (.inr ⟨by omega, g3⟩)]
            exact ih _ _ _ h2
          · simp only [if_neg g3]
            rw [if_neg (by omega)]
            exact ih _ _ _ h2
        · simp only [if_neg g2]
          rw [if_neg (by omega)]
          exact ih _ _ _ h2)
    exact Ev.go e fun k => by rw [impl_Agree.l0, if_pos h1, if_pos h0, if_pos h1, h.rdv]
theorem implA (c : List Int) (skew : Int) : Ev (fun k => impl_Agree.f k c skew) (agree c skew) := by
  unfold agree impl_Agree.f
  simp only [implOk, Option.bind_some]
  cases hk : okC c with
  | true =>
    simp only [if_true]
    by_cases hs : skew < 0
    · rw [if_neg (by omega)]
      simp only [decide_eq_true hs]
      exact Ev.stop fun k => by rw [impl_Agree.j0, if_pos rfl]
    · rw [if_pos (by simp; omega)]
      simp only [decide_eq_false hs]
      obtain ⟨hc, hl⟩ := okC_iff.1 hk
      exact Ev.go (implA_l0 hc hl skew c 0 [] 0 (At.zero c)) fun k => by rw [impl_Agree.j0, if_neg (by simp)]
  | false =>
    rw [if_neg (by simp)]
    simp only [Bool.false_eq_true, if_false]
    exact Ev.stop fun k => by rw [impl_Agree.j0, if_pos rfl]
end Go.Proofs.Ytbgfkpagkhofpaa.PFnClocks

/- Clocks: the reference's side, and what is slewed. -/
namespace Go.Proofs.Ytbgfkpagkhofpaa.PFnClocks
open Go.RowKit Go.Proofs.YtbgfkpagkhofpaaW.PrintWords Go.Proofs.YtbgfkpagkhofpaaW.PrintLast
theorem specA_l1 {c : List Int} (hc : ∀ x ∈ c, -1000 ≤ x ∧ x ≤ 1000) (hl : c.length ≤ 8) (skew : Int) (best : List Int) (lowest low o : Int) (ho0 : 0 ≤ o) (ho1 : o < (c.length : Int)) (hlow : rd c o = low) (hm : low ∈ c) (r : List Int) (s : List Int) :
    ∀ (i : Int) (acc : List Int), At c i s → (acc.length : Int) ≤ i →
    Ev (fun k => if ((acc ++ setL skew low s i).length : Int) > (best.length : Int) then spec_Agree.l0 k c skew (acc ++ setL skew low s i) low (wrap64 (o + 1)) else if ((acc ++ setL skew low s i).length : Int) = (best.length : Int) then (if low < lowest then spec_Agree.l0 k c skew (acc ++ setL skew low s i) low (wrap64 (o + 1)) else spec_Agree.l0 k c skew best lowest (wrap64 (o + 1))) else spec_Agree.l0 k c skew best lowest (wrap64 (o + 1))) r →
    Ev (fun k => spec_Agree.l1 k c skew best lowest o acc i) r := by
  induction s with
  | nil =>
    intro i acc h hacc e
    simp only [setL, List.append_nil] at e
    exact Ev.go e fun k => by rw [spec_Agree.l1, if_neg (by have := h.nil; omega)]; simp only [if_pos ho0, if_pos ho1, hlow]
  | cons x s ih =>
    intro i acc h hacc e
    obtain ⟨h1, _, h2⟩ := h.cons
    have h0 := h.1
    have hw := wsub hc h.mem hm
    have hi : wrap64 (i + 1) = i + 1 := wrap_id (by omega) (by omega)
    by_cases c1 : x ≥ low
    · by_cases c2 : x - low ≤ skew
      · have e1 : acc ++ setL skew low (x :: s) i = (acc ++ [i]) ++ setL skew low s (i + 1) := by
          rw [setL, if_pos ⟨c1, c2⟩, List.append_assoc]; rfl
        rw [e1] at e
        refine Ev.go (ih (i + 1) (acc ++ [i]) h2 (by simp; omega) e) fun k => ?_
        rw [spec_Agree.l1, if_pos h1, if_pos h0, if_pos ho0, if_pos ho1, h.rdv, hlow, if_pos c1, hw, if_pos c2, if_pos (by omega), hi]
      · have e1 : setL skew low (x :: s) i = setL skew low s (i + 1) := by rw [setL, if_neg (by omega)]
        rw [e1] at e
        refine Ev.go (ih (i + 1) acc h2 (by omega) e) fun k => ?_
        rw [spec_Agree.l1, if_pos h1, if_pos h0, if_pos ho0, if_pos ho1, h.rdv, hlow, if_pos c1, hw, if_neg c2, hi]
    · have e1 : setL skew low (x :: s) i = setL skew low s (i + 1) := by rw [setL, if_neg (by omega)]
      rw [e1] at e
      refine Ev.go (ih (i + 1) acc h2 (by omega) e) fun k => ?_
      rw [spec_Agree.l1, if_pos h1, if_pos h0, if_pos ho0, if_pos ho1, h.rdv, hlow, if_neg c1, hi]
theorem specA_l0 {c : List Int} (hc : ∀ x ∈ c, -1000 ≤ x ∧ x ≤ 1000) (hl : c.length ≤ 8) (skew : Int) (s : List Int) :
    ∀ (o : Int) (best : List Int) (lowest : Int), At c o s → Ev (fun k => spec_Agree.l0 k c skew best lowest o) (s.foldl (stepA c skew) (best, lowest)).1 := by
  induction s with
  | nil =>
    intro o best lowest h
    exact Ev.stop fun k => by rw [spec_Agree.l0, if_neg (by have := h.nil; omega)]; rfl
  | cons x s ih =>
    intro o best lowest h
    obtain ⟨h1, _, h2⟩ := h.cons
    have h0 := h.1
    have ho : wrap64 (o + 1) = o + 1 := wrap_id (by omega) (by omega)
    have e := specA_l1 hc hl skew best lowest x o h0 h1 h.rdv h.mem ((x :: s).foldl (stepA c skew) (best, lowest)).1 c 0 [] (At.zero c) (by simp) (by
      simp only [List.nil_append, ho, List.foldl_cons]
      unfold stepA
      by_cases g1 : ((setL skew x c 0).length : Int) > best.length
      · simp only [if_pos g1]
        rw [if_pos (.inl (by omega))]
        exact ih _ _ _ h2
      · simp only [if_neg g1]
        by_cases g2 : ((setL skew x c 0).length : Int) = best.length
        · simp only [if_pos g2]
          by_cases g3 : x < lowest
          · simp only [if_pos g3]
            rw [if_pos (.inr ⟨by omega, g3⟩)]
            exact ih _ _ _ h2
          · simp only [if_neg g3]
            rw [if_neg (by omega)]
            exact ih _ _ _ h2
        · simp only [if_neg g2]
          rw [if_neg (by omega)]
          exact ih _ _ _ h2)
    exact Ev.go e fun k => by rw [spec_Agree.l0, if_pos h1]
theorem specA (c : List Int) (skew : Int) : Ev (fun k => spec_Agree.f k c skew) (agree c skew) := by
  unfold agree spec_Agree.f
  simp only [Option.bind_some]
  refine Ev.bd (specOk_ev c) ?_
  cases hk : okC c with
  | true =>
    simp only [if_true]
    by_cases hs : skew < 0
    · rw [if_neg (by omega)]
      simp only [decide_eq_true hs]
      exact Ev.stop fun k => by rw [spec_Agree.j0, if_pos rfl]
    · rw [if_pos (by simp; omega)]
      simp only [decide_eq_false hs]
      obtain ⟨hc, hl⟩ := okC_iff.1 hk
      exact Ev.go (specA_l0 hc hl skew c 0 [] 0 (At.zero c)) fun k => by rw [spec_Agree.j0, if_neg (by simp)]
  | false =>
    rw [if_neg (by simp)]
    simp only [Bool.false_eq_true, if_false]
    exact Ev.stop fun k => by rw [spec_Agree.j0, if_pos rfl]
theorem same_l0 (l : List Int) (hl : (l.length : Int) ≤ 140737488351232) (s : List Int) : ∀ i, At l i s → Ev (fun k => laws_sameInts.l0 k l l i) true := by
  induction s with
  | nil =>
    intro i h
    exact Ev.stop fun k => by rw [laws_sameInts.l0, if_neg (by have := h.nil; omega)]
  | cons x s ih =>
    intro i h
    obtain ⟨h1, _, h2⟩ := h.cons
    have h0 := h.1
    exact Ev.go (ih _ h2) fun k => by rw [laws_sameInts.l0, if_pos h1, if_pos h0, if_pos h1, if_pos rfl, wrap_id (by omega) (by omega)]
theorem same_ev (l : List Int) (hl : (l.length : Int) ≤ 140737488351232) : Ev (fun k => laws_sameInts.f k l l) true :=
  Ev.fit (same_l0 l hl l 0 (At.zero l)) (funext fun k => by unfold laws_sameInts.f; rw [if_pos rfl])
def slew1 (x most : Int) : Int := if x > most then x - most else if -x > most then x + most else 0
def slew (c : List Int) (i most : Int) : List Int := if okC c = true then (if 0 ≤ i ∧ i < c.length ∧ 0 ≤ most then c.set i.toNat (slew1 (rd c i) most) else c) else []
theorem within_in (n lo hi : Int) : impl_within.f n lo hi = some (inB lo hi n) := impl_within.inB n lo hi
theorem implS (c : List Int) (i most : Int) : Ev (fun k => impl_Slew.f k c i most) (slew c i most) := by
  unfold slew impl_Slew.f
  simp only [implOk, Option.bind_some]
  cases hk : okC c with
  | false =>
    simp only [Bool.false_eq_true, if_false]
    exact Ev.now _
  | true =>
    simp only [if_true]
    obtain ⟨hc, hl⟩ := okC_iff.1 hk
    have hcp : impl_copyInts.f c = some c := by unfold impl_copyInts.f; rw [if_pos (by simp; omega)]; rfl
    simp only [hcp, Option.bind_some, within_in, wrap_id (x := (c.length : Int) - 1) (by omega) (by omega)]
    by_cases hi : 0 ≤ i ∧ i < c.length
    · have hin : inB 0 ((c.length : Int) - 1) i = true := by unfold inB; simp; omega
      simp only [hin, if_true]
      by_cases hm : most < 0
      · rw [if_neg (by omega)]
        simp only [decide_eq_true hm]
        exact Ev.stop fun k => by rw [impl_Slew.j0, if_pos rfl]
      · rw [if_pos ⟨hi.1, hi.2, by omega⟩]
        simp only [decide_eq_false hm]
        have hx := hc _ (rd_mem hi.1 hi.2)
        refine Ev.stop fun k => ?_
        rw [impl_Slew.j0, if_neg (by simp), if_pos hi.1, if_pos hi.2]
        unfold slew1
        by_cases g1 : rd c i > most
        · rw [if_pos g1, if_pos g1, wrap_id (by omega) (by omega)]
        · rw [if_neg g1, if_neg g1, wrap_id (x := -rd c i) (by omega) (by omega)]
          by_cases g2 : -rd c i > most
          · rw [if_pos g2, if_pos g2, wrap_id (by omega) (by omega)]
          · rw [if_neg g2, if_neg g2]
    · have hin : inB 0 ((c.length : Int) - 1) i = false := by unfold inB; simp; omega
      simp only [hin, Bool.false_eq_true, if_false]
      rw [if_neg (by omega)]
      exact Ev.stop fun k => by rw [impl_Slew.j0, if_pos rfl]
theorem specS (c : List Int) (i most : Int) : Ev (fun k => spec_Slew.f k c i most) (slew c i most) := by
  unfold slew spec_Slew.f
  refine Ev.bd (specOk_ev c) ?_
  cases hk : okC c with
  | false =>
    simp only [Bool.false_eq_true, if_false]
    exact Ev.now _
  | true =>
    simp only [if_true, Option.bind_some]
    obtain ⟨hc, hl⟩ := okC_iff.1 hk
    simp only [if_pos (show ([] : List Int).length + c.length < 17592186044416 by simp; omega), List.nil_append]
    by_cases h1 : i < 0
    · rw [if_neg (by omega)]
      simp only [if_pos h1]
      exact Ev.stop fun k => by rw [spec_Slew.j0, if_pos rfl]
    · by_cases h2 : i ≥ c.length
      · rw [if_neg (by omega)]
        simp only [if_neg h1, if_pos h2]
        exact Ev.stop fun k => by rw [spec_Slew.j0, if_pos rfl]
      · simp only [if_neg h1, if_neg h2]
        by_cases hm : most < 0
        · rw [if_neg (by omega)]
          simp only [decide_eq_true hm]
          exact Ev.stop fun k => by rw [spec_Slew.j0, if_pos rfl]
        · rw [if_pos ⟨by omega, by omega, by omega⟩]
          simp only [decide_eq_false hm]
          have hx := hc _ (rd_mem (l := c) (i := i) (by omega) (by omega))
          refine Ev.stop fun k => ?_
          rw [spec_Slew.j0, if_neg (by simp), if_pos (by omega), if_pos (by omega)]
          unfold slew1
          by_cases g1 : rd c i > most
          · rw [if_pos g1, if_pos g1, if_pos (by omega), wrap_id (by omega) (by omega)]
          · rw [if_neg g1, if_neg g1, wrap_id (x := -rd c i) (by omega) (by omega)]
            by_cases g2 : -rd c i > most
            · rw [if_pos g2, if_pos g2, if_pos (by omega), wrap_id (by omega) (by omega)]
            · rw [if_neg g2, if_neg g2, if_pos (by omega)]
def mxl (l : List Int) (x : Int) : Int := l.foldl mx x
def mnl (l : List Int) (x : Int) : Int := l.foldl mn x
def spread (c : List Int) : Int := if okC c = true ∧ c ≠ [] then mxl c (rd c 0) - mnl c (rd c 0) else 0
theorem mx_def (a b : Int) : mx a b = if a < b then b else a := rfl
theorem mn_def (a b : Int) : mn a b = if b < a then b else a := rfl
theorem mxl_le (l : List Int) : ∀ x, -1000 ≤ x → x ≤ 1000 → (∀ y ∈ l, -1000 ≤ y ∧ y ≤ 1000) → -1000 ≤ mxl l x ∧ mxl l x ≤ 1000 := by
  induction l with
  | nil => intro x h0 h1 _; exact ⟨h0, h1⟩
  | cons y l ih =>
    intro x h0 h1 h
    have hy := h y (by simp)
    have : -1000 ≤ mx x y ∧ mx x y ≤ 1000 := by rw [mx_def]; split <;> omega
    exact ih (mx x y) this.1 this.2 (fun z hz => h z (by simp [hz]))
theorem mnl_le (l : List Int) : ∀ x, -1000 ≤ x → x ≤ 1000 → (∀ y ∈ l, -1000 ≤ y ∧ y ≤ 1000) → -1000 ≤ mnl l x ∧ mnl l x ≤ 1000 := by
  induction l with
  | nil => intro x h0 h1 _; exact ⟨h0, h1⟩
  | cons y l ih =>
    intro x h0 h1 h
    have hy := h y (by simp)
    have : -1000 ≤ mn x y ∧ mn x y ≤ 1000 := by rw [mn_def]; split <;> omega
    exact ih (mn x y) this.1 this.2 (fun z hz => h z (by simp [hz]))
theorem max_l0 (c : List Int) (hl : c.length ≤ 8) (s : List Int) : ∀ i x, At c i s → Ev (fun k => slices_Max_int_int.l0 k c x i) (mxl s x) := by
  induction s with
  | nil => intro i x h; exact Ev.stop fun k => by rw [slices_Max_int_int.l0, if_neg (by have := h.nil; omega)]; rfl
  | cons y s ih =>
    intro i x h
    obtain ⟨h1, _, h2⟩ := h.cons
    have h0 := h.1
    exact Ev.go (ih _ _ h2) fun k => by rw [slices_Max_int_int.l0, if_pos h1, if_pos h0, h.rdv, wrap_id (by omega) (by omega)]
theorem min_l0 (c : List Int) (hl : c.length ≤ 8) (s : List Int) : ∀ i x, At c i s → Ev (fun k => slices_Min_int_int.l0 k c x i) (mnl s x) := by
  induction s with
  | nil => intro i x h; exact Ev.stop fun k => by rw [slices_Min_int_int.l0, if_neg (by have := h.nil; omega)]; rfl
  | cons y s ih =>
    intro i x h
    obtain ⟨h1, _, h2⟩ := h.cons
    have h0 := h.1
    exact Ev.go (ih _ _ h2) fun k => by rw [slices_Min_int_int.l0, if_pos h1, if_pos h0, h.rdv, wrap_id (by omega) (by omega)]
theorem spr_l0 (c : List Int) (hc : ∀ x ∈ c, -1000 ≤ x ∧ x ≤ 1000) (hl : c.length ≤ 8) (s : List Int) : ∀ i x y, x ≤ y → At c i s → Ev (fun k => spec_Spread.l0 k c x y i) (wrap64 (mxl s y - mnl s x)) := by
  induction s with
  | nil => intro i x y _ h; exact Ev.stop fun k => by rw [spec_Spread.l0, if_neg (by have := h.nil; omega)]; rfl
  | cons z s ih =>
    intro i x y hxy h
    obtain ⟨h1, _, h2⟩ := h.cons
    have h0 := h.1
    have hi : wrap64 (i + 1) = i + 1 := wrap_id (by omega) (by omega)
    have e1 : mxl (z :: s) y = mxl s (mx y z) := rfl
    have e2 : mnl (z :: s) x = mnl s (mn x z) := rfl
    rw [e1, e2, mx_def, mn_def]
    by_cases g1 : z < x
    · rw [if_pos g1, if_neg (show ¬ y < z by omega)]
      exact Ev.go (ih _ _ _ (by omega) h2) fun k => by rw [spec_Spread.l0, if_pos h1, if_pos h0, h.rdv, if_pos g1, if_neg (by omega), hi]
    · rw [if_neg g1]
      by_cases g2 : y < z
      · rw [if_pos g2]
        exact Ev.go (ih _ _ _ (by omega) h2) fun k => by rw [spec_Spread.l0, if_pos h1, if_pos h0, h.rdv, if_neg g1, if_pos (by omega), hi]
      · rw [if_neg g2]
        exact Ev.go (ih _ _ _ (by omega) h2) fun k => by rw [spec_Spread.l0, if_pos h1, if_pos h0, h.rdv, if_neg g1, if_neg (by omega), hi]
theorem mx_self (l : List Int) (x : Int) (s : List Int) (h : l = x :: s) : mxl l x = mxl s x ∧ mnl l x = mnl s x := by
  subst h
  refine ⟨?_, ?_⟩
  · show mxl s (mx x x) = _; rw [mx_def, if_neg (by omega)]
  · show mnl s (mn x x) = _; rw [mn_def, if_neg (by omega)]
theorem implSp (c : List Int) : Ev (fun k => impl_Spread.f k c) (spread c) := by
  unfold spread impl_Spread.f
  simp only [implOk, Option.bind_some]
  cases hk : okC c with
  | false =>
    simp only [Bool.false_eq_true, if_false, false_and]
    exact Ev.stop fun k => by rw [impl_Spread.j0, if_pos rfl]
  | true =>
    simp only [if_true, true_and]
    obtain ⟨hc, hl⟩ := okC_iff.1 hk
    cases hcc : c with
    | nil =>
      rw [if_neg (by simp)]
      exact Ev.stop fun k => by rw [impl_Spread.j0, if_pos (by simp)]
    | cons x s =>
      rw [← hcc, if_pos (by simp [hcc])]
      have hlen : (c.length : Int) = s.length + 1 := by rw [hcc]; simp
      have hr : rd c 0 = x := by rw [hcc]; rfl
      have hx := hc x (by simp [hcc])
      have hz : ((c.length : Int) == 0) = false := by simp [hcc]; omega
      have ha : At c 1 s := by have := (show At c 0 (x :: s) from ⟨by omega, by omega, hcc⟩).cons.2.2; simpa using this
      have b1 := mxl_le c x hx.1 hx.2 hc
      have b2 := mnl_le c x hx.1 hx.2 hc
      have e3 := mx_self c x s hcc
      simp only [hz, hr]
      refine Ev.go (f := fun k => (slices_Max_int_int.f k c).bind fun t254 => (slices_Min_int_int.f k c).bind fun t255 => some (wrap64 (t254 - t255))) ?_ fun k => by rw [impl_Spread.j0, if_neg (by simp)]
      refine Ev.bd (a := mxl c x) ?_ (Ev.bd (a := mnl c x) ?_ ?_)
      · rw [e3.1]
        exact Ev.fit (max_l0 c hl s 1 x ha) (funext fun k => by unfold slices_Max_int_int.f; rw [if_neg (by omega), if_pos (by omega), hr])
      · rw [e3.2]
        exact Ev.fit (min_l0 c hl s 1 x ha) (funext fun k => by unfold slices_Min_int_int.f; rw [if_neg (by omega), if_pos (by omega), hr])
      · rw [wrap_id (by omega) (by omega)]
        exact Ev.now _
theorem specSp (c : List Int) : Ev (fun k => spec_Spread.f k c) (spread c) := by
  unfold spread spec_Spread.f
  refine Ev.bd (specOk_ev c) ?_
  cases hk : okC c with
  | false =>
    simp only [Bool.false_eq_true, if_false, false_and]
    exact Ev.stop fun k => by rw [spec_Spread.j0, if_pos rfl]
  | true =>
    simp only [if_true, true_and]
    obtain ⟨hc, hl⟩ := okC_iff.1 hk
    cases hcc : c with
    | nil =>
      rw [if_neg (by simp)]
      exact Ev.stop fun k => by rw [spec_Spread.j0, if_pos (by simp)]
    | cons x s =>
      rw [← hcc, if_pos (by simp [hcc])]
      have hlen : (c.length : Int) = s.length + 1 := by rw [hcc]; simp
      have hr : rd c 0 = x := by rw [hcc]; rfl
      have hx := hc x (by simp [hcc])
      have hz : ((c.length : Int) == 0) = false := by simp [hcc]; omega
      have b1 := mxl_le c x hx.1 hx.2 hc
      have b2 := mnl_le c x hx.1 hx.2 hc
      have e := spr_l0 c hc hl c 0 x x (by omega) (At.zero c)
      rw [wrap_id (by omega) (by omega)] at e
      simp only [hz, hr]
      exact Ev.go e fun k => by rw [spec_Spread.j0, if_neg (by simp), if_pos (by omega), hr]
def localAt (c : List Int) (i now : Int) : Int := if okC c = true ∧ 0 ≤ i ∧ i < c.length ∧ 0 ≤ now ∧ now ≤ 100000 then mx 0 (now + rd c i) else 0
theorem implL (c : List Int) (i now : Int) : impl_LocalAt.f c i now = some (localAt c i now) := by
  unfold localAt impl_LocalAt.f
  simp only [implOk, Option.bind_some, impl_isTime.f, within_in]
  cases hk : okC c with
  | false => simp
  | true =>
    obtain ⟨hc, hl⟩ := okC_iff.1 hk
    simp only [if_true, true_and, wrap_id (x := (c.length : Int) - 1) (by omega) (by omega)]
    by_cases hi : 0 ≤ i ∧ i < c.length
    · have hin : inB 0 ((c.length : Int) - 1) i = true := by unfold inB; simp; omega
      simp only [hin, if_true]
      have hx := hc _ (rd_mem hi.1 hi.2)
      by_cases hn : 0 ≤ now ∧ now ≤ 100000
      · have hin2 : inB 0 100000 now = true := by unfold inB; simp; omega
        rw [hin2, if_pos rfl, if_pos hi.1, if_pos hi.2, if_pos ⟨hi.1, hi.2, hn.1, hn.2⟩, wrap_id (by omega) (by omega)]
      · have hin2 : inB 0 100000 now = false := by unfold inB; simp; omega
        rw [hin2, if_neg (by simp), if_neg (by omega)]
    · have hin : inB 0 ((c.length : Int) - 1) i = false := by unfold inB; simp; omega
      rw [hin, if_neg (by simp), if_neg (by omega)]
theorem specL (c : List Int) (i now : Int) : Ev (fun k => spec_LocalAt.f k c i now) (localAt c i now) := by
  unfold localAt spec_LocalAt.f
  refine Ev.bd (specOk_ev c) ?_
  cases hk : okC c with
  | false => simp only [Bool.false_eq_true, if_false, false_and]; exact Ev.now _
  | true =>
    obtain ⟨hc, hl⟩ := okC_iff.1 hk
    simp only [if_true, true_and, specIn_eq, Option.bind_some]
    refine Ev.val fun k => ?_
    by_cases h1 : i < 0
    · rw [if_pos h1, if_neg (by omega)]
    · by_cases h2 : i ≥ c.length
      · rw [if_neg h1, if_pos h2, if_neg (by omega)]
      · rw [if_neg h1, if_neg h2]
        have hx := hc _ (rd_mem (l := c) (i := i) (by omega) (by omega))
        by_cases hn : 0 ≤ now ∧ now ≤ 100000
        · have hin2 : inB 0 100000 now = true := by unfold inB; simp; omega
          rw [hin2, if_pos rfl, if_pos (show 0 ≤ i by omega), if_pos (show i < (c.length : Int) by omega), wrap_id (by omega) (by omega), if_pos (show 0 ≤ i ∧ i < (c.length : Int) ∧ 0 ≤ now ∧ now ≤ 100000 by omega), mx_def]
          by_cases g : now + rd c i < 0
          · rw [if_pos g, if_neg (by omega)]
          · rw [if_neg g]
            by_cases g2 : 0 < now + rd c i
            · rw [if_pos g2]
            · rw [if_neg g2, show now + rd c i = 0 by omega]
        · have hin2 : inB 0 100000 now = false := by unfold inB; simp; omega
          rw [hin2, if_neg (by simp), if_neg (by omega)]
end Go.Proofs.Ytbgfkpagkhofpaa.PFnClocks

/- Clocks: the law. -/
namespace Go.Proofs.Ytbgfkpagkhofpaa.PFnClocks
open Go.RowKit Go.Proofs.YtbgfkpagkhofpaaW.PrintWords Go.Proofs.YtbgfkpagkhofpaaW.PrintLast
theorem clk_l0 (b : List Int) (d : Nat) : ∀ (l : List Int) (n i h : Int), St b i → 0 ≤ n → n = d → l.length + d ≤ 20 → ∃ l' i' h', Ev (fun k => spec_l22Clocks.l0 k l n b i h) (l', i', h') ∧ St b i' := by
  induction d with
  | zero =>
    intro l n i h hs h0 hn hl
    obtain ⟨x, i1, h1, e1, hs1⟩ := once_ev h 10 hs (by omega)
    cases x with
    | true =>
      obtain ⟨y, i2, h2, e2, _, hs2⟩ := pick_ev h1 [1000, 1001, (-1001)] hs1 (by simp) (by simp)
      refine ⟨l ++ [y], i2, h2, Ev.stop fun k => ?_, hs2⟩
      rw [spec_l22Clocks.l0, if_neg (by omega), e1, Option.bind_some, if_pos rfl, e2, Option.bind_some, if_pos (by omega)]
    | false =>
      refine ⟨l, i1, h1, Ev.stop fun k => ?_, hs1⟩
      rw [spec_l22Clocks.l0, if_neg (by omega), e1, Option.bind_some, if_neg (by simp)]
  | succ d ih =>
    intro l n i h hs h0 hn hl
    obtain ⟨x, i1, h1, e1, _, _, _, _, hs1⟩ := below_ev h 30 hs (by omega)
    obtain ⟨l', i', h', e, hs'⟩ := ih (l ++ [wrap64 (x - 15)]) (n - 1) i1 h1 hs1 (by omega) (by omega) (by simp; omega)
    refine ⟨l', i', h', Ev.go e fun k => ?_, hs'⟩
    rw [spec_l22Clocks.l0, if_pos (by omega), e1, Option.bind_some, if_pos (by omega), wrap_id (x := n - 1) (by omega) (by omega)]
theorem clk_ev {b : List Int} {i : Int} (h : Int) (hs : St b i) : ∃ l' i' h', Ev (fun k => spec_l22Clocks.f k b i h) (l', i', h') ∧ St b i' := by
  obtain ⟨x, i1, h1, e1, hx0, _, hx1, _, hs1⟩ := below_ev h 9 hs (by omega)
  have := hx1 (by omega)
  obtain ⟨l', i', h', e, hs'⟩ := clk_l0 b x.toNat [] x i1 h1 hs1 hx0 (by omega) (by simp; omega)
  exact ⟨l', i', h', Ev.fit e (funext fun k => by unfold spec_l22Clocks.f; rw [e1]; rfl), hs'⟩
theorem drawA {b : List Int} (hb : (b.length : Int) ≤ 140737488351232) : ∃ c s, Ev (fun k => spec_DrawAgree.f k b) (c, s) ∧ s ∈ [0, 1, 3, 8, 40, (-1)] := by
  obtain ⟨h0, e0⟩ := new_ev b hb
  obtain ⟨s, i1, h1, e1, hm, hs1⟩ := pick_ev h0 [0, 1, 3, 8, 40, (-1)] (st_new hb) (by simp) (by simp)
  obtain ⟨c, i2, h2, e2, _⟩ := clk_ev h1 hs1
  refine ⟨c, s, ?_, hm⟩
  unfold spec_DrawAgree.f
  refine Ev.bd e0 ?_
  simp only [e1, Option.bind_some]
  exact Ev.bd e2 (Ev.now _)
theorem drawS {b : List Int} (hb : (b.length : Int) ≤ 140737488351232) : ∃ d i m, Ev (fun k => spec_DrawSlew.f k b) (d, i, m) := by
  obtain ⟨h0, e0⟩ := new_ev b hb
  obtain ⟨x, i1, h1, e1, _, _, _, _, hs1⟩ := below_ev h0 9 (st_new hb) (by omega)
  obtain ⟨m, i2, h2, e2, _, hs2⟩ := pick_ev h1 [0, 1, 5, 100, (-1), 9223372036854775807] hs1 (by simp) (by simp)
  obtain ⟨c, i3, h3, e3, _⟩ := clk_ev h2 hs2
  refine ⟨c, wrap64 (x - 1), m, ?_⟩
  unfold spec_DrawSlew.f
  refine Ev.bd e0 ?_
  simp only [e1, e2, Option.bind_some]
  exact Ev.bd e3 (Ev.now _)
theorem drawL {b : List Int} (hb : (b.length : Int) ≤ 140737488351232) : ∃ d i m, Ev (fun k => spec_DrawLocalAt.f k b) (d, i, m) := by
  obtain ⟨h0, e0⟩ := new_ev b hb
  obtain ⟨x, i1, h1, e1, _, _, _, _, hs1⟩ := below_ev h0 9 (st_new hb) (by omega)
  obtain ⟨m, i2, h2, e2, _, hs2⟩ := pick_ev h1 [0, 3, 10, 50, (-1), 100000, 100001] hs1 (by simp) (by simp)
  obtain ⟨c, i3, h3, e3, _⟩ := clk_ev h2 hs2
  refine ⟨c, wrap64 (x - 1), m, ?_⟩
  unfold spec_DrawLocalAt.f
  refine Ev.bd e0 ?_
  simp only [e1, e2, Option.bind_some]
  exact Ev.bd e3 (Ev.now _)
/-- What agrees: places that rise, whose clocks are any two close. -/
def Fine (c : List Int) (skew : Int) (l : List Int) : Prop := l.Pairwise (· < ·) ∧ ∃ low, ∀ j ∈ l, 0 ≤ j ∧ j < c.length ∧ low ≤ rd c j ∧ rd c j - low ≤ skew
theorem setL_fine (c : List Int) (skew low : Int) (s : List Int) : ∀ i, At c i s → (setL skew low s i).Pairwise (· < ·) ∧ ∀ j ∈ setL skew low s i, i ≤ j ∧ j < c.length ∧ low ≤ rd c j ∧ rd c j - low ≤ skew := by
  induction s with
  | nil => intro i h; exact ⟨List.Pairwise.nil, fun j hj => by simp [setL] at hj⟩
  | cons x s ih =>
    intro i h
    obtain ⟨h1, _, h2⟩ := h.cons
    obtain ⟨g1, g2⟩ := ih _ h2
    unfold setL
    by_cases c1 : low ≤ x ∧ x - low ≤ skew
    · rw [if_pos c1]
      refine ⟨List.Pairwise.cons (fun j hj => by have := (g2 j hj).1; omega) g1, fun j hj => ?_⟩
      rcases List.mem_cons.1 hj with rfl | hj
      · rw [h.rdv]; exact ⟨by omega, h1, c1⟩
      · have := g2 j hj; exact ⟨by omega, this.2⟩
    · rw [if_neg c1]
      exact ⟨g1, fun j hj => by have := g2 j hj; exact ⟨by omega, this.2⟩⟩
theorem foldA (c : List Int) (skew : Int) (s : List Int) : ∀ p : List Int × Int, Fine c skew p.1 → Fine c skew (s.foldl (stepA c skew) p).1 ∧ p.1.length ≤ (s.foldl (stepA c skew) p).1.length ∧ ∀ x ∈ s, (setL skew x c 0).length ≤ (s.foldl (stepA c skew) p).1.length := by
  induction s with
  | nil => intro p h; exact ⟨h, Nat.le_refl _, fun x hx => by simp at hx⟩
  | cons x s ih =>
    intro p h
    have hf : Fine c skew (stepA c skew p x).1 ∧ p.1.length ≤ (stepA c skew p x).1.length ∧ (setL skew x c 0).length ≤ (stepA c skew p x).1.length := by
      unfold stepA
      by_cases g : (setL skew x c 0).length > p.1.length ∨ (setL skew x c 0).length = p.1.length ∧ x < p.2
      · rw [if_pos g]
        obtain ⟨f1, f2⟩ := setL_fine c skew x c 0 (At.zero c)
        exact ⟨⟨f1, x, f2⟩, by show p.1.length ≤ (setL skew x c 0).length; omega, Nat.le_refl _⟩
      · rw [if_neg g]
        exact ⟨h, Nat.le_refl _, by omega⟩
    obtain ⟨i1, i2, i3⟩ := ih (stepA c skew p x) hf.1
    refine ⟨i1, by simp only [List.foldl_cons]; omega, fun y hy => ?_⟩
    simp only [List.foldl_cons]
    rcases List.mem_cons.1 hy with rfl | hy
    · omega
    · exact i3 y hy
theorem agree_fine (c : List Int) (skew : Int) : Fine c skew (agree c skew) ∧ (agree c skew ≠ [] → okC c = true) ∧ (okC c = true → 0 ≤ skew → ∀ x ∈ c, (setL skew x c 0).length ≤ (agree c skew).length) := by
  unfold agree
  by_cases h : okC c = true ∧ 0 ≤ skew
  · rw [if_pos h]
    obtain ⟨i1, i2, i3⟩ := foldA c skew c ([], 0) ⟨List.Pairwise.nil, 0, fun j hj => by simp at hj⟩
    exact ⟨i1, fun _ => h.1, fun _ _ => i3⟩
  · rw [if_neg h]
    exact ⟨⟨List.Pairwise.nil, 0, fun j hj => by simp at hj⟩, fun hh => absurd rfl hh, fun a b => absurd ⟨a, b⟩ h⟩
theorem pair_lt {l : List Int} (h : l.Pairwise (· < ·)) {i k : Int} (h0 : 0 ≤ k) (h1 : k < i) (h2 : i < l.length) : rd l k < rd l i := by
  have hi : i.toNat < l.length := by omega
  have hk : k.toNat < l.length := by omega
  rw [rd_def, rd_def, List.getD_eq_getElem?_getD, List.getD_eq_getElem?_getD, List.getElem?_eq_getElem hi, List.getElem?_eq_getElem hk]
  exact List.pairwise_iff_getElem.1 h k.toNat i.toNat hk hi (by omega)
theorem rd_set (l : List Int) (i j x : Int) (h0 : 0 ≤ i) (h1 : i < l.length) (hj : 0 ≤ j) : rd (l.set i.toNat x) j = if j = i then x else rd l j := by
  rw [rd_def, rd_def, List.getD_eq_getElem?_getD, List.getD_eq_getElem?_getD, List.getElem?_set]
  by_cases e : j = i
  · subst e
    rw [if_pos rfl, if_pos rfl, if_pos (by omega)]
    rfl
  · rw [if_neg (by omega), if_neg e]
theorem slew_len (d : List Int) (i m : Int) (hk : okC d = true) : (slew d i m).length = d.length := by
  unfold slew
  rw [if_pos hk]
  split <;> simp
theorem slew_rd (d : List Int) (i m : Int) (hk : okC d = true) (j : Int) (h0 : 0 ≤ j) (h1 : j < d.length) :
    (rd d j > 0 → 0 ≤ rd (slew d i m) j ∧ rd (slew d i m) j ≤ rd d j) ∧ (rd d j < 0 → rd (slew d i m) j ≤ 0 ∧ rd d j ≤ rd (slew d i m) j) ∧ (j ≠ i → rd (slew d i m) j = rd d j) ∧ (rd d j = 0 → rd (slew d i m) j = 0) := by
  unfold slew
  rw [if_pos hk]
  by_cases g : 0 ≤ i ∧ i < d.length ∧ 0 ≤ m
  · rw [if_pos g, rd_set _ _ _ _ g.1 g.2.1 h0]
    by_cases e : j = i
    · subst e
      rw [if_pos rfl]
      unfold slew1
      refine ⟨fun h => ?_, fun h => ?_, fun h => absurd rfl h, fun h => ?_⟩
      all_goals
        split
        · omega
        · split <;> omega
    · rw [if_neg e]
      exact ⟨fun h => by omega, fun h => by omega, fun _ => rfl, fun h => h⟩
  · rw [if_neg g]
    exact ⟨fun h => by omega, fun h => by omega, fun _ => rfl, fun h => h⟩
theorem mem_rd {l : List Int} {x : Int} (h : x ∈ l) : ∃ j : Int, 0 ≤ j ∧ j < l.length ∧ rd l j = x := by
  obtain ⟨j, hj, rfl⟩ := List.getElem_of_mem h
  exact ⟨j, by omega, by omega, by rw [rd_def, List.getD_eq_getElem?_getD, Int.toNat_natCast, List.getElem?_eq_getElem hj]; rfl⟩
theorem slew_ok (d : List Int) (i m : Int) (hk : okC d = true) : okC (slew d i m) = true := by
  obtain ⟨hc, hl⟩ := okC_iff.1 hk
  rw [okC_iff, slew_len d i m hk]
  refine ⟨fun x hx => ?_, hl⟩
  obtain ⟨j, h0, h1, rfl⟩ := mem_rd hx
  rw [slew_len d i m hk] at h1
  have h := slew_rd d i m hk j h0 h1
  have hb := hc _ (rd_mem h0 h1)
  by_cases g1 : rd d j > 0
  · have := h.1 g1; omega
  · by_cases g2 : rd d j < 0
    · have := h.2.1 g2; omega
    · have := h.2.2.2 (by omega); omega
theorem all0 (l : List Int) (h : ∀ x ∈ l, x = 0) : mxl l 0 = 0 ∧ mnl l 0 = 0 := by
  induction l with
  | nil => exact ⟨rfl, rfl⟩
  | cons x l ih =>
    have hx := h x (by simp)
    obtain ⟨h1, h2⟩ := ih (fun y hy => h y (by simp [hy]))
    refine ⟨?_, ?_⟩
    · show mxl l (mx 0 x) = 0; rw [mx_def, hx, if_neg (by omega)]; exact h1
    · show mnl l (mn 0 x) = 0; rw [mn_def, hx, if_neg (by omega)]; exact h2
theorem spread0 (l : List Int) (h : ∀ x ∈ l, x = 0) : spread l = 0 := by
  unfold spread
  split
  · rename_i g
    have : rd l 0 = 0 := by
      cases l with
      | nil => exact absurd rfl g.2
      | cons x l => exact h x (by simp)
    rw [this, (all0 l h).1, (all0 l h).2]; rfl
  · rfl
end Go.Proofs.Ytbgfkpagkhofpaa.PFnClocks
