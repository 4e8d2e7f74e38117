/- FnTab: a key that comes is the one that counts, and the ones ahead of it are found by their versions, as long as they are kept: the plain part, on numbers and lists. -/
import Derived.Test.YtbgfkpagkhofpaaPFnTabx9
set_option linter.unusedVariables false
set_option linter.unusedSimpArgs false
/- Draws: a byte is from 0 to 255, what is drawn below n is below n; the place in the code stays in it. -/
namespace Go.Proofs.Ytbgfkpagkhofpaa.PFnTab
open Go.RowKit Go.Proofs.YtbgfkpagkhofpaaW.PrintWords Go.Proofs.YtbgfkpagkhofpaaW.PrintLast
/-- The cursor stands in the code. -/
def St (b : List Int) (i : Int) : Prop := 0 ≤ i ∧ i ≤ (b.length : Int) ∧ (b.length : Int) ≤ 140737488351232
theorem wrap_id {x : Int} (h0 : -9223372036854775808 ≤ x) (h1 : x ≤ 9223372036854775807) : wrap64 x = x := by unfold wrap64; omega
theorem and_low (x : Int) (m : Nat) (hm : m ≤ 1073741823) : 0 ≤ Go.bits .and .i64 x m ∧ Go.bits .and .i64 x m ≤ m := by
  have hk : IntKind.i64.bits = 64 := rfl
  have h : Go.bits .and .i64 x m = IntKind.i64.wrap (((BitVec.ofInt 64 x).toNat &&& m : Nat) : Int) := by
    simp only [Go.bits, BitVec.toNat_and, hk, BitVec.ofInt_natCast, BitVec.toNat_ofNat]
    rw [Nat.mod_eq_of_lt (a := m) (by omega)]
    rfl
  have h1 : (BitVec.ofInt 64 x).toNat &&& m ≤ m := Nat.and_le_right
  rw [h, IntKind.wrap_i64]
  omega
theorem and255 (x : Int) : 0 ≤ Go.bits .and .i64 x 255 ∧ Go.bits .and .i64 x 255 ≤ 255 := and_low x 255 (by omega)
theorem byte_ev {b : List Int} {i : Int} (h : Int) (hs : St b i) : ∃ x i' h', spec_l1Byte.f b i h = some (x, i', h') ∧ 0 ≤ x ∧ x ≤ 255 ∧ St b i' := by
  obtain ⟨h0, h1, h2⟩ := hs
  unfold spec_l1Byte.f
  by_cases c : i < (b.length : Int)
  · rw [if_pos c, if_pos h0]
    exact ⟨_, _, _, rfl, (and255 _).1, (and255 _).2, by rw [wrap_id (by omega) (by omega)]; exact ⟨by omega, by omega, h2⟩⟩
  · rw [if_neg c]
    exact ⟨_, _, _, rfl, (and255 _).1, (and255 _).2, h0, h1, h2⟩
theorem below_ev {b : List Int} {i : Int} (h n : Int) (hs : St b i) (hn : n ≤ 256) : ∃ x i' h', spec_l1Below.f b i h n = some (x, i', h') ∧ 0 ≤ x ∧ x ≤ 255 ∧ (0 < n → x < n) ∧ (n ≤ 0 → x = 0) ∧ St b i' := by
  unfold spec_l1Below.f
  by_cases c : n ≤ 0
  · rw [if_pos c]; exact ⟨_, _, _, rfl, by omega, by omega, by omega, fun _ => rfl, hs⟩
  · rw [if_neg c, if_pos hn]
    obtain ⟨x, i', h', he, h0, h1, h2⟩ := byte_ev h hs
    rw [he]
    simp only [Option.bind_some]
    rw [if_neg (by omega)]
    have e : Int.tmod x n = x % n := Int.tmod_eq_emod_of_nonneg h0
    have e1 := Int.emod_nonneg x (show n ≠ 0 by omega)
    have e2 := Int.emod_lt_of_pos x (show 0 < n by omega)
    exact ⟨_, _, _, rfl, by omega, by omega, by omega, by omega, h2⟩
theorem once_ev {b : List Int} {i : Int} (h n : Int) (hs : St b i) (hn : n ≤ 256) : ∃ x i' h', spec_l1Once.f b i h n = some (x, i', h') ∧ St b i' := by
  obtain ⟨x, i', h', he, _, _, _, _, h2⟩ := below_ev h n hs hn
  unfold spec_l1Once.f
  rw [he]
  exact ⟨_, _, _, rfl, h2⟩
theorem rd_mem {l : List Int} {i : Int} (h0 : 0 ≤ i) (h1 : i < (l.length : Int)) : rd l i ∈ l := by
  unfold rd
  have : i.toNat < l.length := by omega
  rw [List.getD_eq_getElem?_getD, List.getElem?_eq_getElem this]
  exact List.getElem_mem this
theorem pick_ev {b : List Int} {i : Int} (h : Int) (l : List Int) (hs : St b i) (hl : 0 < l.length) (hn : l.length ≤ 256) : ∃ x i' h', spec_l1PickInt.f b i h l = some (x, i', h') ∧ x ∈ l ∧ St b i' := by
  obtain ⟨x, i', h', he, h0, _, h1, _, h2⟩ := below_ev h l.length hs (by omega)
  unfold spec_l1PickInt.f
  rw [he]
  simp only [Option.bind_some]
  rw [if_pos h0, if_pos (h1 (by omega))]
  exact ⟨_, _, _, rfl, rd_mem h0 (h1 (by omega)), h2⟩
theorem new_l0 (b : List Int) (hb : (b.length : Int) ≤ 140737488351232) (d : Nat) : ∀ (h i : Int), 0 ≤ i → i ≤ b.length → (b.length : Int) - i = d → ∃ h', Ev (fun k => spec_l1New.l0 k b h i) (b, 0, h') := by
  induction d with
  | zero =>
    intro h i h0 h1 hd
    exact ⟨h, Ev.step (fun k => by rw [spec_l1New.l0, if_neg (by omega)]) (Ev.now _)⟩
  | succ d ih =>
    intro h i h0 h1 hd
    by_cases c : i < 4000
    · obtain ⟨h', e⟩ := ih (Go.bits .and .i64 (wrap64 ((wrap64 ((wrap64 (h * 131)) + (wrap64 (rd b i)))) + 7)) 1073741823) (i + 1) (by omega) (by omega) (by omega)
      refine ⟨h', Ev.step (fun k => ?_) e⟩
      rw [spec_l1New.l0, if_pos (by omega), if_pos c, if_pos h0, wrap_id (x := i + 1) (by omega) (by omega)]
    · exact ⟨h, Ev.step (fun k => by rw [spec_l1New.l0, if_pos (by omega), if_neg c]) (Ev.now _)⟩
theorem new_ev (b : List Int) (hb : (b.length : Int) ≤ 140737488351232) : ∃ h', Ev (fun k => spec_l1New.f k b) (b, 0, h') := by
  obtain ⟨h', e⟩ := new_l0 b hb b.length (wrap64 (10101 + (b.length : Int))) 0 (by omega) (by omega) (by omega)
  exact ⟨h', Ev.congr (fun k => rfl) e⟩
theorem st_new {b : List Int} (hb : (b.length : Int) ≤ 140737488351232) : St b 0 := ⟨by omega, by omega, hb⟩
end Go.Proofs.Ytbgfkpagkhofpaa.PFnTab

/- Lists and places: what stands behind a place, element by element. -/
namespace Go.Proofs.Ytbgfkpagkhofpaa.PFnTab
open Go.RowKit Go.Proofs.YtbgfkpagkhofpaaW.PrintWords Go.Proofs.YtbgfkpagkhofpaaW.PrintLast
theorem rd_def (l : List Int) (i : Int) : rd l i = l.getD i.toNat 0 := rfl
/-- The suffix of a list at a place. -/
def At {α : Type} (l : List α) (i : Int) (s : List α) : Prop := 0 ≤ i ∧ i ≤ (l.length : Int) ∧ l.drop i.toNat = s
theorem At.zero {α : Type} (l : List α) : At l 0 l := ⟨by omega, by omega, rfl⟩
theorem At.nil {α : Type} {l : List α} {i : Int} (h : At l i []) : i = (l.length : Int) := by
  obtain ⟨h0, h1, h2⟩ := h
  have := congrArg List.length h2
  simp at this
  omega
theorem At.cons {α : Type} {l : List α} {i : Int} {x : α} {s : List α} (h : At l i (x :: s)) : i < (l.length : Int) ∧ l[i.toNat]? = some x ∧ At l (i + 1) s := by
  obtain ⟨h0, h1, h2⟩ := h
  have hl := congrArg List.length h2
  simp at hl
  have e : (i + 1).toNat = i.toNat + 1 := by omega
  refine ⟨by omega, ?_, by omega, by omega, ?_⟩
  · have := congrArg (·[0]?) h2
    simpa using this
  · rw [e, ← List.drop_drop, h2]; rfl
theorem At.len {α : Type} {l : List α} {i : Int} {s : List α} (h : At l i s) : (s.length : Int) = l.length - i := by
  obtain ⟨h0, h1, h2⟩ := h
  rw [← h2, List.length_drop]
  omega
theorem At.mem {α : Type} {l : List α} {i : Int} {x : α} {s : List α} (h : At l i (x :: s)) : x ∈ l := List.mem_of_getElem? h.cons.2.1
theorem At.rdv {l : List Int} {i x : Int} {s : List Int} (h : At l i (x :: s)) : rd l i = x := by
  have := h.cons.2.1
  rw [rd_def, List.getD_eq_getElem?_getD, this]
  rfl
theorem At.of {α : Type} (l : List α) {i : Int} (h0 : 0 ≤ i) (h1 : i ≤ l.length) : ∃ s, At l i s := ⟨_, h0, h1, rfl⟩
theorem rd_of_get {l : List Int} {i : Int} {x : Int} (h : l[i.toNat]? = some x) : rd l i = x := by
  rw [rd_def, List.getD_eq_getElem?_getD, h]
  rfl
theorem get_of_rd {l : List Int} {i : Int} (h0 : 0 ≤ i) (h1 : i < (l.length : Int)) : l[i.toNat]? = some (rd l i) := by
  have : i.toNat < l.length := by omega
  rw [rd_def, List.getD_eq_getElem?_getD, List.getElem?_eq_getElem this]
  rfl
/-- One round of a loop, told as what it comes to. -/
theorem Ev.go {α : Type} {g f : Nat → Option α} {r : α} (k : Ev f r) (h : ∀ n, g (n + 1) = f n) : Ev g r := Ev.step h k
theorem Ev.val {α : Type} {g : Nat → Option α} {r : α} (h : ∀ n, g n = some r) : Ev g r := ⟨0, fun n _ => h n⟩
theorem Ev.stop {α : Type} {g : Nat → Option α} {r : α} (h : ∀ n, g (n + 1) = some r) : Ev g r := Ev.step (f := fun _ => some r) h (Ev.now r)
/-- What goes before is known. -/
theorem Ev.bd {α β : Type} {g : Nat → Option α} {f : Nat → α → Option β} {a : α} {r : β} (h : Ev g a) (k : Ev (fun n => f n a) r) : Ev (fun n => (g n).bind (fun x => f n x)) r := Ev.bind h k
theorem Ev.fit {α : Type} {g f : Nat → Option α} {r : α} (k : Ev f r) (h : g = f) : Ev g r := h ▸ k
theorem Ev.same {α : Type} {g : Nat → Option α} {r q : α} (h : Ev g r) (k : Ev g q) : r = q := by
  obtain ⟨K, h⟩ := h
  obtain ⟨K', k⟩ := k
  have := (h (max K K') (by omega)).symm.trans (k (max K K') (by omega))
  injection this
end Go.Proofs.Ytbgfkpagkhofpaa.PFnTab

/- Key tables: what the printed functions come to. -/
namespace Go.Proofs.Ytbgfkpagkhofpaa.PFnTab
open Go.RowKit Go.Proofs.YtbgfkpagkhofpaaW.PrintWords Go.Proofs.YtbgfkpagkhofpaaW.PrintLast
theorem rdS_get {l : List S74} {i : Int} {x : S74} (h : l[i.toNat]? = some x) : rd_T74 l i = x := by
  unfold rd_T74
  rw [List.getD_eq_getElem?_getD, h]
  rfl
theorem At.rdS {l : List S74} {i : Int} {x : S74} {s : List S74} (h : At l i (x :: s)) : rd_T74 l i = x := rdS_get h.cons.2.1
theorem At.split {α : Type} {l : List α} {i : Int} {s : List α} (h : At l i s) : l = l.take i.toNat ++ s := by
  rw [← h.2.2, List.take_append_drop]
theorem within_dec (x a b : Int) : impl_within.f x a b = some (decide (a ≤ x ∧ x ≤ b)) := by
  unfold impl_within.f
  by_cases h : x ≥ a
  · rw [if_pos h]; simp [h]
  · rw [if_neg h]; simp [h]
theorem isWho_dec (x : Int) : impl_isWho.f x = some (decide (0 ≤ x ∧ x ≤ 99)) := by unfold impl_isWho.f; rw [within_dec]; rfl
theorem isKey_dec (x : Int) : impl_isKey.f x = some (decide (1 ≤ x ∧ x ≤ 1000000)) := by unfold impl_isKey.f; rw [within_dec]; rfl
theorem hasKey_iff (l : List S74) (k : Int) : (l.any fun x => x.f2 == k) = false ↔ ∀ y ∈ l, y.f2 ≠ k := by
  rw [List.any_eq_false]
  exact ⟨fun h y hy e => h y hy (by simp [e]), fun h y hy => by have := h y hy; simpa using this⟩
theorem compare_ge {a b : S74} (ha : sOk a) (hb : sOk b) : ∃ t, impl_compareSlots.f a.f0 a.f1 a.f2 b.f0 b.f1 b.f2 = some t ∧ (t ≥ 0 ↔ ¬ sLt a b) := by
  unfold sOk at ha hb
  unfold impl_compareSlots.f
  split
  · exact ⟨_, rfl, by unfold sLt wrap64; omega⟩
  · exact ⟨_, rfl, by unfold sLt wrap64; omega⟩
theorem tab_round (l : List S74) (hl : l.length ≤ 1000000) (n : Nat) (i : Int) (h0 : 0 ≤ i) (h1 : i < (l.length : Int)) (hq : tabQ (l.take i.toNat)) :
    impl_TabOk.l0 (n + 1) l l l.length i = if tabQ (l.take (i.toNat + 1)) then impl_TabOk.l0 n l l l.length (i + 1) else some false := by
  have hs := tabQ_snoc (p := l.take i.toNat) (x := rd_T74 l i)
  rw [← tab_take h0 h1] at hs
  rw [impl_TabOk.l0, if_pos h1, if_pos h0, if_pos h1, isWho_dec, wrap_id (x := i + 1) (by omega) (by omega)]
  simp only [Option.bind_some]
  by_cases c0 : 0 ≤ (rd_T74 l i).f0 ∧ (rd_T74 l i).f0 ≤ 99
  rotate_left
  · rw [decide_eq_false c0, if_neg (by simp), if_neg (fun h => c0 (hs.1 h).2.1.1)]
  rw [decide_eq_true c0, if_pos rfl, within_dec]
  simp only [Option.bind_some]
  by_cases c1 : 1 ≤ (rd_T74 l i).f1 ∧ (rd_T74 l i).f1 ≤ 1000
  rotate_left
  · rw [decide_eq_false c1, if_neg (by simp), if_neg (fun h => c1 (hs.1 h).2.1.2.1)]
  rw [decide_eq_true c1, if_pos rfl, isKey_dec]
  simp only [Option.bind_some]
  by_cases c2 : 1 ≤ (rd_T74 l i).f2 ∧ (rd_T74 l i).f2 ≤ 1000000
  rotate_left
  · rw [decide_eq_false c2, if_neg (by simp), if_neg (fun h => c2 (hs.1 h).2.1.2.2)]
  rw [decide_eq_true c2, if_pos rfl]
  have hx : sOk (rd_T74 l i) := ⟨c0, c1, c2⟩
  have hk : ∀ b, (impl_hasKey.f (l.take i.toNat) (rd_T74 l i).f2).bind (fun t => if t = true then some false else b) = if (∀ y ∈ l.take i.toNat, y.f2 ≠ (rd_T74 l i).f2) then b else (some false : Option Bool) := by
    intro b
    unfold impl_hasKey.f
    simp only [Option.bind_some]
    cases e : (l.take i.toNat).any fun x => x.f2 == (rd_T74 l i).f2 with
    | false => rw [if_neg (by simp), if_pos ((hasKey_iff _ _).1 e)]
    | true => rw [if_pos rfl, if_neg (fun h => by rw [(hasKey_iff _ _).2 h] at e; simp at e)]
  by_cases c3 : i > 0
  · rw [if_pos c3, wrap_id (x := i - 1) (by omega) (by omega), if_pos (by omega), if_pos (by omega)]
    have hm : rd_T74 l (i - 1) ∈ l.take i.toNat := tab_get (by omega) (by omega) (by omega)
    obtain ⟨t, ht, hg⟩ := compare_ge (hq.1 _ hm) hx
    rw [ht]
    simp only [Option.bind_some]
    by_cases c4 : t ≥ 0
    · rw [if_pos c4, if_neg (fun h => (hg.1 c4) ((hs.1 h).2.2.1 _ (tab_last c3 h1)))]
    · rw [if_neg c4, if_pos (by omega), hk]
      have hlt : sLt (rd_T74 l (i - 1)) (rd_T74 l i) := Decidable.not_not.1 (fun h => c4 (hg.2 h))
      by_cases c5 : ∀ y ∈ l.take i.toNat, y.f2 ≠ (rd_T74 l i).f2
      · rw [if_pos c5, if_pos (hs.2 ⟨hq, hx, fun y hy => by rw [tab_last c3 h1] at hy; injection hy with hy; rw [← hy]; exact hlt, c5⟩)]
      · rw [if_neg c5, if_neg (fun h => c5 (hs.1 h).2.2.2)]
  · rw [if_neg c3, if_pos (by omega), hk]
    by_cases c5 : ∀ y ∈ l.take i.toNat, y.f2 ≠ (rd_T74 l i).f2
    · rw [if_pos c5, if_pos (hs.2 ⟨hq, hx, fun y hy => by rw [tab_first (by omega)] at hy; simp at hy, c5⟩)]
    · rw [if_neg c5, if_neg (fun h => c5 (hs.1 h).2.2.2)]
theorem tabOk_l0 (l : List S74) (hl : l.length ≤ 1000000) : ∀ (s : List S74) (i : Int), At l i s → tabQ (l.take i.toNat) → Ev (fun k => impl_TabOk.l0 k l l l.length i) (tabOk l)
  | [], i, h, hq => Ev.stop fun n => by
    have e := h.nil
    rw [impl_TabOk.l0, if_neg (by omega), tab_ok_yes hq e]
  | x :: s, i, h, hq => by
    have h1 := h.cons.1
    by_cases c : tabQ (l.take (i.toNat + 1))
    · have e : (i + 1).toNat = i.toNat + 1 := by have := h.1; omega
      exact Ev.go (tabOk_l0 l hl s (i + 1) h.cons.2.2 (by rw [e]; exact c)) fun n => by rw [tab_round l hl n i h.1 h1 hq, if_pos c]
    · exact Ev.stop fun n => by rw [tab_round l hl n i h.1 h1 hq, if_neg c, tab_ok_no c]
theorem implOk (l : List S74) (hl : l.length ≤ 1000000) : Ev (fun k => impl_TabOk.f k l) (tabOk l) := tabOk_l0 l hl l 0 (At.zero l) (by simp [tabQ])
/-- The last of someone, from a place on. -/
def nowS (who : Int) : List S74 → S74 × Bool → S74 × Bool
  | [], a => a
  | x :: l, a => nowS who l (if x.f0 = who then (x, true) else a)
theorem nowS_eq (who : Int) : ∀ (l : List S74) (a : S74 × Bool), nowS who l a = match nowP l who with
    | some x => (x, true)
    | none => a
  | [], a => rfl
  | x :: l, a => by
    unfold nowS
    rw [nowS_eq who l]
    unfold nowP
    rw [List.filter_cons]
    by_cases c : x.f0 = who
    · rw [if_pos c, if_pos (by simp [c]), List.getLast?_cons]
      cases (l.filter fun x => x.f0 == who).getLast? <;> rfl
    · rw [if_neg c, if_neg (by simp [c])]
theorem slotNow_eq (l : List S74) (who : Int) : slotNow l who = if tabOk l then nowS who l (z74, false) else (z74, false) := by
  unfold slotNow
  rw [nowS_eq]
  cases nowP l who <;> rfl
theorem implNow_l0 (l : List S74) (hl : l.length ≤ 1000000) (who : Int) : ∀ (s : List S74) (i : Int) (a : S74 × Bool), At l i s → (tabOk l = false → a = (z74, false)) →
    Ev (fun k => impl_TabNow.l0 k l who a.2 l l.length i a.1.f0 a.1.f1 a.1.f2) (let r := if tabOk l then nowS who s a else (z74, false); (r.1.f0, r.1.f1, r.1.f2, r.2))
  | [], i, a, h, ha => Ev.stop fun n => by
    have e := h.nil
    rw [impl_TabNow.l0, if_neg (by omega)]
    cases c : tabOk l with
    | false => rw [ha c]; rfl
    | true => rfl
  | x :: s, i, a, h, ha => by
    have h1 := h.cons.1
    have hx := h.rdS
    have hw : wrap64 (i + 1) = i + 1 := wrap_id (by have := h.1; omega) (by omega)
    by_cases c : x.f0 = who
    · cases ct : tabOk l with
      | false =>
        obtain rfl := ha ct
        have ih := implNow_l0 l hl who s (i + 1) (z74, false) h.cons.2.2 ha
        rw [ct] at ih
        refine Ev.go (f := fun k => (impl_TabOk.f k l).bind fun t => if t = true then impl_TabNow.l0 k l who true l l.length (i + 1) x.f0 x.f1 x.f2 else impl_TabNow.l0 k l who false l l.length (i + 1) z74.f0 z74.f1 z74.f2) ?_ (fun n => by
          rw [impl_TabNow.l0, if_pos h1, if_pos h.1, if_pos h1, hx, if_pos c, hw])
        refine Ev.bd (implOk l hl) ?_
        rw [ct]
        exact Ev.fit ih (by funext k; simp)
      | true =>
        have ih := implNow_l0 l hl who s (i + 1) (x, true) h.cons.2.2 (fun e => by rw [ct] at e; simp at e)
        rw [ct] at ih
        refine Ev.go (f := fun k => (impl_TabOk.f k l).bind fun t => if t = true then impl_TabNow.l0 k l who true l l.length (i + 1) x.f0 x.f1 x.f2 else impl_TabNow.l0 k l who a.2 l l.length (i + 1) a.1.f0 a.1.f1 a.1.f2) ?_ (fun n => by
          rw [impl_TabNow.l0, if_pos h1, if_pos h.1, if_pos h1, hx, if_pos c, hw])
        refine Ev.bd (implOk l hl) ?_
        rw [ct]
        simp only [if_true, nowS, if_pos c] at ih ⊢
        exact ih
    · have ih := implNow_l0 l hl who s (i + 1) a h.cons.2.2 ha
      refine Ev.go (f := fun k => impl_TabNow.l0 k l who a.2 l l.length (i + 1) a.1.f0 a.1.f1 a.1.f2) ?_ (fun n => by
          rw [impl_TabNow.l0, if_pos h1, if_pos h.1, if_pos h1, hx, if_neg c, hw])
      simp only [nowS, if_neg c] at ih ⊢
      exact ih
def slot4 (r : S74 × Bool) : Int × Int × Int × Bool := (r.1.f0, r.1.f1, r.1.f2, r.2)
theorem implNow (l : List S74) (hl : l.length ≤ 1000000) (who : Int) : Ev (fun k => impl_TabNow.f k l who) (slot4 (slotNow l who)) := by
  rw [slotNow_eq]
  exact implNow_l0 l hl who l 0 (z74, false) (At.zero l) (fun _ => rfl)
theorem specNow_l0 (l : List S74) (hl : l.length ≤ 1000000) (who : Int) (hok : tabOk l = true) : ∀ (s : List S74) (i : Int) (a : S74 × Bool), At l i s →
    Ev (fun k => spec_TabNow.l0 k l who a.2 i a.1.f0 a.1.f1 a.1.f2) (slot4 (nowS who s a))
  | [], i, a, h => by
    have e := h.nil
    exact Ev.go (Ev.stop (g := fun k => spec_TabNow.j1 k l who a.2 i false a.1.f0 a.1.f1 a.1.f2) fun n => by rw [spec_TabNow.j1, if_neg (by simp)]; rfl) fun n => by rw [spec_TabNow.l0, if_neg (by omega)]
  | x :: s, i, a, h => by
    have h1 := h.cons.1
    have hx := h.rdS
    have hw : wrap64 (i + 1) = i + 1 := wrap_id (by have := h.1; omega) (by omega)
    refine Ev.go (f := fun k => spec_TabNow.j1 k l who a.2 i true a.1.f0 a.1.f1 a.1.f2) ?_ (fun n => by rw [spec_TabNow.l0, if_pos h1]; unfold spec_TabOk.f; rw [hok]; rfl)
    by_cases c : x.f0 = who
    · have e : Ev (fun k => spec_TabNow.j1 k l who a.2 i true a.1.f0 a.1.f1 a.1.f2) (slot4 (nowS who s (x, true))) := Ev.go (specNow_l0 l hl who hok s (i + 1) (x, true) h.cons.2.2) (fun n => by rw [spec_TabNow.j1, if_pos rfl, if_pos h.1, if_pos h1, hx, if_pos c, hw])
      simpa only [nowS, if_pos c] using e
    · have e : Ev (fun k => spec_TabNow.j1 k l who a.2 i true a.1.f0 a.1.f1 a.1.f2) (slot4 (nowS who s a)) := Ev.go (specNow_l0 l hl who hok s (i + 1) a h.cons.2.2) (fun n => by rw [spec_TabNow.j1, if_pos rfl, if_pos h.1, if_pos h1, hx, if_neg c, hw])
      simpa only [nowS, if_neg c] using e
theorem specNow (l : List S74) (hl : l.length ≤ 1000000) (who : Int) : Ev (fun k => spec_TabNow.f k l who) (slot4 (slotNow l who)) := by
  rw [slotNow_eq]
  cases c : tabOk l with
  | true => exact specNow_l0 l hl who c l 0 (z74, false) (At.zero l)
  | false =>
    refine Ev.go (f := fun k => spec_TabNow.j1 k l who false 0 false 0 0 0) (Ev.stop fun n => by rw [spec_TabNow.j1, if_neg (by simp)]; rfl) (fun n => ?_)
    unfold spec_TabNow.f
    rw [spec_TabNow.l0]
    split
    · unfold spec_TabOk.f; rw [c]; rfl
    · rfl
/-- The first of a version. -/
theorem implFind_l0 (l : List S74) (hl : l.length ≤ 1000000) (who ver : Int) (hok : tabOk l = true) : ∀ (s : List S74) (i : Int), At l i s → Ev (fun k => impl_TabFind.l0 k l who ver l l.length i) (findP s who ver)
  | [], i, h => Ev.stop fun n => by
    have e := h.nil
    rw [impl_TabFind.l0, if_neg (by omega)]; rfl
  | x :: s, i, h => by
    have h1 := h.cons.1
    have hx := h.rdS
    have hw : wrap64 (i + 1) = i + 1 := wrap_id (by have := h.1; omega) (by omega)
    have ih := implFind_l0 l hl who ver hok s (i + 1) h.cons.2.2
    by_cases c : x.f0 = who
    · by_cases c2 : x.f1 = ver
      · refine Ev.go (f := fun k => (impl_TabOk.f k l).bind fun t => if t = true then some (x.f2, true) else impl_TabFind.l0 k l who ver l l.length (i + 1)) ?_ (fun n => by rw [impl_TabFind.l0, if_pos h1, if_pos h.1, if_pos h1, hx, if_pos c, if_pos c2, hw])
        refine Ev.bd (implOk l hl) ?_
        rw [hok]
        unfold findP
        rw [List.find?_cons_of_pos (by simp [c, c2])]
        exact Ev.val fun n => by simp
      · refine Ev.go (r := findP (x :: s) who ver) (f := fun k => impl_TabFind.l0 k l who ver l l.length (i + 1)) ?_ (fun n => by rw [impl_TabFind.l0, if_pos h1, if_pos h.1, if_pos h1, hx, if_pos c, if_neg c2, hw])
        unfold findP at ih ⊢
        rw [List.find?_cons_of_neg (by simp [c2])]
        exact ih
    · refine Ev.go (r := findP (x :: s) who ver) (f := fun k => impl_TabFind.l0 k l who ver l l.length (i + 1)) ?_ (fun n => by rw [impl_TabFind.l0, if_pos h1, if_pos h.1, if_pos h1, hx, if_neg c, hw])
      unfold findP at ih ⊢
      rw [List.find?_cons_of_neg (by simp [c])]
      exact ih
theorem implFind (l : List S74) (hl : l.length ≤ 1000000) (who ver : Int) (hok : tabOk l = true) : Ev (fun k => impl_TabFind.f k l who ver) (findP l who ver) := implFind_l0 l hl who ver hok l 0 (At.zero l)
end Go.Proofs.Ytbgfkpagkhofpaa.PFnTab

/- Key tables: what is kept, one more, and the draws. -/
namespace Go.Proofs.Ytbgfkpagkhofpaa.PFnTab
open Go.RowKit Go.Proofs.YtbgfkpagkhofpaaW.PrintWords Go.Proofs.YtbgfkpagkhofpaaW.PrintLast
theorem keep_l1 (l acc m : List S74) (n : Int) (i : Int) (x : S74) (r : List S74) : ∀ (s : List S74) (j cnt : Int), At m j s → m.length ≤ 1000000 → 0 ≤ cnt → cnt ≤ j →
    Ev (fun k => if cnt + ((s.filter fun y => y.f0 == x.f0).length : Int) < n then (if acc.length < 5864062014805 then impl_TabKeep.l0 k l n (acc ++ [x]) l l.length (wrap64 (i + 1)) else none) else impl_TabKeep.l0 k l n acc l l.length (wrap64 (i + 1))) r →
    Ev (fun k => impl_TabKeep.l1 k l n acc cnt l l.length i m m.length j x.f0 x.f1 x.f2) r
  | [], j, cnt, h, hm, h0, h1, e => Ev.go e fun k => by
    have := h.nil
    rw [impl_TabKeep.l1, if_neg (by omega)]
    simp
  | y :: s, j, cnt, h, hm, h0, h1, e => by
    have hj := h.cons.1
    have hx := h.rdS
    have hw : wrap64 (j + 1) = j + 1 := wrap_id (by have := h.1; omega) (by omega)
    have hc : wrap64 (cnt + 1) = cnt + 1 := wrap_id (by omega) (by omega)
    by_cases c : y.f0 = x.f0
    · refine Ev.go (keep_l1 l acc m n i x r s (j + 1) (cnt + 1) h.cons.2.2 hm (by omega) (by omega) (Ev.fit e ?_)) fun k => by rw [impl_TabKeep.l1, if_pos hj, if_pos h.1, if_pos hj, hx, if_pos c, hw, hc]
      funext k
      rw [List.filter_cons_of_pos (by simp [c]), List.length_cons]
      have : cnt + 1 + ((s.filter fun y => y.f0 == x.f0).length : Int) = cnt + (((s.filter fun y => y.f0 == x.f0).length + 1 : Nat) : Int) := by omega
      rw [this]
    · refine Ev.go (keep_l1 l acc m n i x r s (j + 1) cnt h.cons.2.2 hm h0 (by omega) (Ev.fit e ?_)) fun k => by rw [impl_TabKeep.l1, if_pos hj, if_pos h.1, if_pos hj, hx, if_neg c, hw]
      funext k
      rw [List.filter_cons_of_neg (by simp [c])]
theorem keep_l0 (l : List S74) (hl : l.length ≤ 1000000) (n : Int) : ∀ (s : List S74) (i : Int) (acc : List S74), At l i s → acc.length ≤ i → Ev (fun k => impl_TabKeep.l0 k l n acc l l.length i) (acc ++ keepL n s)
  | [], i, acc, h, ha => Ev.stop fun k => by
    have := h.nil
    rw [impl_TabKeep.l0, if_neg (by omega)]
    simp [keepL]
  | x :: s, i, acc, h, ha => by
    have h1 := h.cons.1
    have hx := h.rdS
    have hw : wrap64 (i + 1) = i + 1 := wrap_id (by have := h.1; omega) (by omega)
    have hd : l.drop (i + 1).toNat = s := h.cons.2.2.2.2
    have hs : s.length ≤ 1000000 := by rw [← hd, List.length_drop]; omega
    refine Ev.go (f := fun k => impl_TabKeep.l1 k l n acc 0 l l.length i s s.length 0 x.f0 x.f1 x.f2) ?_ fun k => by
      rw [impl_TabKeep.l0, if_pos h1, if_pos h.1, if_pos h1, hw, if_pos (by have := h.1; omega), if_pos (by omega), hd, hx]
      simp only [Option.bind_some]
    refine keep_l1 l acc s n i x _ s 0 0 (At.zero s) hs (by omega) (by omega) ?_
    rw [hw]
    have h10 := h.1
    by_cases c : ((s.filter fun y => y.f0 == x.f0).length : Int) < n
    · have ih := keep_l0 l hl n s (i + 1) (acc ++ [x]) h.cons.2.2 (by simp; omega)
      refine Ev.fit ?_ (show _ = fun k => impl_TabKeep.l0 k l n (acc ++ [x]) l l.length (i + 1) from by funext k; rw [if_pos (by omega), if_pos (by omega)])
      rw [keepL, if_pos c]
      simpa using ih
    · have ih := keep_l0 l hl n s (i + 1) acc h.cons.2.2 (by omega)
      refine Ev.fit ?_ (show _ = fun k => impl_TabKeep.l0 k l n acc l l.length (i + 1) from by funext k; rw [if_neg (by omega)])
      rw [keepL, if_neg c]
      exact ih
theorem implKeep (l : List S74) (hl : l.length ≤ 1000000) (n : Int) : Ev (fun k => impl_TabKeep.f k l n) (keepP l n) := by
  unfold keepP
  refine Ev.fit (f := fun k => (impl_TabOk.f k l).bind fun t => if t = true then impl_TabKeep.l0 k l n [] l l.length 0 else some []) ?_ (by funext k; rfl)
  refine Ev.bd (implOk l hl) ?_
  cases c : tabOk l with
  | false => exact Ev.val fun k => by simp
  | true => exact Ev.fit (keep_l0 l hl n l 0 [] (At.zero l) (by simp)) (by funext k; simp)
theorem last_l0 (l : List S74) (hl : l.length ≤ 1000000) (who : Int) : ∀ (s : List S74) (i a : Int), At l i s → Ev (fun k => spec_l19Last.l0 k l who a i) (match nowP s who with
    | some x => x.f1
    | none => a)
  | [], i, a, h => Ev.stop fun k => by
    have := h.nil
    rw [spec_l19Last.l0, if_neg (by omega)]; rfl
  | x :: s, i, a, h => by
    have h1 := h.cons.1
    have hx := h.rdS
    have hw : wrap64 (i + 1) = i + 1 := wrap_id (by have := h.1; omega) (by omega)
    by_cases c : x.f0 = who
    · refine Ev.go (f := fun k => spec_l19Last.l0 k l who x.f1 (i + 1)) ?_ fun k => by rw [spec_l19Last.l0, if_pos h1, if_pos h.1, hx, if_pos c, hw]
      have ih := last_l0 l hl who s (i + 1) x.f1 h.cons.2.2
      unfold nowP at ih ⊢
      rw [List.filter_cons_of_pos (by simp [c]), List.getLast?_cons]
      cases e : (s.filter fun x => x.f0 == who).getLast? with
      | none => rw [e] at ih; exact ih
      | some y => rw [e] at ih; exact ih
    · refine Ev.go (f := fun k => spec_l19Last.l0 k l who a (i + 1)) ?_ fun k => by rw [spec_l19Last.l0, if_pos h1, if_pos h.1, hx, if_neg c, hw]
      have ih := last_l0 l hl who s (i + 1) a h.cons.2.2
      unfold nowP at ih ⊢
      rw [List.filter_cons_of_neg (by simp [c])]
      exact ih
theorem specLast (l : List S74) (hl : l.length ≤ 1000000) (who : Int) : Ev (fun k => spec_l19Last.f k l who) (lastP l who) := last_l0 l hl who l 0 0 (At.zero l)
/-- One more, put in on the way. -/
def insS (n : S74) : List S74 → Bool → List S74
  | [], p => if p = true then [] else [n]
  | x :: s, p => if p = true then x :: insS n s true else if x.f0 > n.f0 then n :: x :: insS n s true else x :: insS n s false
theorem insS_true (n : S74) : ∀ s : List S74, insS n s true = s
  | [] => rfl
  | x :: s => by rw [insS, if_pos rfl, insS_true n s]
theorem insS_false (n : S74) : ∀ s : List S74, insS n s false = insP s n
  | [] => rfl
  | x :: s => by
    rw [insS, if_neg (by simp), insS_true, insS_false n s]
    unfold insP
    by_cases c : x.f0 > n.f0
    · rw [if_pos c, List.takeWhile_cons_of_neg (by simp; omega), List.dropWhile_cons_of_neg (by simp; omega)]; rfl
    · rw [if_neg c, List.takeWhile_cons_of_pos (by simp; omega), List.dropWhile_cons_of_pos (by simp; omega)]; rfl
theorem add_l0 (l same : List S74) (hl : l.length ≤ 1000000) (who key ver : Int) : ∀ (s : List S74) (i : Int) (out : List S74) (p : Bool), At l i s → out.length ≤ i + (if p = true then 1 else 0) →
    Ev (fun k => spec_TabAdd.l0 k l who key same ver out p i) (if ∀ x ∈ s, x.f2 ≠ key then (out ++ insS ⟨who, ver, key⟩ s p, true) else (same, false))
  | [], i, out, p, h, ho => Ev.stop fun k => by
    have e := h.nil
    rw [spec_TabAdd.l0, if_neg (by omega)]
    cases p with
    | true => simp [insS]
    | false =>
      have hlt : out.length < 5864062014805 := by have : (if false = true then (1 : Int) else 0) = 0 := rfl; omega
      simp [insS, hlt]
  | x :: s, i, out, p, h, ho => by
    have h1 := h.cons.1
    have h10 := h.1
    have hx := h.rdS
    have hw : wrap64 (i + 1) = i + 1 := wrap_id (by omega) (by omega)
    by_cases c : x.f2 = key
    · exact Ev.stop fun k => by rw [spec_TabAdd.l0, if_pos h1, if_pos h10, hx, if_pos c, if_neg (fun h => h x (by simp) c)]
    · have hall : (∀ y ∈ x :: s, y.f2 ≠ key) ↔ ∀ y ∈ s, y.f2 ≠ key := by simp [c]
      cases p with
      | true =>
        simp only [if_true] at ho
        have ih := add_l0 l same hl who key ver s (i + 1) (out ++ [x]) true h.cons.2.2 (by simp; omega)
        refine Ev.go (f := fun k => spec_TabAdd.l0 k l who key same ver (out ++ [x]) true (i + 1)) ?_ fun k => by rw [spec_TabAdd.l0, if_pos h1, if_pos h10, hx, if_neg c, if_pos rfl, if_pos (by omega), hw]
        simp only [hall, insS]
        simpa using ih
      | false =>
        by_cases g : x.f0 > who
        · simp only [Bool.false_eq_true, if_false] at ho
          have ih := add_l0 l same hl who key ver s (i + 1) (out ++ [⟨who, ver, key⟩] ++ [x]) true h.cons.2.2 (by simp; omega)
          refine Ev.go (f := fun k => spec_TabAdd.l0 k l who key same ver (out ++ [⟨who, ver, key⟩] ++ [x]) true (i + 1)) ?_ fun k => by
            rw [spec_TabAdd.l0, if_pos h1, if_pos h10, hx, if_neg c, if_neg (by simp), if_pos g, if_pos (by omega)]
            simp only [Option.bind_some]
            rw [if_pos (by simp; omega), hw]
          simp only [hall, insS, if_pos g]
          simpa using ih
        · simp only [Bool.false_eq_true, if_false] at ho
          have ih := add_l0 l same hl who key ver s (i + 1) (out ++ [x]) false h.cons.2.2 (by simp; omega)
          refine Ev.go (f := fun k => spec_TabAdd.l0 k l who key same ver (out ++ [x]) false (i + 1)) ?_ fun k => by rw [spec_TabAdd.l0, if_pos h1, if_pos h10, hx, if_neg c, if_neg (by simp), if_neg g, if_pos (by omega), hw]
          simp only [hall, insS, if_neg g]
          simpa using ih

theorem specAdd (l : List S74) (hl : l.length ≤ 1000000) (who key : Int) : Ev (fun k => spec_TabAdd.f k l who key) (addP l who key) := by
  unfold addP
  cases hok : tabOk l with
  | false =>
    have hp : ¬ tabP l := by unfold tabOk at hok; simpa using hok
    rw [if_neg (fun h => hp h.1)]
    exact Ev.val fun k => by unfold spec_TabAdd.f spec_TabOk.f; rw [hok]; simp
  | true =>
    have hp : tabP l := by unfold tabOk at hok; simpa using hok
    have hlo := lastP_lo (who := who) hp.1
    have hhi := lastP_hi (who := who) hp.1
    have hw : wrap64 (lastP l who + 1) = lastP l who + 1 := wrap_id (by omega) (by omega)
    have hj : ∀ b : Bool, Ev (fun k => spec_TabAdd.j0 k l who key l (lastP l who + 1) b) (if b = true then (l, false) else if ∀ x ∈ l, x.f2 ≠ key then (insP l ⟨who, lastP l who + 1, key⟩, true) else (l, false)) := by
      intro b
      cases b with
      | true => exact Ev.stop fun k => by rw [spec_TabAdd.j0, if_pos rfl, if_pos rfl]
      | false =>
        have e : Ev (fun k => spec_TabAdd.j0 k l who key l (lastP l who + 1) false) _ := Ev.go (add_l0 l l hl who key (lastP l who + 1) l 0 [] false (At.zero l) (by simp)) (fun k => by rw [spec_TabAdd.j0, if_neg (by simp)])
        rw [if_neg (by simp)]
        simpa [insS_false] using e
    have hb : ∃ b : Bool, Ev (fun k => spec_TabAdd.f k l who key) (if b = true then (l, false) else if ∀ x ∈ l, x.f2 ≠ key then (insP l ⟨who, lastP l who + 1, key⟩, true) else (l, false)) ∧ (b = false ↔ (0 ≤ who ∧ who ≤ 99) ∧ (1 ≤ key ∧ key ≤ 1000000) ∧ l.length < 20 ∧ lastP l who + 1 ≤ 1000) := by
      have start : ∀ b, (∀ k, ((spec_l1In.f who 0 99).bind fun t137 => (if t137 = true then ((spec_l1In.f key 1 1000000).bind fun t138 => (if t138 = true then (if (l.length : Int) ≥ 20 then (spec_TabAdd.j0 k l who key l (lastP l who + 1) true) else (spec_TabAdd.j0 k l who key l (lastP l who + 1) (decide ((lastP l who + 1) > 1000)))) else (spec_TabAdd.j0 k l who key l (lastP l who + 1) true))) else (spec_TabAdd.j0 k l who key l (lastP l who + 1) true))) = spec_TabAdd.j0 k l who key l (lastP l who + 1) b) → Ev (fun k => spec_TabAdd.f k l who key) (if b = true then (l, false) else if ∀ x ∈ l, x.f2 ≠ key then (insP l ⟨who, lastP l who + 1, key⟩, true) else (l, false)) := by
        intro b hb
        refine Ev.fit (f := fun k => (spec_l19Last.f k l who).bind fun t136 => ((spec_l1In.f who 0 99).bind fun t137 => (if t137 = true then ((spec_l1In.f key 1 1000000).bind fun t138 => (if t138 = true then (if (l.length : Int) ≥ 20 then (spec_TabAdd.j0 k l who key l (wrap64 (t136 + 1)) true) else (spec_TabAdd.j0 k l who key l (wrap64 (t136 + 1)) (decide ((wrap64 (t136 + 1)) > 1000)))) else (spec_TabAdd.j0 k l who key l (wrap64 (t136 + 1)) true))) else (spec_TabAdd.j0 k l who key l (wrap64 (t136 + 1)) true)))) ?_ (by
          funext k
          unfold spec_TabAdd.f spec_TabOk.f
          rw [hok]
          simp only [Option.bind_some, if_true, List.nil_append, List.length_nil, Nat.zero_add]
          rw [if_pos (by omega)])
        refine Ev.bd (specLast l hl who) ?_
        rw [hw]
        exact Ev.fit (hj b) (by funext k; exact hb k)
      by_cases c0 : 0 ≤ who ∧ who ≤ 99
      · by_cases c1 : 1 ≤ key ∧ key ≤ 1000000
        · by_cases c2 : (l.length : Int) ≥ 20
          · exact ⟨true, start true fun k => by rw [l1In_dec, l1In_dec, decide_eq_true c0, decide_eq_true c1]; simp [c2], ⟨fun h => by simp at h, fun h => by omega⟩⟩
          · by_cases c3 : lastP l who + 1 > 1000
            · exact ⟨true, start true fun k => by rw [l1In_dec, l1In_dec, decide_eq_true c0, decide_eq_true c1]; simp [c2, c3], ⟨fun h => by simp at h, fun h => by omega⟩⟩
            · exact ⟨false, start false fun k => by rw [l1In_dec, l1In_dec, decide_eq_true c0, decide_eq_true c1]; simp [c2, c3], ⟨fun _ => ⟨c0, c1, by omega, by omega⟩, fun _ => rfl⟩⟩
        · exact ⟨true, start true fun k => by rw [l1In_dec, l1In_dec, decide_eq_true c0, decide_eq_false c1]; simp, ⟨fun h => by simp at h, fun h => absurd h.2.1 c1⟩⟩
      · exact ⟨true, start true fun k => by rw [l1In_dec, decide_eq_false c0]; simp, ⟨fun h => by simp at h, fun h => absurd h.1 c0⟩⟩
    obtain ⟨b, he, hb⟩ := hb
    by_cases ha : addOk l who key
    · have : b = false := hb.2 ⟨ha.2.1, ha.2.2.1, ha.2.2.2.1, ha.2.2.2.2.1⟩
      rw [this, if_neg (by simp), if_pos ha.2.2.2.2.2] at he
      rw [if_pos ha]
      exact he
    · rw [if_neg ha]
      simp only [if_true]
      cases b with
      | true => simpa using he
      | false =>
        have h4 := hb.1 rfl
        rw [if_neg (by simp), if_neg (fun h => ha ⟨hp, h4.1, h4.2.1, h4.2.2.1, h4.2.2.2, h⟩)] at he
        exact he
theorem implAdd (l : List S74) (hl : l.length ≤ 11) (who key : Int) : Ev (fun k => impl_TabAdd.f k l who key) (addP l who key) := by
  unfold addP
  refine Ev.fit (f := fun k => (impl_TabOk.f k l).bind _) ?_ (by funext k; unfold impl_TabAdd.f; rfl)
  refine Ev.bd (implOk l (by omega)) ?_
  cases hok : tabOk l with
  | false =>
    have hp : ¬ tabP l := by unfold tabOk at hok; simpa using hok
    rw [if_neg (fun h => hp h.1)]
    exact Ev.val fun k => by simp
  | true =>
    have hp : tabP l := by unfold tabOk at hok; simpa using hok
    have hlo := lastP_lo (who := who) hp.1
    have hhi := lastP_hi (who := who) hp.1
    have hw : wrap64 (lastP l who + 1) = lastP l who + 1 := wrap_id (by omega) (by omega)
    have hv : (slot4 (slotNow l who)).2.1 = lastP l who := by
      unfold slotNow lastP slot4
      rw [hok]
      cases nowP l who <;> rfl
    have hcp : impl_copySlots.f l = some l := by unfold impl_copySlots.f; rw [if_pos (by simp; omega)]; rfl
    rw [if_pos rfl]
    refine Ev.fit (f := fun k => (impl_TabNow.f k l who).bind _) ?_ (by funext k; rw [hcp]; rfl)
    refine Ev.bd (implNow l (by omega) who) ?_
    rw [hv, isWho_dec, isKey_dec]
    by_cases c0 : 0 ≤ who ∧ who ≤ 99
    rotate_left
    · rw [if_neg (show ¬ addOk l who key from fun h => c0 h.2.1), decide_eq_false c0]
      exact Ev.val fun k => by simp
    by_cases c1 : 1 ≤ key ∧ key ≤ 1000000
    rotate_left
    · rw [if_neg (show ¬ addOk l who key from fun h => c1 h.2.2.1), decide_eq_true c0, decide_eq_false c1]
      exact Ev.val fun k => by simp
    by_cases c2 : ∀ x ∈ l, x.f2 ≠ key
    rotate_left
    · rw [if_neg (show ¬ addOk l who key from fun h => c2 h.2.2.2.2.2), decide_eq_true c0, decide_eq_true c1]
      have : (l.any fun x => x.f2 == key) = true := by
        cases e : l.any fun x => x.f2 == key with
        | true => rfl
        | false => exact absurd ((hasKey_iff _ _).1 e) c2
      exact Ev.val fun k => by unfold impl_hasKey.f; rw [this]; simp
    have hk : (l.any fun x => x.f2 == key) = false := (hasKey_iff _ _).2 c2
    by_cases c3 : lastP l who = 1000
    · rw [if_neg (show ¬ addOk l who key from fun h => by have := h.2.2.2.2.1; omega), decide_eq_true c0, decide_eq_true c1]
      exact Ev.val fun k => by unfold impl_hasKey.f; rw [hk]; simp [c3, show ¬ ((l.length : Int) = 20) by omega]
    · have ha : addOk l who key := ⟨hp, c0, c1, by omega, by omega, c2⟩
      rw [if_pos ha, decide_eq_true c0, decide_eq_true c1]
      have hs := sortF_of (l := l ++ [(⟨who, lastP l who + 1, key⟩ : S74)]) (n := ⟨who, lastP l who + 1, key⟩) (by simp; omega) (by simp) (by rw [List.dropLast_concat]; exact (add_ok ha).1)
      rw [List.dropLast_concat] at hs
      refine Ev.val fun k => ?_
      unfold impl_hasKey.f
      rw [hk, hw]
      simp only [Option.bind_some, if_true, Bool.false_eq_true, if_false]
      rw [if_neg (by omega), if_neg c3, if_pos (by omega), hs]
      rfl
end Go.Proofs.Ytbgfkpagkhofpaa.PFnTab

/- Key tables: the draws, and the law. -/
namespace Go.Proofs.Ytbgfkpagkhofpaa.PFnTab
open Go.RowKit Go.Proofs.YtbgfkpagkhofpaaW.PrintWords Go.Proofs.YtbgfkpagkhofpaaW.PrintLast
theorem skeep_l1 (l acc : List S74) (n : Int) (i : Int) (hi0 : 0 ≤ i) (hi1 : i < (l.length : Int)) (hl : l.length ≤ 1000000) (r : List S74) : ∀ (s : List S74) (j cnt : Int), At l j s → 0 ≤ cnt → cnt ≤ j →
    Ev (fun k => if cnt + ((s.filter fun y => y.f0 == (rd_T74 l i).f0).length : Int) < n then (if acc.length < 5864062014805 then spec_TabKeep.l0 k l n (acc ++ [rd_T74 l i]) (wrap64 (i + 1)) else none) else spec_TabKeep.l0 k l n acc (wrap64 (i + 1))) r →
    Ev (fun k => spec_TabKeep.l1 k l n acc i cnt j) r
  | [], j, cnt, h, h0, h1, e => Ev.go e fun k => by
    have := h.nil
    rw [spec_TabKeep.l1, if_neg (by omega), if_pos hi0, if_pos hi1]
    simp
  | y :: s, j, cnt, h, h0, h1, e => by
    have hj := h.cons.1
    have hx := h.rdS
    have hw : wrap64 (j + 1) = j + 1 := wrap_id (by have := h.1; omega) (by omega)
    have hc : wrap64 (cnt + 1) = cnt + 1 := wrap_id (by omega) (by omega)
    by_cases c : y.f0 = (rd_T74 l i).f0
    · refine Ev.go (skeep_l1 l acc n i hi0 hi1 hl r s (j + 1) (cnt + 1) h.cons.2.2 (by omega) (by omega) (Ev.fit e ?_)) fun k => by rw [spec_TabKeep.l1, if_pos hj, if_pos h.1, if_pos hi0, if_pos hi1, hx, if_pos c, hw, hc]
      funext k
      rw [List.filter_cons_of_pos (by simp [c]), List.length_cons]
      have : cnt + 1 + ((s.filter fun y => y.f0 == (rd_T74 l i).f0).length : Int) = cnt + (((s.filter fun y => y.f0 == (rd_T74 l i).f0).length + 1 : Nat) : Int) := by omega
      rw [this]
    · refine Ev.go (skeep_l1 l acc n i hi0 hi1 hl r s (j + 1) cnt h.cons.2.2 h0 (by omega) (Ev.fit e ?_)) fun k => by rw [spec_TabKeep.l1, if_pos hj, if_pos h.1, if_pos hi0, if_pos hi1, hx, if_neg c, hw]
      funext k
      rw [List.filter_cons_of_neg (by simp [c])]
theorem skeep_l0 (l : List S74) (hl : l.length ≤ 1000000) (n : Int) : ∀ (s : List S74) (i : Int) (acc : List S74), At l i s → acc.length ≤ i → ∃ r, Ev (fun k => spec_TabKeep.l0 k l n acc i) r ∧ r.length ≤ acc.length + s.length
  | [], i, acc, h, ha => ⟨acc, Ev.go (f := fun k => spec_TabKeep.j1 k l n acc i false) (Ev.stop fun k => by rw [spec_TabKeep.j1, if_neg (by simp)]) (fun k => by
    have := h.nil
    rw [spec_TabKeep.l0, if_neg (by omega)]), by simp⟩
  | x :: s, i, acc, h, ha => by
    have h1 := h.cons.1
    have h10 := h.1
    have hw : wrap64 (i + 1) = i + 1 := wrap_id (by omega) (by omega)
    cases hok : tabOk l with
    | false => exact ⟨acc, Ev.go (f := fun k => spec_TabKeep.j1 k l n acc i false) (Ev.stop fun k => by rw [spec_TabKeep.j1, if_neg (by simp)]) (fun k => by rw [spec_TabKeep.l0, if_pos h1]; unfold spec_TabOk.f; rw [hok]; rfl), by simp⟩
    | true =>
      have go : ∀ r, Ev (fun k => spec_TabKeep.l1 k l n acc i 0 (i + 1)) r → Ev (fun k => spec_TabKeep.l0 k l n acc i) r := fun r e =>
        Ev.go (f := fun k => spec_TabKeep.j1 k l n acc i true) (Ev.go e fun k => by rw [spec_TabKeep.j1, if_pos rfl, hw]) fun k => by rw [spec_TabKeep.l0, if_pos h1]; unfold spec_TabOk.f; rw [hok]; rfl
      by_cases c : 0 + ((s.filter fun y => y.f0 == (rd_T74 l i).f0).length : Int) < n
      · obtain ⟨r, e, hr⟩ := skeep_l0 l hl n s (i + 1) (acc ++ [rd_T74 l i]) h.cons.2.2 (by simp; omega)
        refine ⟨r, go r (skeep_l1 l acc n i h10 h1 hl r s (i + 1) 0 h.cons.2.2 (by omega) (by omega) (Ev.fit e ?_)), by simp at hr ⊢; omega⟩
        funext k
        rw [if_pos c, if_pos (by omega), hw]
      · obtain ⟨r, e, hr⟩ := skeep_l0 l hl n s (i + 1) acc h.cons.2.2 (by omega)
        refine ⟨r, go r (skeep_l1 l acc n i h10 h1 hl r s (i + 1) 0 h.cons.2.2 (by omega) (by omega) (Ev.fit e ?_)), by simp at hr ⊢; omega⟩
        funext k
        rw [if_neg c, hw]
theorem specKeep (l : List S74) (hl : l.length ≤ 1000000) (n : Int) : ∃ r, Ev (fun k => spec_TabKeep.f k l n) r ∧ r.length ≤ l.length := by
  obtain ⟨r, e, hr⟩ := skeep_l0 l hl n l 0 [] (At.zero l) (by simp)
  exact ⟨r, e, by simpa using hr⟩
theorem addP_len (l : List S74) (who key : Int) : (addP l who key).1.length ≤ l.length + 1 := by
  unfold addP
  split
  · rw [insP_len]; exact Nat.le_refl _
  · split <;> simp
theorem tab_j2 (b : List Int) (t : List S74) (c : Bool) (i h : Int) (ht : t.length ≤ 11) (h0 : c = true → 0 < t.length) (hs : St b i) : ∃ r i' h', Ev (fun k => spec_l19Tab.j2 k t c b i h) (r, i', h') ∧ r.length ≤ 11 ∧ St b i' := by
  cases c with
  | false => exact ⟨t, i, h, Ev.stop fun k => by rw [spec_l19Tab.j2, if_neg (by simp)], ht, hs⟩
  | true =>
    have hp := h0 rfl
    obtain ⟨x, i1, h1, e1, x0, _, x1, _, s1⟩ := below_ev h (t.length : Int) hs (by omega)
    obtain ⟨y, i2, h2, e2, y0, _, _, _, s2⟩ := below_ev h1 3 s1 (by omega)
    obtain ⟨p, i3, h3, e3, _, s3⟩ := pick_ev h2 [(-1), 1, 99, 100] s2 (by simp) (by simp)
    obtain ⟨q, i4, h4, e4, _, s4⟩ := pick_ev h2 [0, 1, 1000, 1001] s2 (by simp) (by simp)
    obtain ⟨u, i5, h5, e5, _, s5⟩ := pick_ev h2 [0, 6, 1000001] s2 (by simp) (by simp)
    have hx : x < (t.length : Int) := x1 (by omega)
    by_cases c0 : y = 0
    · refine ⟨t.set x.toNat ⟨p, (rd_T74 t x).f1, (rd_T74 t x).f2⟩, i3, h3, Ev.stop fun k => ?_, ?_, s3⟩
      · rw [spec_l19Tab.j2, if_pos rfl, e1]
        simp only [Option.bind_some]
        rw [e2]
        simp only [Option.bind_some]
        rw [if_pos c0, e3]
        simp only [Option.bind_some]
        rw [if_pos x0, if_pos hx]
      · simpa using ht
    · by_cases c1 : y = 1
      · refine ⟨t.set x.toNat ⟨(rd_T74 t x).f0, q, (rd_T74 t x).f2⟩, i4, h4, Ev.stop fun k => ?_, ?_, s4⟩
        · rw [spec_l19Tab.j2, if_pos rfl, e1]
          simp only [Option.bind_some]
          rw [e2]
          simp only [Option.bind_some]
          rw [if_neg c0, if_pos c1, e4]
          simp only [Option.bind_some]
          rw [if_pos x0, if_pos hx]
        · simpa using ht
      · refine ⟨t.set x.toNat ⟨(rd_T74 t x).f0, (rd_T74 t x).f1, u⟩, i5, h5, Ev.stop fun k => ?_, ?_, s5⟩
        · rw [spec_l19Tab.j2, if_pos rfl, e1]
          simp only [Option.bind_some]
          rw [e2]
          simp only [Option.bind_some]
          rw [if_neg c0, if_neg c1, e5]
          simp only [Option.bind_some]
          rw [if_pos x0, if_pos hx]
        · simpa using ht
theorem tab_j1 (b : List Int) (t : List S74) (i h : Int) (ht : t.length ≤ 11) (hs : St b i) : ∃ r i' h', Ev (fun k => spec_l19Tab.j1 k t b i h) (r, i', h') ∧ r.length ≤ 11 ∧ St b i' := by
  by_cases c : (t.length : Int) > 0
  · obtain ⟨x, i1, h1, e1, s1⟩ := once_ev h 10 hs (by omega)
    obtain ⟨r, i', h', e, hr, s⟩ := tab_j2 b t x i1 h1 ht (fun _ => by omega) s1
    exact ⟨r, i', h', Ev.go e fun k => by rw [spec_l19Tab.j1, if_pos c, e1]; rfl, hr, s⟩
  · obtain ⟨r, i', h', e, hr, s⟩ := tab_j2 b t false i h ht (by simp) hs
    exact ⟨r, i', h', Ev.go e fun k => by rw [spec_l19Tab.j1, if_neg c], hr, s⟩
theorem tab_l0 (b : List Int) : ∀ (d : Nat) (t : List S74) (key c i h : Int), c = d → t.length + d ≤ 11 → St b i → ∃ r i' h', Ev (fun k => spec_l19Tab.l0 k t key c b i h) (r, i', h') ∧ r.length ≤ 11 ∧ St b i'
  | 0, t, key, c, i, h, hc, ht, hs => by
    obtain ⟨x, i1, h1, e1, s1⟩ := once_ev h 4 hs (by omega)
    cases x with
    | false =>
      obtain ⟨r, i', h', e, hr, s⟩ := tab_j1 b t i1 h1 (by omega) s1
      exact ⟨r, i', h', Ev.go e fun k => by rw [spec_l19Tab.l0, if_neg (by omega), e1]; simp, hr, s⟩
    | true =>
      obtain ⟨y, i2, h2, e2, y0, y1, _, _, s2⟩ := below_ev h1 2 s1 (by omega)
      obtain ⟨m, em, hm⟩ := specKeep t (by omega) (wrap64 (1 + y))
      obtain ⟨r, i', h', e, hr, s⟩ := tab_j1 b m i2 h2 (by omega) s2
      refine ⟨r, i', h', Ev.go (f := fun k => (spec_TabKeep.f k t (wrap64 (1 + y))).bind fun t197 => spec_l19Tab.j1 k t197 b i2 h2) (Ev.bd em e) fun k => ?_, hr, s⟩
      rw [spec_l19Tab.l0, if_neg (by omega), e1]
      simp only [Option.bind_some, if_true]
      rw [e2]
      rfl
  | d + 1, t, key, c, i, h, hc, ht, hs => by
    obtain ⟨x, i1, h1, e1, _, _, _, _, s1⟩ := below_ev h 4 hs (by omega)
    obtain ⟨y, i2, h2, e2, _, _, _, _, s2⟩ := below_ev h1 2 s1 (by omega)
    have hl := addP_len t x key
    obtain ⟨r, i', h', e, hr, s⟩ := tab_l0 b d (addP t x key).1 (wrap64 ((wrap64 (key + 1)) + y)) (c - 1) i2 h2 (by omega) (by omega) s2
    refine ⟨r, i', h', Ev.go (f := fun k => (spec_TabAdd.f k t x key).bind fun bt184 => spec_l19Tab.l0 k bt184.1 (wrap64 ((wrap64 (key + 1)) + y)) (c - 1) b i2 h2) (Ev.bd (specAdd t (by omega) x key) e) fun k => ?_, hr, s⟩
    rw [spec_l19Tab.l0, if_pos (by omega), e1]
    simp only [Option.bind_some]
    congr 1
    funext bt
    rw [e2, wrap_id (x := c - 1) (by omega) (by omega)]
    rfl
theorem drawTab (b : List Int) (hb : (b.length : Int) ≤ 140737488351232) : ∃ t who key, Ev (fun k => spec_DrawTabAdd.f k b) (t, who, key) ∧ t.length ≤ 11 := by
  obtain ⟨h0, e0⟩ := new_ev b hb
  obtain ⟨w, i1, h1, e1, _, s1⟩ := pick_ev h0 [0, 1, 2, 3, 99, 100, (-1)] (st_new hb) (by simp) (by simp)
  obtain ⟨u, i2, h2, e2, _, s2⟩ := pick_ev h1 [6, 50, 51, 0, 1000000, 1000001] s1 (by simp) (by simp)
  obtain ⟨n, i3, h3, e3, _, _, n1, _, s3⟩ := below_ev h2 12 s2 (by omega)
  have hn : n < 12 := n1 (by omega)
  obtain ⟨r, i', h', e, hr, s⟩ := tab_l0 b n.toNat [] 5 n i3 h3 (by omega) (by simp; omega) s3
  refine ⟨r, w, u, Ev.fit (f := fun k => (spec_l1New.f k b).bind _) (Ev.bd e0 ?_) (by funext k; unfold spec_DrawTabAdd.f; rfl), hr⟩
  refine Ev.fit (f := fun k => (spec_l19Tab.l0 k [] 5 n b i3 h3).bind fun bt => some (bt.1, w, u)) (Ev.bd e (Ev.now _)) ?_
  funext k
  simp only
  rw [e1]
  simp only [Option.bind_some]
  rw [e2]
  simp only [Option.bind_some]
  unfold spec_l19Tab.f
  rw [e3]
  rfl
theorem keepL_ok {l : List S74} (h : tabP l) (n : Int) : tabOk (keepL n l) = true := by
  unfold tabOk
  exact decide_eq_true (h.sub (keepL_sub n l))
/-- The end of the law: what is found, and what is kept. -/
theorem law_l0 (t x : List S74) (hx : tabP x) (hsub : ∀ y ∈ t, y ∈ x) (ht : t.length ≤ 1000000) (who : Int) : ∀ (s : List S74) (i : Int), At t i s →
    Ev (fun k => laws_FnTab.l0 k t who x (slotNow x who).2 i (slotNow x who).1.f0 (slotNow x who).1.f1 (slotNow x who).1.f2) true
  | [], i, h => by
    have hl : x.length ≤ 1000000 := by have := hx.2; omega
    have hok : tabOk x = true := decide_eq_true hx
    have hone : (keepP x 1) = keepL 1 x := by unfold keepP; rw [if_pos hok]
    have h20 : (keepP x 20) = x := by unfold keepP; rw [if_pos hok, keepL_all x (by have := hx.2; omega)]
    have h0 : (keepP x 0) = [] := by unfold keepP; rw [if_pos hok, keepL_zero]
    have h1ok := keepL_ok hx 1
    have h1l : (keepL 1 x).length ≤ 1000000 := Nat.le_trans (keepL_sub 1 x).length_le hl
    have hnow : slotNow (keepL 1 x) who = slotNow x who := by unfold slotNow; rw [h1ok, hok, keepL_now]
    refine Ev.go (f := fun k => (impl_TabKeep.f k x 1).bind _) ?_ (fun k => by rw [laws_FnTab.l0, if_neg (by have := h.nil; omega)])
    refine Ev.bd (implKeep x hl 1) ?_
    rw [hone]
    refine Ev.bd (implNow (keepL 1 x) h1l who) ?_
    rw [hnow]
    refine Ev.fit (f := fun k => (impl_TabKeep.f k x 20).bind _) ?_ (by
      funext k
      unfold slot4 spec_TabOk.f
      simp only [beq_self_eq_true, Bool.and_self, if_true, h1ok, Option.bind_some]
      rfl)
    refine Ev.bd (implKeep x hl 20) ?_
    rw [h20]
    refine Ev.fit (f := fun k => (impl_TabKeep.f k x 0).bind fun t365 => some ((t365.length : Int) == 0)) ?_ (by funext k; rw [if_pos rfl])
    refine Ev.bd (implKeep x hl 0) ?_
    rw [h0]
    exact Ev.now _
  | y :: s, i, h => by
    have hl : x.length ≤ 1000000 := by have := hx.2; omega
    have hok : tabOk x = true := decide_eq_true hx
    have h1 := h.cons.1
    have hw : wrap64 (i + 1) = i + 1 := wrap_id (by have := h.1; omega) (by omega)
    refine Ev.go (f := fun k => (impl_TabFind.f k x y.f0 y.f1).bind fun bt350 => (if bt350.2 = true then (if bt350.1 = y.f2 then (laws_FnTab.l0 k t who x (slotNow x who).2 (i + 1) (slotNow x who).1.f0 (slotNow x who).1.f1 (slotNow x who).1.f2) else (some false)) else (some false))) ?_ (fun k => by rw [laws_FnTab.l0, if_pos h1, if_pos h.1, h.rdS, hw])
    refine Ev.bd (implFind x hl _ _ hok) ?_
    rw [find_mem hx.1 (hsub y h.mem)]
    exact Ev.fit (law_l0 t x hx hsub ht who s (i + 1) h.cons.2.2) (by funext k; simp)
theorem law_ev (b : List Int) (hb : (b.length : Int) ≤ 140737488351232) : Ev (fun k => laws_FnTab.f k b) true := by
  cases hbig : laws_big.f b with
  | none => unfold laws_big.f at hbig; simp at hbig
  | some big =>
    cases big with
    | true => exact Ev.val fun k => by unfold laws_FnTab.f; rw [hbig]; simp only [Option.bind_some, if_true]
    | false =>
      obtain ⟨t, who, key, ed, ht⟩ := drawTab b hb
      unfold laws_FnTab.f
      rw [hbig]
      simp only [Option.bind_some, Bool.false_eq_true, if_false]
      refine Ev.bd ed ?_
      refine Ev.bd (implAdd t ht who key) ?_
      refine Ev.bd (specAdd t (by omega) who key) ?_
      simp only [bne_self_eq_false, Bool.false_eq_true, if_false]
      unfold spec_TabOk.f
      simp only [Option.bind_some]
      cases hok : tabOk t with
      | false =>
        have hp : ¬ tabP t := by unfold tabOk at hok; simpa using hok
        have ha : addP t who key = ([], false) := by unfold addP; rw [if_neg (fun h => hp h.1), hok]; rfl
        rw [ha]
        simp only [Bool.false_eq_true, if_false]
        exact Ev.val fun k => by simp
      | true =>
        have hp : tabP t := by unfold tabOk at hok; simpa using hok
        simp only [if_true]
        refine Ev.bd (specNow t (by omega) who) ?_
        have hal := addP_len t who key
        refine Ev.bd (implNow (addP t who key).1 (by omega) who) ?_
        have fin : ∀ x : List S74, tabP x → (∀ y ∈ t, y ∈ x) → Ev (fun k => laws_FnTab.j0 k t who x (slotNow x who).2 false (slotNow x who).1.f0 (slotNow x who).1.f1 (slotNow x who).1.f2) true := fun x hx hs =>
          Ev.go (law_l0 t x hx hs (by omega) who t 0 (At.zero t)) fun k => by rw [laws_FnTab.j0, if_neg (by simp)]
        by_cases ha : addOk t who key
        · have hadd : addP t who key = (insP t ⟨who, lastP t who + 1, key⟩, true) := by unfold addP; rw [if_pos ha]
          rw [hadd]
          have hx := add_ok ha
          have hxo : tabOk (insP t ⟨who, lastP t who + 1, key⟩) = true := decide_eq_true hx
          have hnow : slotNow (insP t ⟨who, lastP t who + 1, key⟩) who = (⟨who, lastP t who + 1, key⟩, true) := by
            unfold slotNow
            rw [hxo]
            have := insP_now (l := t) (n := ⟨who, lastP t who + 1, key⟩) ha.1.1
            simp only at this
            rw [this]
            rfl
          have hlen := insP_len t ⟨who, lastP t who + 1, key⟩
          have f := fin _ hx (fun y hy => insP_mem hy)
          have hlo := lastP_lo (who := who) hp.1
          have hhi := lastP_hi (who := who) hp.1
          have hwl : wrap64 ((t.length : Int) + 1) = (t.length : Int) + 1 := wrap_id (by omega) (by omega)
          refine Ev.fit f ?_
          funext k
          rw [hnow]
          unfold slot4
          simp only [if_true]
          cases e : nowP t who with
          | some y =>
            have hy : slotNow t who = (y, true) := by unfold slotNow; rw [hok, e]; rfl
            have hv : lastP t who = y.f1 := by unfold lastP; rw [e]
            have hw1 : wrap64 (y.f1 + 1) = lastP t who + 1 := by rw [← hv]; exact wrap_id (by omega) (by omega)
            rw [hy]
            simp only [if_true]
            rw [hw1, if_pos rfl]
            rw [hxo]
            simp only [Option.bind_some, if_true]
            rw [hlen, hwl, if_pos (by omega)]
          | none =>
            have hy : slotNow t who = (z74, false) := by unfold slotNow; rw [hok, e]; rfl
            have hv : lastP t who = 0 := by unfold lastP; rw [e]
            rw [hy]
            simp only [Bool.false_eq_true, if_false]
            rw [if_pos (by omega)]
            rw [hxo]
            simp only [Option.bind_some, if_true]
            rw [hlen, hwl, if_pos (by omega)]
        · have hadd : addP t who key = (t, false) := by unfold addP; rw [if_neg ha, hok]; rfl
          rw [hadd]
          refine Ev.fit (fin t hp (fun y hy => hy)) ?_
          funext k
          unfold slot4
          simp
theorem FnTab_pure : laws_FnTab.Pure := by
  intro l0 _ h1 _
  exact (law_ev l0 (by omega)).rounds
end Go.Proofs.Ytbgfkpagkhofpaa.PFnTab

namespace Go.Proofs.Ytbgfkpagkhofpaa.Pure
open Go.Proofs.Ytbgfkpagkhofpaa.PFnTab
theorem FnTab : laws_FnTab.Pure := FnTab_pure
end Go.Proofs.Ytbgfkpagkhofpaa.Pure
