/- FnGroups: who belongs to a group below belongs to the one above; both ways around the same is told; put together nobody is lost: the plain part, on numbers and lists. -/
import Derived.Test.YtbgfkpagkhofpaaPFnGroupsx11
set_option linter.unusedVariables false
set_option linter.unusedSimpArgs false
/- Draws: a byte is from 0 to 255, what is drawn below n is below n; the place in the code stays in it. -/
namespace Go.Proofs.Ytbgfkpagkhofpaa.PFnGroups
open Go.RowKit Go.Proofs.YtbgfkpagkhofpaaW.PrintWords Go.Proofs.YtbgfkpagkhofpaaW.PrintLast
/-- The cursor stands in the code. -/
def St (b : List Int) (i : Int) : Prop := 0 ≤ i ∧ i ≤ (b.length : Int) ∧ (b.length : Int) ≤ 140737488351232
theorem wrap_id {x : Int} (h0 : -9223372036854775808 ≤ x) (h1 : x ≤ 9223372036854775807) : wrap64 x = x := by unfold wrap64; omega
theorem and_low (x : Int) (m : Nat) (hm : m ≤ 1073741823) : 0 ≤ Go.bits .and .i64 x m ∧ Go.bits .and .i64 x m ≤ m := by
  have hk : IntKind.i64.bits = 64 := rfl
  have h : Go.bits .and .i64 x m = IntKind.i64.wrap (((BitVec.ofInt 64 x).toNat &&& m : Nat) : Int) := by
    simp only [Go.bits, BitVec.toNat_and, hk, BitVec.ofInt_natCast, BitVec.toNat_ofNat]
    rw [Nat.mod_eq_of_lt (a := m) (by omega)]
    rfl
  have h1 : (BitVec.ofInt 64 x).toNat &&& m ≤ m := Nat.and_le_right
  rw [h, IntKind.wrap_i64]
  omega
theorem and255 (x : Int) : 0 ≤ Go.bits .and .i64 x 255 ∧ Go.bits .and .i64 x 255 ≤ 255 := and_low x 255 (by omega)
theorem byte_ev {b : List Int} {i : Int} (h : Int) (hs : St b i) : ∃ x i' h', spec_l1Byte.f b i h = some (x, i', h') ∧ 0 ≤ x ∧ x ≤ 255 ∧ St b i' := by
  obtain ⟨h0, h1, h2⟩ := hs
  unfold spec_l1Byte.f
  by_cases c : i < (b.length : Int)
  · rw [if_pos c, if_pos h0]
    exact ⟨_, _, _, rfl, (and255 _).1, (and255 _).2, by rw [wrap_id (by omega) (by omega)]; exact ⟨by omega, by omega, h2⟩⟩
  · rw [if_neg c]
    exact ⟨_, _, _, rfl, (and255 _).1, (and255 _).2, h0, h1, h2⟩
theorem below_ev {b : List Int} {i : Int} (h n : Int) (hs : St b i) (hn : n ≤ 256) : ∃ x i' h', spec_l1Below.f b i h n = some (x, i', h') ∧ 0 ≤ x ∧ x ≤ 255 ∧ (0 < n → x < n) ∧ (n ≤ 0 → x = 0) ∧ St b i' := by
  unfold spec_l1Below.f
  by_cases c : n ≤ 0
  · rw [if_pos c]; exact ⟨_, _, _, rfl, by omega, by omega, by omega, fun _ => rfl, hs⟩
  · rw [if_neg c, if_pos hn]
    obtain ⟨x, i', h', he, h0, h1, h2⟩ := byte_ev h hs
    rw [he]
    simp only [Option.bind_some]
    rw [if_neg (by omega)]
    have e : Int.tmod x n = x % n := Int.tmod_eq_emod_of_nonneg h0
    have e1 := Int.emod_nonneg x (show n ≠ 0 by omega)
    have e2 := Int.emod_lt_of_pos x (show 0 < n by omega)
    exact ⟨_, _, _, rfl, by omega, by omega, by omega, by omega, h2⟩
theorem once_ev {b : List Int} {i : Int} (h n : Int) (hs : St b i) (hn : n ≤ 256) : ∃ x i' h', spec_l1Once.f b i h n = some (x, i', h') ∧ St b i' := by
  obtain ⟨x, i', h', he, _, _, _, _, h2⟩ := below_ev h n hs hn
  unfold spec_l1Once.f
  rw [he]
  exact ⟨_, _, _, rfl, h2⟩
theorem rd_mem {l : List Int} {i : Int} (h0 : 0 ≤ i) (h1 : i < (l.length : Int)) : rd l i ∈ l := by
  unfold rd
  have : i.toNat < l.length := by omega
  rw [List.getD_eq_getElem?_getD, List.getElem?_eq_getElem this]
  exact List.getElem_mem this
theorem pick_ev {b : List Int} {i : Int} (h : Int) (l : List Int) (hs : St b i) (hl : 0 < l.length) (hn : l.length ≤ 256) : ∃ x i' h', spec_l1PickInt.f b i h l = some (x, i', h') ∧ x ∈ l ∧ St b i' := by
  obtain ⟨x, i', h', he, h0, _, h1, _, h2⟩ := below_ev h l.length hs (by omega)
  unfold spec_l1PickInt.f
  rw [he]
  simp only [Option.bind_some]
  rw [if_pos h0, if_pos (h1 (by omega))]
  exact ⟨_, _, _, rfl, rd_mem h0 (h1 (by omega)), h2⟩
theorem new_l0 (b : List Int) (hb : (b.length : Int) ≤ 140737488351232) (d : Nat) : ∀ (h i : Int), 0 ≤ i → i ≤ b.length → (b.length : Int) - i = d → ∃ h', Ev (fun k => spec_l1New.l0 k b h i) (b, 0, h') := by
  induction d with
  | zero =>
    intro h i h0 h1 hd
    exact ⟨h, Ev.step (fun k => by rw [spec_l1New.l0, if_neg (by omega)]) (Ev.now _)⟩
  | succ d ih =>
    intro h i h0 h1 hd
    by_cases c : i < 4000
    · obtain ⟨h', e⟩ := ih (Go.bits .and .i64 (wrap64 ((wrap64 ((wrap64 (h * 131)) + (wrap64 (rd b i)))) + 7)) 1073741823) (i + 1) (by omega) (by omega) (by omega)
      refine ⟨h', Ev.step (fun k => ?_) e⟩
      rw [spec_l1New.l0, if_pos (by omega), if_pos c, if_pos h0, wrap_id (x := i + 1) (by omega) (by omega)]
    · exact ⟨h, Ev.step (fun k => by rw [spec_l1New.l0, if_pos (by omega), if_neg c]) (Ev.now _)⟩
theorem new_ev (b : List Int) (hb : (b.length : Int) ≤ 140737488351232) : ∃ h', Ev (fun k => spec_l1New.f k b) (b, 0, h') := by
  obtain ⟨h', e⟩ := new_l0 b hb b.length (wrap64 (10101 + (b.length : Int))) 0 (by omega) (by omega) (by omega)
  exact ⟨h', Ev.congr (fun k => rfl) e⟩
theorem st_new {b : List Int} (hb : (b.length : Int) ≤ 140737488351232) : St b 0 := ⟨by omega, by omega, hb⟩
end Go.Proofs.Ytbgfkpagkhofpaa.PFnGroups

/- Lists and places: what stands behind a place, element by element. -/
namespace Go.Proofs.Ytbgfkpagkhofpaa.PFnGroups
open Go.RowKit Go.Proofs.YtbgfkpagkhofpaaW.PrintWords Go.Proofs.YtbgfkpagkhofpaaW.PrintLast
theorem rd_def (l : List Int) (i : Int) : rd l i = l.getD i.toNat 0 := rfl
/-- The suffix of a list at a place. -/
def At {α : Type} (l : List α) (i : Int) (s : List α) : Prop := 0 ≤ i ∧ i ≤ (l.length : Int) ∧ l.drop i.toNat = s
theorem At.zero {α : Type} (l : List α) : At l 0 l := ⟨by omega, by omega, rfl⟩
theorem At.nil {α : Type} {l : List α} {i : Int} (h : At l i []) : i = (l.length : Int) := by
  obtain ⟨h0, h1, h2⟩ := h
  have := congrArg List.length h2
  simp at this
  omega
theorem At.cons {α : Type} {l : List α} {i : Int} {x : α} {s : List α} (h : At l i (x :: s)) : i < (l.length : Int) ∧ l[i.toNat]? = some x ∧ At l (i + 1) s := by
  obtain ⟨h0, h1, h2⟩ := h
  have hl := congrArg List.length h2
  simp at hl
  have e : (i + 1).toNat = i.toNat + 1 := by omega
  refine ⟨by omega, ?_, by omega, by omega, ?_⟩
  · have := congrArg (·[0]?) h2
    simpa using this
  · rw [e, ← List.drop_drop, h2]; rfl
theorem At.len {α : Type} {l : List α} {i : Int} {s : List α} (h : At l i s) : (s.length : Int) = l.length - i := by
  obtain ⟨h0, h1, h2⟩ := h
  rw [← h2, List.length_drop]
  omega
theorem At.mem {α : Type} {l : List α} {i : Int} {x : α} {s : List α} (h : At l i (x :: s)) : x ∈ l := List.mem_of_getElem? h.cons.2.1
theorem At.rdv {l : List Int} {i x : Int} {s : List Int} (h : At l i (x :: s)) : rd l i = x := by
  have := h.cons.2.1
  rw [rd_def, List.getD_eq_getElem?_getD, this]
  rfl
theorem At.of {α : Type} (l : List α) {i : Int} (h0 : 0 ≤ i) (h1 : i ≤ l.length) : ∃ s, At l i s := ⟨_, h0, h1, rfl⟩
theorem rd_of_get {l : List Int} {i : Int} {x : Int} (h : l[i.toNat]? = some x) : rd l i = x := by
  rw [rd_def, List.getD_eq_getElem?_getD, h]
  rfl
theorem get_of_rd {l : List Int} {i : Int} (h0 : 0 ≤ i) (h1 : i < (l.length : Int)) : l[i.toNat]? = some (rd l i) := by
  have : i.toNat < l.length := by omega
  rw [rd_def, List.getD_eq_getElem?_getD, List.getElem?_eq_getElem this]
  rfl
/-- One round of a loop, told as what it comes to. -/
theorem Ev.go {α : Type} {g f : Nat → Option α} {r : α} (k : Ev f r) (h : ∀ n, g (n + 1) = f n) : Ev g r := Ev.step h k
theorem Ev.val {α : Type} {g : Nat → Option α} {r : α} (h : ∀ n, g n = some r) : Ev g r := ⟨0, fun n _ => h n⟩
theorem Ev.stop {α : Type} {g : Nat → Option α} {r : α} (h : ∀ n, g (n + 1) = some r) : Ev g r := Ev.step (f := fun _ => some r) h (Ev.now r)
/-- What goes before is known. -/
theorem Ev.bd {α β : Type} {g : Nat → Option α} {f : Nat → α → Option β} {a : α} {r : β} (h : Ev g a) (k : Ev (fun n => f n a) r) : Ev (fun n => (g n).bind (fun x => f n x)) r := Ev.bind h k
theorem Ev.fit {α : Type} {g f : Nat → Option α} {r : α} (k : Ev f r) (h : g = f) : Ev g r := h ▸ k
theorem Ev.same {α : Type} {g : Nat → Option α} {r q : α} (h : Ev g r) (k : Ev g q) : r = q := by
  obtain ⟨K, h⟩ := h
  obtain ⟨K', k⟩ := k
  have := (h (max K K') (by omega)).symm.trans (k (max K K') (by omega))
  injection this
end Go.Proofs.Ytbgfkpagkhofpaa.PFnGroups

/- Groups: rising rows, what risen gives, who is reached. -/
namespace Go.Proofs.Ytbgfkpagkhofpaa.PFnGroups
open Go.RowKit Go.Proofs.YtbgfkpagkhofpaaW.PrintWords Go.Proofs.YtbgfkpagkhofpaaW.PrintLast
theorem risF_iff : ∀ (p : Int) (s : List Int), risF p s = true ↔ (p :: s).Pairwise (· < ·)
  | p, [] => by simp [risF]
  | p, x :: s => by
    rw [risF, Bool.and_eq_true, risF_iff x s, decide_eq_true_eq, List.pairwise_cons (a := p)]
    constructor
    · rintro ⟨h, hs⟩
      refine ⟨fun y hy => ?_, hs⟩
      rcases List.mem_cons.1 hy with rfl | hy
      · exact h
      · exact Int.lt_trans h ((List.pairwise_cons.1 hs).1 y hy)
    · rintro ⟨h, hs⟩
      exact ⟨h x List.mem_cons_self, hs⟩
theorem ris_iff (l : List Int) : risB l = true ↔ l.Pairwise (· < ·) := by
  cases l with
  | nil => simp [risB]
  | cons x s => exact risF_iff x s
/-- Two rising rows with the same numbers are one. -/
theorem ris_ext : ∀ {a b : List Int}, a.Pairwise (· < ·) → b.Pairwise (· < ·) → (∀ x, x ∈ a ↔ x ∈ b) → a = b
  | [], [], _, _, _ => rfl
  | [], y :: b, _, _, h => by have := (h y).2 List.mem_cons_self; simp at this
  | x :: a, [], _, _, h => by have := (h x).1 List.mem_cons_self; simp at this
  | x :: a, y :: b, ha, hb, h => by
    obtain ⟨ha1, ha2⟩ := List.pairwise_cons.1 ha
    obtain ⟨hb1, hb2⟩ := List.pairwise_cons.1 hb
    have e : x = y := by
      rcases List.mem_cons.1 ((h x).1 List.mem_cons_self) with h1 | h1
      · exact h1
      · rcases List.mem_cons.1 ((h y).2 List.mem_cons_self) with h2 | h2
        · exact h2.symm
        · have := hb1 x h1; have := ha1 y h2; omega
    subst e
    rw [ris_ext ha2 hb2 fun z => ?_]
    constructor
    · intro hz
      rcases List.mem_cons.1 ((h z).1 (List.mem_cons_of_mem _ hz)) with h1 | h1
      · have := ha1 z hz; omega
      · exact h1
    · intro hz
      rcases List.mem_cons.1 ((h z).2 (List.mem_cons_of_mem _ hz)) with h1 | h1
      · have := hb1 z hz; omega
      · exact h1
theorem ris_len : ∀ {l : List Int} {lo n : Int}, l.Pairwise (· < ·) → (∀ x ∈ l, lo ≤ x ∧ x < n) → lo ≤ n → (l.length : Int) ≤ n - lo
  | [], lo, n, _, _, h => by simp; omega
  | x :: l, lo, n, hp, hb, h => by
    obtain ⟨h1, h2⟩ := List.pairwise_cons.1 hp
    have hx := hb x List.mem_cons_self
    have := ris_len (lo := x + 1) (n := n) h2 (fun y hy => ⟨by have := h1 y hy; omega, (hb y (List.mem_cons_of_mem _ hy)).2⟩) (by omega)
    simp only [List.length_cons]
    omega
/-- Numbers below n, none twice, are at most n. -/
theorem nodup_len : ∀ (n : Nat) {l : List Int}, l.Nodup → (∀ x ∈ l, 0 ≤ x ∧ x < (n : Int)) → l.length ≤ n
  | 0, l, _, hb => by
    cases l with
    | nil => simp
    | cons x s => have := hb x List.mem_cons_self; omega
  | n + 1, l, hn, hb => by
    have h := nodup_len n (l := l.erase (n : Int)) (hn.erase _) (fun x hx => by
      have h1 := hb x (List.mem_of_mem_erase hx)
      have h2 : x ≠ (n : Int) := fun e => by
        subst e
        exact (List.Nodup.not_mem_erase hn) hx
      omega)
    by_cases c : (n : Int) ∈ l
    · rw [List.length_erase_of_mem c] at h; omega
    · rw [List.erase_of_not_mem c] at h; omega
theorem pw_nodup {l : List Int} (h : l.Pairwise (· < ·)) : l.Nodup := h.imp fun h => by omega
/-! #### risen -/
def risenP (l : List Int) : List Int := Lib.compact (l.mergeSort fun x y => decide (x ≤ y))
theorem compact_pw {l : List Int} (h : l.Pairwise (· ≤ ·)) : (Lib.compact l).Pairwise (· < ·) := by
  unfold Lib.compact Lib.compactUpTo
  rw [List.pairwise_map]
  refine List.Pairwise.imp_of_mem ?_ ((List.pairwise_lt_range (n := l.length)).filter _)
  intro i j hi hj hij
  simp only [List.mem_filter, List.mem_range] at hi hj
  have hk := of_decide_eq_true hj.2
  have hj1 : l.toArray[j]! = l[j] := by simp [hj.1]
  have hi1 : l.toArray[i]! = l[i] := by simp [hi.1]
  have hp1 : l.toArray[j - 1]! = l[j - 1]'(by omega) := by
    have : j - 1 < l.length := by omega
    simp [this]
  rw [hj1, hp1] at hk
  rw [hj1, hi1]
  rw [List.pairwise_iff_getElem] at h
  have h2 := h (j - 1) j (by omega) hj.1 (by omega)
  have hk' : l[j] ≠ l[j - 1]'(by omega) := by
    rcases hk with hk | hk
    · omega
    · exact hk
  by_cases c : i = j - 1
  · subst c; omega
  · have h1 := h i (j - 1) hi.1 (by omega) (by omega)
    omega
theorem compact_mem {l : List Int} (x : Int) : x ∈ Lib.compact l ↔ x ∈ l := by
  unfold Lib.compact Lib.compactUpTo
  simp only [List.mem_map, List.mem_filter, List.mem_range]
  constructor
  · rintro ⟨i, ⟨hi, _⟩, rfl⟩
    have hi1 : l.toArray[i]! = l[i] := by simp [hi]
    rw [hi1]
    exact List.getElem_mem hi
  · intro hx
    obtain ⟨i, hi, rfl⟩ := List.getElem_of_mem hx
    have key : ∀ (n : Nat) (hn : n < l.length), ∃ j, (j < l.length ∧ Lib.keeps l.toArray j = true) ∧ l.toArray[j]! = l[n] := by
      intro n
      induction n with
      | zero => intro hn; exact ⟨0, ⟨hn, by simp [Lib.keeps]⟩, by simp [hn]⟩
      | succ n ih =>
        intro hn
        by_cases c : l[n + 1] = l[n]'(by omega)
        · obtain ⟨j, hj, he⟩ := ih (by omega)
          exact ⟨j, hj, by rw [he, c]⟩
        · refine ⟨n + 1, ⟨hn, ?_⟩, by simp [hn]⟩
          unfold Lib.keeps
          have h1 : l.toArray[n + 1]! = l[n + 1] := by simp [hn]
          have h2 : l.toArray[n + 1 - 1]! = l[n]'(by omega) := by
            have : n < l.length := by omega
            simp [this]
          rw [h1, h2]
          simp [c]
    exact key i hi
theorem risenP_pw (l : List Int) : (risenP l).Pairwise (· < ·) := by
  refine compact_pw ?_
  have h := List.pairwise_mergeSort (le := fun x y : Int => decide (x ≤ y)) (by intro a b c; simp; omega) (by intro a b; simp; omega) l
  exact h.imp fun h => by simpa using h
theorem risenP_mem (l : List Int) (x : Int) : x ∈ risenP l ↔ x ∈ l := by
  unfold risenP
  rw [compact_mem, List.mem_mergeSort]
theorem risen_val (l : List Int) (h : l.length < 4611686018427387904) : impl_risen.f l = some (risenP l) := by
  unfold impl_risen.f slices_Sort_int_int.f slices_Compact_int_int.f
  rw [if_pos h]
  rfl
/-! #### who is reached -/
def subs (g : List S95) (i : Int) : List Int := (rd_T95 g i).f1
def users (g : List S95) (i : Int) : List Int := (rd_T95 g i).f0
inductive Reach (g : List S95) (s : List Int) : Int → Prop
  | base {k : Int} : k ∈ s → Reach g s k
  | step {j k : Int} : Reach g s j → k ∈ subs g j → Reach g s k
theorem Reach.mono {g : List S95} {s t : List Int} (h : ∀ k ∈ s, Reach g t k) {k : Int} (hk : Reach g s k) : Reach g t k := by
  induction hk with
  | base h1 => exact h _ h1
  | step _ h2 ih => exact .step ih h2
theorem Reach.closed {g : List S95} {s : List Int} {P : Int → Prop} (h0 : ∀ k ∈ s, P k) (h1 : ∀ j k, P j → k ∈ subs g j → P k) {k : Int} (hk : Reach g s k) : P k := by
  induction hk with
  | base h => exact h0 _ h
  | step _ h2 ih => exact h1 _ _ ih h2
end Go.Proofs.Ytbgfkpagkhofpaa.PFnGroups

/- Groups: both GroupsOk's tell the same; what below gives. -/
namespace Go.Proofs.Ytbgfkpagkhofpaa.PFnGroups
open Go.RowKit Go.Proofs.YtbgfkpagkhofpaaW.PrintWords Go.Proofs.YtbgfkpagkhofpaaW.PrintLast
def OkG (g : List S95) : Prop := (g.length : Int) ≤ 8 ∧ ∀ x ∈ g, (x.f0.Pairwise (· < ·) ∧ ∀ u ∈ x.f0, 0 ≤ u ∧ u ≤ 30) ∧ (x.f1.Pairwise (· < ·) ∧ ∀ u ∈ x.f1, 0 ≤ u ∧ u < (g.length : Int))
def GB (g : List S95) : Prop := g.length ≤ 1000 ∧ ∀ x ∈ g, x.f0.length ≤ 1000 ∧ x.f1.length ≤ 1000
theorem inB_iff (lo hi n : Int) : inB lo hi n = true ↔ lo ≤ n ∧ n ≤ hi := by simp [inB]
theorem grpAt_iff (n : Int) (hn : 0 ≤ n) (x : S95) : grpAt n x = true ↔ (x.f0.Pairwise (· < ·) ∧ ∀ u ∈ x.f0, 0 ≤ u ∧ u ≤ 30) ∧ (x.f1.Pairwise (· < ·) ∧ ∀ u ∈ x.f1, 0 ≤ u ∧ u < n) := by
  unfold grpAt areSetP
  simp only [Bool.and_eq_true, ris_iff, List.all_eq_true, inB_iff, decide_eq_true_eq]
  constructor
  · rintro ⟨⟨h1, h2, _⟩, h3, h4, _⟩
    exact ⟨⟨h1, h2⟩, h3, fun u hu => ⟨(h4 u hu).1, by have := (h4 u hu).2; omega⟩⟩
  · rintro ⟨⟨h1, h2⟩, h3, h4⟩
    refine ⟨⟨h1, h2, ?_⟩, h3, fun u hu => ⟨(h4 u hu).1, by have := (h4 u hu).2; omega⟩, ?_⟩
    · have := ris_len (lo := 0) (n := 31) h1 (fun u hu => ⟨(h2 u hu).1, by have := (h2 u hu).2; omega⟩) (by omega)
      omega
    · have := ris_len (lo := 0) (n := n) h3 h4 hn
      omega
theorem grpOk_iff (g : List S95) : grpOk g = true ↔ OkG g := by
  unfold grpOk OkG
  simp only [Bool.and_eq_true, List.all_eq_true, decide_eq_true_eq]
  constructor
  · rintro ⟨h1, h2⟩
    exact ⟨h2, fun x hx => (grpAt_iff _ (by omega) x).1 (h1 x hx)⟩
  · rintro ⟨h1, h2⟩
    exact ⟨fun x hx => (grpAt_iff _ (by omega) x).2 (h2 x hx), h1⟩
theorem rdT_get {g : List S95} {i : Int} {x : S95} (h : g[i.toNat]? = some x) : rd_T95 g i = x := by
  unfold rd_T95
  rw [List.getD_eq_getElem?_getD, h]
  rfl
theorem rdT_mem {g : List S95} {i : Int} (h0 : 0 ≤ i) (h1 : i < (g.length : Int)) : rd_T95 g i ∈ g := by
  have h2 : i.toNat < g.length := by omega
  rw [rdT_get (List.getElem?_eq_getElem h2)]
  exact List.getElem_mem h2
theorem in_val (a t : Int) : spec_l1In.f a 0 t = some (inB 0 t a) := by
  unfold spec_l1In.f inB
  by_cases h : a ≥ 0
  · rw [if_pos h]; simp [h]
  · rw [if_neg h]; simp [h]
theorem rise_l0 (l : List Int) (hl : l.length ≤ 1000) (t : Int) : ∀ (s : List Int) (i p : Int), 1 ≤ i → At l i s → rd l (i - 1) = p → Ev (fun k => spec_l25Rise.l0 k l t i) (risF p s && s.all (inB 0 t))
  | [], i, p, h0, ha, hp => Ev.stop fun k => by
    have := ha.nil
    rw [spec_l25Rise.l0, if_neg (by omega)]
    rfl
  | x :: s, i, p, h0, ha, hp => by
    obtain ⟨h1, _, h3⟩ := ha.cons
    have hx := ha.rdv
    have hw : wrap64 (i - 1) = i - 1 := wrap_id (by omega) (by omega)
    have hw2 : wrap64 (i + 1) = i + 1 := wrap_id (by omega) (by omega)
    by_cases c : inB 0 t x = true
    · by_cases c2 : p < x
      · have ih := rise_l0 l hl t s (i + 1) x (by omega) h3 (by rw [show i + 1 - 1 = i by omega]; exact hx)
        rw [risF, decide_eq_true c2, List.all_cons, c, Bool.true_and, Bool.true_and]
        refine Ev.go ih fun k => ?_
        rw [spec_l25Rise.l0, if_pos h1, if_pos (by omega), in_val, hx, c]
        simp only [Option.bind_some, if_true]
        rw [if_pos (by omega), hw, if_pos (by omega), if_pos (by omega), hp, if_neg (by omega), hw2]
      · rw [risF, decide_eq_false c2, Bool.false_and, Bool.false_and]
        refine Ev.stop fun k => ?_
        rw [spec_l25Rise.l0, if_pos h1, if_pos (by omega), in_val, hx, c]
        simp only [Option.bind_some, if_true]
        rw [if_pos (by omega), hw, if_pos (by omega), if_pos (by omega), hp, if_pos (by omega)]
    · rw [Bool.not_eq_true] at c
      rw [List.all_cons, c, Bool.false_and, Bool.and_false]
      refine Ev.stop fun k => ?_
      rw [spec_l25Rise.l0, if_pos h1, if_pos (by omega), in_val, hx, c]
      simp only [Option.bind_some, Bool.false_eq_true, if_false]
def riseT (l : List Int) (t : Int) : Bool := risB l && l.all (inB 0 t)
theorem rise_ev (l : List Int) (hl : l.length ≤ 1000) (t : Int) : Ev (fun k => spec_l25Rise.f k l t) (riseT l t) := by
  unfold spec_l25Rise.f riseT
  cases l with
  | nil => exact Ev.stop fun k => by rw [spec_l25Rise.l0, if_neg (by simp)]; rfl
  | cons x s =>
    have ha := At.zero (x :: s)
    obtain ⟨h1, _, h3⟩ := ha.cons
    have hx := ha.rdv
    have hw2 : wrap64 ((0 : Int) + 1) = 0 + 1 := wrap_id (by omega) (by omega)
    by_cases c : inB 0 t x = true
    · rw [risB, List.all_cons, c, Bool.true_and]
      refine Ev.go (rise_l0 (x :: s) hl t s (0 + 1) x (by omega) h3 hx) fun k => ?_
      rw [spec_l25Rise.l0, if_pos h1, if_pos (by omega), in_val, hx, c]
      simp only [Option.bind_some, if_true]
      rw [if_neg (by omega), hw2]
    · rw [Bool.not_eq_true] at c
      rw [List.all_cons, c, Bool.false_and, Bool.and_false]
      refine Ev.stop fun k => ?_
      rw [spec_l25Rise.l0, if_pos h1, if_pos (by omega), in_val, hx, c]
      simp only [Option.bind_some, Bool.false_eq_true, if_false]
theorem specOk_l0 (g : List S95) (hg : GB g) : ∀ (s : List S95) (i : Int), At g i s → Ev (fun k => spec_GroupsOk.l0 k g i) (s.all fun x => riseT x.f0 30 && riseT x.f1 ((g.length : Int) - 1))
  | [], i, ha => Ev.stop fun k => by
    have := ha.nil
    rw [spec_GroupsOk.l0, if_neg (by omega)]
    rfl
  | x :: s, i, ha => by
    obtain ⟨h1, h2, h3⟩ := ha.cons
    have h0 := ha.1
    have hx : rd_T95 g i = x := rdT_get h2
    have hb := hg.2 x ha.mem
    have hgl := hg.1
    have hw : wrap64 ((g.length : Int) - 1) = (g.length : Int) - 1 := wrap_id (by omega) (by omega)
    have hw2 : wrap64 (i + 1) = i + 1 := wrap_id (by omega) (by omega)
    have ih := specOk_l0 g hg s (i + 1) h3
    rw [List.all_cons]
    refine Ev.step (f := fun k => (spec_l25Rise.f k x.f0 30).bind fun t272 => (if t272 = true then ((spec_l25Rise.f k x.f1 ((g.length : Int) - 1)).bind fun t274 => (if t274 = true then (spec_GroupsOk.l0 k g (i + 1)) else (some false))) else (some false))) (fun k => by rw [spec_GroupsOk.l0, if_pos h1, if_pos h0, hx, hw, hw2]) ?_
    refine Ev.bd (rise_ev _ hb.1 _) ?_
    cases riseT x.f0 30 with
    | false => exact Ev.val fun k => by simp
    | true =>
      simp only [if_true, Bool.true_and]
      refine Ev.bd (rise_ev _ hb.2 _) ?_
      cases riseT x.f1 ((g.length : Int) - 1) with
      | false => exact Ev.val fun k => by simp
      | true =>
        simp only [if_true, Bool.true_and]
        exact ih
theorem specOk_ev (g : List S95) (hg : GB g) : Ev (fun k => spec_GroupsOk.f k g) (grpOk g) := by
  unfold spec_GroupsOk.f
  by_cases c : (g.length : Int) > 8
  · have e : grpOk g = false := by
      rw [← Bool.not_eq_true, grpOk_iff]
      exact fun h => by have := h.1; omega
    rw [e]
    exact Ev.val fun k => by rw [if_pos c]
  · have e : grpOk g = g.all fun x => riseT x.f0 30 && riseT x.f1 ((g.length : Int) - 1) := by
      rw [Bool.eq_iff_iff, grpOk_iff]
      unfold OkG riseT
      simp only [List.all_eq_true, Bool.and_eq_true, ris_iff, inB_iff]
      constructor
      · rintro ⟨_, h⟩ x hx
        obtain ⟨h1, h2, h3⟩ := h x hx
        exact ⟨h1, h2, fun u hu => ⟨(h3 u hu).1, by have := (h3 u hu).2; omega⟩⟩
      · intro h
        refine ⟨by omega, fun x hx => ?_⟩
        obtain ⟨h1, h2, h3⟩ := h x hx
        exact ⟨h1, h2, fun u hu => ⟨(h3 u hu).1, by have := (h3 u hu).2; omega⟩⟩
    rw [e]
    refine Ev.fit (specOk_l0 g hg g 0 (At.zero g)) (by funext k; rw [if_neg c])
/-! #### contains, has -/
theorem index_l0 (l : List Int) (hl : l.length ≤ 100000) (a : Int) : ∀ (s : List Int) (i : Int), At l i s → ∃ r, Ev (fun k => slices_Index_int_int.l0 k l a (l.length : Int) i) r ∧ (r ≥ 0 ↔ a ∈ s)
  | [], i, ha => ⟨-1, Ev.stop fun k => by
    have := ha.nil
    rw [slices_Index_int_int.l0, if_neg (by omega)], by simp⟩
  | x :: s, i, ha => by
    obtain ⟨h1, _, h3⟩ := ha.cons
    have h0 := ha.1
    have hx := ha.rdv
    by_cases c : a = x
    · subst c
      exact ⟨i, Ev.stop fun k => by rw [slices_Index_int_int.l0, if_pos h1, if_pos h0, if_pos h1, if_pos hx.symm], by simp [h0]⟩
    · obtain ⟨r, hr, hm⟩ := index_l0 l hl a s (i + 1) h3
      refine ⟨r, Ev.go hr fun k => ?_, ?_⟩
      · rw [slices_Index_int_int.l0, if_pos h1, if_pos h0, if_pos h1, hx, if_neg c, wrap_id (by omega) (by omega)]
      · rw [hm, List.mem_cons]
        constructor
        · exact .inr
        · rintro (h | h)
          · exact absurd h c
          · exact h
theorem contains_ev (l : List Int) (hl : l.length ≤ 100000) (a : Int) : Ev (fun k => slices_Contains_int_int.f k l a) (decide (a ∈ l)) := by
  obtain ⟨r, hr, hm⟩ := index_l0 l hl a l 0 (At.zero l)
  unfold slices_Contains_int_int.f
  refine Ev.bd (f := fun _ t => some (decide (t ≥ 0))) hr (Ev.val fun k => ?_)
  congr 1
  rw [Bool.eq_iff_iff, decide_eq_true_eq, decide_eq_true_eq]
  exact hm
theorem lhas_l0 (l : List Int) (hl : l.length ≤ 100000) (a : Int) : ∀ (s : List Int) (i : Int), At l i s → Ev (fun k => laws_has.l0 k l a i) (decide (a ∈ s)) ∧ Ev (fun k => spec_l3Has.l0 k l a i) (decide (a ∈ s))
  | [], i, ha => by
    have := ha.nil
    exact ⟨Ev.stop fun k => by rw [laws_has.l0, if_neg (by omega)]; simp, Ev.stop fun k => by rw [spec_l3Has.l0, if_neg (by omega)]; simp⟩
  | x :: s, i, ha => by
    obtain ⟨h1, _, h3⟩ := ha.cons
    have h0 := ha.1
    have hx := ha.rdv
    by_cases c : x = a
    · subst c
      exact ⟨Ev.stop fun k => by rw [laws_has.l0, if_pos h1, if_pos h0, if_pos hx]; simp, Ev.stop fun k => by rw [spec_l3Has.l0, if_pos h1, if_pos h0, if_pos hx]; simp⟩
    · obtain ⟨i1, i2⟩ := lhas_l0 l hl a s (i + 1) h3
      have e : decide (a ∈ x :: s) = decide (a ∈ s) := by
        rw [Bool.eq_iff_iff, decide_eq_true_eq, decide_eq_true_eq, List.mem_cons]
        exact ⟨fun h => h.elim (fun h => absurd h.symm c) id, .inr⟩
      rw [e]
      exact ⟨Ev.go i1 fun k => by rw [laws_has.l0, if_pos h1, if_pos h0, hx, if_neg c, wrap_id (by omega) (by omega)], Ev.go i2 fun k => by rw [spec_l3Has.l0, if_pos h1, if_pos h0, hx, if_neg c, wrap_id (by omega) (by omega)]⟩
theorem has_ev (l : List Int) (hl : l.length ≤ 100000) (a : Int) : Ev (fun k => laws_has.f k l a) (decide (a ∈ l)) := (lhas_l0 l hl a l 0 (At.zero l)).1
theorem l3has_ev (l : List Int) (hl : l.length ≤ 100000) (a : Int) : Ev (fun k => spec_l3Has.f k l a) (decide (a ∈ l)) := (lhas_l0 l hl a l 0 (At.zero l)).2
theorem same_l0 (a : List Int) (ha : a.length ≤ 100000) : ∀ (s : List Int) (i : Int), At a i s → Ev (fun k => laws_sameInts.l0 k a a i) true
  | [], i, h => Ev.stop fun k => by
    have := h.nil
    rw [laws_sameInts.l0, if_neg (by omega)]
  | x :: s, i, h => by
    obtain ⟨h1, _, h3⟩ := h.cons
    have h0 := h.1
    exact Ev.go (same_l0 a ha s (i + 1) h3) fun k => by rw [laws_sameInts.l0, if_pos h1, if_pos h0, if_pos h1, if_pos rfl, wrap_id (by omega) (by omega)]
theorem same_ev (a : List Int) (ha : a.length ≤ 100000) : Ev (fun k => laws_sameInts.f k a a) true := Ev.fit (same_l0 a ha a 0 (At.zero a)) (by funext k; unfold laws_sameInts.f; rw [if_pos rfl])
/-! #### below -/
def addAll : List Int → List Int → List Int
  | o, [] => o
  | o, k :: s => addAll (if k ∈ o then o else o ++ [k]) s
theorem addAll_old : ∀ (s o : List Int) {x : Int}, x ∈ o → x ∈ addAll o s
  | [], _, _, h => h
  | k :: s, o, x, h => addAll_old s _ (by split; exact h; exact List.mem_append_left _ h)
theorem addAll_pre : ∀ (s o : List Int), ∃ z, addAll o s = o ++ z
  | [], o => ⟨[], by simp [addAll]⟩
  | k :: s, o => by
    rw [addAll]
    split
    · exact addAll_pre s o
    · obtain ⟨z, hz⟩ := addAll_pre s (o ++ [k])
      exact ⟨k :: z, by rw [hz]; simp⟩
theorem addAll_new : ∀ (s o : List Int) {x : Int}, x ∈ s → x ∈ addAll o s
  | k :: s, o, x, h => by
    rw [addAll]
    rcases List.mem_cons.1 h with rfl | h
    · refine addAll_old s _ ?_
      split
      · assumption
      · simp
    · exact addAll_new s _ h
theorem addAll_mem : ∀ (s o : List Int) {x : Int}, x ∈ addAll o s → x ∈ o ∨ x ∈ s
  | [], o, x, h => .inl h
  | k :: s, o, x, h => by
    rw [addAll] at h
    rcases addAll_mem s _ h with h | h
    · split at h
      · exact .inl h
      · rcases List.mem_append.1 h with h | h
        · exact .inl h
        · exact .inr (by simp at h; simp [h])
    · exact .inr (List.mem_cons_of_mem _ h)
theorem addAll_nodup : ∀ (s o : List Int), o.Nodup → (addAll o s).Nodup
  | [], o, h => h
  | k :: s, o, h => by
    rw [addAll]
    refine addAll_nodup s _ ?_
    split
    · exact h
    · next c =>
      rw [List.nodup_append]
      exact ⟨h, by simp, fun a ha b hb => by simp at hb; subst hb; exact fun e => c (e ▸ ha)⟩
theorem below_l1 (g : List S95) (p : Int) (l : List Int) (hl : l.length ≤ 1000) : ∀ (s : List Int) (i : Int) (o : List Int), At l i s → o.length + s.length ≤ 90000 → ∀ {r : List Int}, Ev (fun k => impl_below.l0 k g (addAll o s) (wrap64 (p + 1))) r → Ev (fun k => impl_below.l1 k g o p l (l.length : Int) i) r
  | [], i, o, ha, _, r, h => Ev.go h fun k => by
    have := ha.nil
    rw [impl_below.l1, if_neg (by omega)]
    rfl
  | x :: s, i, o, ha, ho, r, h => by
    obtain ⟨h1, _, h3⟩ := ha.cons
    have h0 := ha.1
    have hx := ha.rdv
    simp only [List.length_cons] at ho
    have hw2 : wrap64 (i + 1) = i + 1 := wrap_id (by omega) (by omega)
    refine Ev.step (f := fun k => (slices_Contains_int_int.f k o x).bind fun t234 => (if t234 = true then (impl_below.l1 k g o p l (l.length : Int) (i + 1)) else (if o.length < 17592186044416 then (impl_below.l1 k g (o ++ [x]) p l (l.length : Int) (i + 1)) else (none)))) (fun k => by rw [impl_below.l1, if_pos h1, if_pos h0, if_pos h1, hx, hw2]) ?_
    refine Ev.bd (contains_ev o (by omega) x) ?_
    rw [addAll] at h
    by_cases c : x ∈ o
    · rw [if_pos c] at h
      rw [decide_eq_true c]
      simp only [if_true]
      exact below_l1 g p l hl s (i + 1) o h3 (by omega) h
    · rw [if_neg c] at h
      rw [decide_eq_false c]
      simp only [Bool.false_eq_true, if_false]
      exact Ev.fit (below_l1 g p l hl s (i + 1) (o ++ [x]) h3 (by simp; omega) h) (by funext k; rw [if_pos (by omega)])
end Go.Proofs.Ytbgfkpagkhofpaa.PFnGroups

/- Groups: below is who is reached. -/
namespace Go.Proofs.Ytbgfkpagkhofpaa.PFnGroups
open Go.RowKit Go.Proofs.YtbgfkpagkhofpaaW.PrintWords Go.Proofs.YtbgfkpagkhofpaaW.PrintLast
theorem OkG.subs {g : List S95} (h : OkG g) {i : Int} (h0 : 0 ≤ i) (h1 : i < (g.length : Int)) : (subs g i).Pairwise (· < ·) ∧ ∀ u ∈ subs g i, 0 ≤ u ∧ u < (g.length : Int) := (h.2 _ (rdT_mem h0 h1)).2
theorem OkG.users {g : List S95} (h : OkG g) {i : Int} (h0 : 0 ≤ i) (h1 : i < (g.length : Int)) : (users g i).Pairwise (· < ·) ∧ ∀ u ∈ users g i, 0 ≤ u ∧ u ≤ 30 := (h.2 _ (rdT_mem h0 h1)).1
theorem OkG.gb {g : List S95} (h : OkG g) : GB g := by
  have hl := h.1
  refine ⟨by omega, fun x hx => ?_⟩
  obtain ⟨⟨h1, h2⟩, h3, h4⟩ := h.2 x hx
  have e1 := ris_len (lo := 0) (n := 31) h1 (fun u hu => ⟨(h2 u hu).1, by have := (h2 u hu).2; omega⟩) (by omega)
  have e2 := ris_len (lo := 0) (n := (g.length : Int)) h3 h4 (by omega)
  omega
theorem OkG.reach {g : List S95} (h : OkG g) {s : List Int} (hs : ∀ k ∈ s, 0 ≤ k ∧ k < (g.length : Int)) {k : Int} (hk : Reach g s k) : 0 ≤ k ∧ k < (g.length : Int) :=
  hk.closed (P := fun k => 0 ≤ k ∧ k < (g.length : Int)) hs fun _ _ hj hk => (h.subs hj.1 hj.2).2 _ hk
theorem subs_len {g : List S95} (h : OkG g) {i : Int} (h0 : 0 ≤ i) (h1 : i < (g.length : Int)) : (subs g i).length ≤ 1000 := (h.gb.2 _ (rdT_mem h0 h1)).2
theorem users_len {g : List S95} (h : OkG g) {i : Int} (h0 : 0 ≤ i) (h1 : i < (g.length : Int)) : (users g i).length ≤ 1000 := (h.gb.2 _ (rdT_mem h0 h1)).1
theorem below_l0 (g : List S95) (hg : OkG g) (st : List Int) : ∀ (d : Nat) (o : List Int) (i : Int), 0 ≤ i → (g.length : Int) - i = d → i ≤ o.length → o.Nodup → (∀ k ∈ o, 0 ≤ k ∧ k < (g.length : Int)) → (∀ k ∈ o, Reach g st k) → (∀ k ∈ st, k ∈ o) → (∀ j : Int, 0 ≤ j → j < i → ∀ k ∈ subs g (rd o j), k ∈ o) →
    ∃ r, Ev (fun k => impl_below.l0 k g o i) r ∧ r.Nodup ∧ ∀ k, k ∈ r ↔ Reach g st k := by
  intro d
  induction d with
  | zero =>
    intro o i h0 hd hi hn hb hr hs hc
    have hl := nodup_len g.length hn hb
    have e : i = (o.length : Int) := by omega
    refine ⟨o, Ev.stop fun k => by rw [impl_below.l0, if_neg (by omega)], hn, fun k => ⟨hr k, fun hk => ?_⟩⟩
    refine hk.closed (P := fun k => k ∈ o) hs fun j k hj hk => ?_
    obtain ⟨m, hm, rfl⟩ := List.getElem_of_mem hj
    have e2 : rd o (m : Int) = o[m] := rd_of_get (by simp [hm])
    exact hc m (by omega) (by omega) k (by rw [e2]; exact hk)
  | succ d ih =>
    intro o i h0 hd hi hn hb hr hs hc
    have hl := nodup_len g.length hn hb
    have hg8 := hg.1
    by_cases c : i < (o.length : Int)
    · have hm : rd o i ∈ o := rd_mem h0 c
      obtain ⟨b0, b1⟩ := hb _ hm
      have hsub := hg.subs b0 b1
      have hsl := subs_len hg b0 b1
      obtain ⟨z, hz⟩ := addAll_pre (subs g (rd o i)) o
      have hmem : ∀ k ∈ addAll o (subs g (rd o i)), k ∈ o ∨ k ∈ subs g (rd o i) := fun k hk => addAll_mem _ _ hk
      have hlen : o.length ≤ (addAll o (subs g (rd o i))).length := by rw [hz]; simp
      obtain ⟨r, h1, h2, h3⟩ := ih (addAll o (subs g (rd o i))) (i + 1) (by omega) (by omega) (by omega) (addAll_nodup _ _ hn)
        (fun k hk => (hmem k hk).elim (hb k) (hsub.2 k))
        (fun k hk => (hmem k hk).elim (hr k) (fun h => .step (hr _ hm) h))
        (fun k hk => addAll_old _ _ (hs k hk))
        (fun j j0 j1 k hk => by
          have e : rd (addAll o (subs g (rd o i))) j = rd o j := by
            have h4 : j.toNat < o.length := by omega
            rw [hz]
            refine rd_of_get ?_
            rw [List.getElem?_append_left h4]
            exact get_of_rd j0 (by omega)
          rw [e] at hk
          by_cases cj : j = i
          · subst cj; exact addAll_new _ _ hk
          · exact addAll_old _ _ (hc j j0 (by omega) k hk))
      refine ⟨r, ?_, h2, h3⟩
      refine Ev.step (f := fun k => impl_below.l1 k g o i (subs g (rd o i)) ((subs g (rd o i)).length : Int) 0) (fun k => by rw [impl_below.l0, if_pos c, if_pos h0, if_pos b0, if_pos b1]; rfl) ?_
      refine below_l1 g i (subs g (rd o i)) hsl (subs g (rd o i)) 0 o (At.zero _) (by omega) ?_
      rw [wrap_id (by omega) (by omega)]
      exact h1
    · have e : i = (o.length : Int) := by omega
      refine ⟨o, Ev.stop fun k => by rw [impl_below.l0, if_neg (by omega)], hn, fun k => ⟨hr k, fun hk => ?_⟩⟩
      refine hk.closed (P := fun k => k ∈ o) hs fun j k hj hk => ?_
      obtain ⟨m, hm, rfl⟩ := List.getElem_of_mem hj
      have e2 : rd o (m : Int) = o[m] := rd_of_get (by simp [hm])
      exact hc m (by omega) (by omega) k (by rw [e2]; exact hk)
theorem below_val (g : List S95) (hg : OkG g) (st : List Int) (hn : st.Nodup) (hb : ∀ k ∈ st, 0 ≤ k ∧ k < (g.length : Int)) : ∃ r, Ev (fun k => impl_below.f k g st) r ∧ r.Nodup ∧ ∀ k, k ∈ r ↔ Reach g st k := by
  have hg8 := hg.1
  have hl := nodup_len g.length hn hb
  obtain ⟨r, h1, h2⟩ := below_l0 g hg st g.length st 0 (by omega) (by omega) (by omega) hn hb (fun k hk => .base hk) (fun k hk => hk) (fun j j0 j1 => by omega)
  refine ⟨r, Ev.fit h1 ?_, h2⟩
  funext k
  unfold impl_below.f impl_copyInts.f
  rw [if_pos (by simp; omega)]
  rfl
/-! #### the users of a group, the program's way -/
theorem users_l0 (g : List S95) (hg : OkG g) (l : List Int) (hl : l.length ≤ 1000) (hb : ∀ k ∈ l, 0 ≤ k ∧ k < (g.length : Int)) : ∀ (s : List Int) (i : Int) (o : List Int), At l i s → (o.length : Int) ≤ 1000 * i →
    ∃ r, Ev (fun k => impl_UsersOf.l0 k g o l (l.length : Int) i) r ∧ r.Pairwise (· < ·) ∧ ∀ u, u ∈ r ↔ u ∈ o ∨ ∃ k ∈ s, u ∈ users g k
  | [], i, o, ha, ho => by
    have e := ha.nil
    refine ⟨risenP o, Ev.stop fun k => ?_, risenP_pw o, fun u => by rw [risenP_mem]; simp⟩
    rw [impl_UsersOf.l0, if_neg (by omega), risen_val o (by omega)]
    rfl
  | x :: s, i, o, ha, ho => by
    obtain ⟨h1, _, h3⟩ := ha.cons
    have h0 := ha.1
    have hx := ha.rdv
    obtain ⟨b0, b1⟩ := hb x ha.mem
    have hul := users_len hg b0 b1
    obtain ⟨r, r1, r2, r3⟩ := users_l0 g hg l hl hb s (i + 1) (o ++ users g x) h3 (by simp; omega)
    refine ⟨r, Ev.go r1 fun k => ?_, r2, fun u => ?_⟩
    · rw [impl_UsersOf.l0, if_pos h1, if_pos h0, if_pos h1, hx, if_pos b0, if_pos b1, if_pos (by unfold users at hul; omega), wrap_id (by omega) (by omega)]
      rfl
    · rw [r3, List.mem_append]
      constructor
      · rintro ((h | h) | ⟨k, hk, h⟩)
        · exact .inl h
        · exact .inr ⟨x, List.mem_cons_self, h⟩
        · exact .inr ⟨k, List.mem_cons_of_mem _ hk, h⟩
      · rintro (h | ⟨k, hk, h⟩)
        · exact .inl (.inl h)
        · rcases List.mem_cons.1 hk with rfl | hk
          · exact .inl (.inr h)
          · exact .inr ⟨k, hk, h⟩
/-- Who belongs to a group: told by who is reached. -/
def Belongs (g : List S95) (i u : Int) : Prop := OkG g ∧ 0 ≤ i ∧ i < (g.length : Int) ∧ ∃ k, Reach g [i] k ∧ u ∈ users g k
theorem implUsers (g : List S95) (hl : (g.length : Int) ≤ 1000) (i : Int) : ∃ r, Ev (fun k => impl_UsersOf.f k g i) r ∧ r.Pairwise (· < ·) ∧ ∀ u, u ∈ r ↔ Belongs g i u := by
  unfold impl_UsersOf.f impl_GroupsOk.f
  simp only [Option.bind_some]
  have hw : wrap64 ((g.length : Int) - 1) = (g.length : Int) - 1 := wrap_id (by omega) (by omega)
  have no : ¬ (OkG g ∧ 0 ≤ i ∧ i < (g.length : Int)) → ∀ u, u ∈ ([] : List Int) ↔ Belongs g i u := fun h u => by
    simp only [List.not_mem_nil, false_iff]
    exact fun hb => h ⟨hb.1, hb.2.1, hb.2.2.1⟩
  cases hok : grpOk g with
  | false =>
    refine ⟨[], ?_, List.Pairwise.nil, no fun h => ?_⟩
    · simp only [Bool.false_eq_true, if_false]
      exact Ev.stop fun k => by rw [impl_UsersOf.j0, if_pos rfl]
    · rw [(grpOk_iff g).2 h.1] at hok
      cases hok
  | true =>
    have hg := (grpOk_iff g).1 hok
    simp only [if_true]
    have hin : impl_within.f i 0 (wrap64 ((g.length : Int) - 1)) = some (inB 0 ((g.length : Int) - 1) i) := by
      rw [hw]
      unfold impl_within.f inB
      by_cases h : i ≥ 0
      · rw [if_pos h]; simp [h]
      · rw [if_neg h]; simp [h]
    rw [hin]
    simp only [Option.bind_some]
    cases hi : inB 0 ((g.length : Int) - 1) i with
    | false =>
      refine ⟨[], Ev.stop fun k => by rw [impl_UsersOf.j0, if_pos (by simp)], List.Pairwise.nil, no fun h => ?_⟩
      rw [(inB_iff _ _ _).2 ⟨h.2.1, by omega⟩] at hi
      cases hi
    | true =>
      obtain ⟨i0, i1⟩ := (inB_iff _ _ _).1 hi
      have hb : ∀ k ∈ [i], 0 ≤ k ∧ k < (g.length : Int) := fun k hk => by simp at hk; subst hk; omega
      obtain ⟨b, b1, b2, b3⟩ := below_val g hg [i] (by simp) hb
      have hbb : ∀ k ∈ b, 0 ≤ k ∧ k < (g.length : Int) := fun k hk => hg.reach hb ((b3 k).1 hk)
      have hbl := nodup_len g.length b2 hbb
      obtain ⟨r, r1, r2, r3⟩ := users_l0 g hg b (by omega) hbb b 0 [] (At.zero b) (by simp)
      refine ⟨r, ?_, r2, fun u => ?_⟩
      · refine Ev.step (f := fun k => (impl_below.f k g [i]).bind fun t => impl_UsersOf.l0 k g [] t (t.length : Int) 0) (fun k => by rw [impl_UsersOf.j0, if_neg (by simp)]) ?_
        exact Ev.bd (f := fun k t => impl_UsersOf.l0 k g [] t (t.length : Int) 0) b1 r1
      · rw [r3]
        constructor
        · rintro (h | ⟨k, hk, h⟩)
          · simp at h
          · exact ⟨hg, i0, by omega, k, (b3 k).1 hk, h⟩
        · rintro ⟨_, _, _, k, hk, h⟩
          exact .inr ⟨k, (b3 k).2 hk, h⟩
end Go.Proofs.Ytbgfkpagkhofpaa.PFnGroups

/- Groups: the model's marks are who is reached. -/
namespace Go.Proofs.Ytbgfkpagkhofpaa.PFnGroups
open Go.RowKit Go.Proofs.YtbgfkpagkhofpaaW.PrintWords Go.Proofs.YtbgfkpagkhofpaaW.PrintLast
def bit (b : List Bool) (k : Int) : Prop := 0 ≤ k ∧ b[k.toNat]? = some true
theorem bit_rd {b : List Bool} {k : Int} (h0 : 0 ≤ k) : rdOf false b k = true ↔ bit b k := by
  unfold rdOf bit
  rw [List.getD_eq_getElem?_getD]
  cases b[k.toNat]? with
  | none => simp
  | some v => simp [h0]
theorem bit_lt {b : List Bool} {k : Int} (h : bit b k) : k < (b.length : Int) := by
  obtain ⟨h0, h1⟩ := h
  have := (List.getElem?_eq_some_iff.1 h1).1
  omega
def setAll : List Bool → List Int → List Bool
  | b, [] => b
  | b, k :: s => setAll (b.set k.toNat true) s
theorem setAll_len : ∀ (s : List Int) (b : List Bool), (setAll b s).length = b.length
  | [], _ => rfl
  | k :: s, b => by rw [setAll, setAll_len s]; simp
theorem bit_set {b : List Bool} {k j : Int} (h0 : 0 ≤ k) (h1 : k < (b.length : Int)) : bit (b.set k.toNat true) j ↔ j = k ∨ bit b j := by
  unfold bit
  rw [List.getElem?_set]
  by_cases c : k.toNat = j.toNat
  · rw [if_pos c]
    constructor
    · rintro ⟨h2, _⟩; exact .inl (by omega)
    · intro h
      have h2 : 0 ≤ j := h.elim (fun e => by omega) (fun e => e.1)
      refine ⟨h2, ?_⟩
      rw [if_pos (by omega)]
  · rw [if_neg c]
    constructor
    · exact .inr
    · rintro (h | h)
      · subst h; exact absurd rfl c
      · exact h
theorem bit_setAll : ∀ (s : List Int) (b : List Bool) {j : Int}, (∀ k ∈ s, 0 ≤ k ∧ k < (b.length : Int)) → (bit (setAll b s) j ↔ j ∈ s ∨ bit b j)
  | [], b, j, _ => by simp [setAll]
  | k :: s, b, j, h => by
    have hk := h k List.mem_cons_self
    rw [setAll, bit_setAll s _ (fun m hm => by simpa using h m (List.mem_cons_of_mem _ hm)), bit_set hk.1 hk.2, List.mem_cons]
    constructor
    · rintro (h | h | h)
      · exact .inl (.inr h)
      · exact .inl (.inl h)
      · exact .inr h
    · rintro ((h | h) | h)
      · exact .inr (.inl h)
      · exact .inl h
      · exact .inr (.inr h)
def rnd (g : List S95) : List Bool → Int → Nat → List Bool
  | b, _, 0 => b
  | b, k, d + 1 => rnd g (if rdOf false b k = true then setAll b (subs g k) else b) (k + 1) d
theorem rnd_len (g : List S95) : ∀ (d : Nat) (b : List Bool) (k : Int), (rnd g b k d).length = b.length
  | 0, b, k => rfl
  | d + 1, b, k => by
    rw [rnd, rnd_len g d]
    split
    · exact setAll_len _ _
    · rfl
def rnds (g : List S95) : Nat → List Bool → List Bool
  | 0, b => b
  | m + 1, b => rnds g m (rnd g b 0 g.length)
theorem rnds_len (g : List S95) : ∀ (m : Nat) (b : List Bool), (rnds g m b).length = b.length
  | 0, _ => rfl
  | m + 1, b => by rw [rnds, rnds_len g m, rnd_len]
theorem relax_bit {g : List S95} (hg : OkG g) {b : List Bool} (hl : b.length = g.length) {k j : Int} (h0 : 0 ≤ k) (h1 : k < (g.length : Int)) : bit (if rdOf false b k = true then setAll b (subs g k) else b) j ↔ bit b j ∨ (bit b k ∧ j ∈ subs g k) := by
  by_cases c : bit b k
  · rw [if_pos ((bit_rd h0).2 c), bit_setAll _ _ (fun m hm => by rw [hl]; exact (hg.subs h0 h1).2 m hm)]
    simp [c, or_comm]
  · rw [if_neg (fun h => c ((bit_rd h0).1 h))]
    simp [c]
theorem rnd_old {g : List S95} (hg : OkG g) : ∀ (d : Nat) (b : List Bool) (k : Int) {j : Int}, b.length = g.length → 0 ≤ k → k + d ≤ (g.length : Int) → bit b j → bit (rnd g b k d) j
  | 0, b, k, j, _, _, _, h => h
  | d + 1, b, k, j, hl, h0, h1, h => by
    rw [rnd]
    refine rnd_old hg d _ (k + 1) ?_ (by omega) (by omega) ((relax_bit hg hl h0 (by omega)).2 (.inl h))
    split
    · rw [setAll_len, hl]
    · exact hl
theorem rnd_sound {g : List S95} (hg : OkG g) {P : Int → Prop} (hP : ∀ j k, P j → k ∈ subs g j → P k) : ∀ (d : Nat) (b : List Bool) (k : Int), b.length = g.length → 0 ≤ k → k + d ≤ (g.length : Int) → (∀ j, bit b j → P j) → ∀ j, bit (rnd g b k d) j → P j
  | 0, b, k, _, _, _, h => h
  | d + 1, b, k, hl, h0, h1, h => by
    rw [rnd]
    refine rnd_sound hg hP d _ (k + 1) ?_ (by omega) (by omega) fun j hj => ?_
    · split
      · rw [setAll_len, hl]
      · exact hl
    · rcases (relax_bit hg hl h0 (by omega)).1 hj with hj | ⟨hk, hj⟩
      · exact h j hj
      · exact hP k j (h k hk) hj
theorem rnd_step {g : List S95} (hg : OkG g) : ∀ (d : Nat) (b : List Bool) (k : Int) {j m : Int}, b.length = g.length → 0 ≤ k → k + d ≤ (g.length : Int) → bit b j → k ≤ j → j < k + d → m ∈ subs g j → bit (rnd g b k d) m
  | 0, b, k, j, m, _, _, _, _, h2, h3, _ => by omega
  | d + 1, b, k, j, m, hl, h0, h1, hb, h2, h3, hm => by
    have hl2 : (if rdOf false b k = true then setAll b (subs g k) else b).length = g.length := by
      split
      · rw [setAll_len, hl]
      · exact hl
    rw [rnd]
    by_cases c : j = k
    · subst c
      exact rnd_old hg d _ _ hl2 (by omega) (by omega) ((relax_bit hg hl h0 (by omega)).2 (.inr ⟨hb, hm⟩))
    · exact rnd_step hg d _ (k + 1) hl2 (by omega) (by omega) ((relax_bit hg hl h0 (by omega)).2 (.inl hb)) (by omega) (by omega) hm
def Closed (g : List S95) (b : List Bool) : Prop := ∀ j m, bit b j → m ∈ subs g j → bit b m
theorem cnt_lt : ∀ {b c : List Bool}, b.length = c.length → (∀ j : Nat, b[j]? = some true → c[j]? = some true) → b.count true ≤ c.count true ∧ ((∃ j : Nat, c[j]? = some true ∧ b[j]? ≠ some true) → b.count true < c.count true)
  | [], [], _, _ => ⟨Nat.le_refl _, fun ⟨j, h, _⟩ => by simp at h⟩
  | x :: b, y :: c, hl, h => by
    obtain ⟨i1, i2⟩ := cnt_lt (b := b) (c := c) (by simpa using hl) (fun j hj => by simpa using h (j + 1) (by simpa using hj))
    have h0 : x = true → y = true := fun e => by simpa using h 0 (by simp [e])
    rw [List.count_cons, List.count_cons]
    constructor
    · cases x <;> cases y <;> simp_all <;> omega
    · rintro ⟨j, hj, hn⟩
      cases j with
      | zero =>
        simp at hj hn
        subst hj
        rw [hn]
        simp
        omega
      | succ j =>
        have := i2 ⟨j, by simpa using hj, by simpa using hn⟩
        cases x <;> cases y <;> simp_all <;> omega
theorem rnds_closed {g : List S95} (hg : OkG g) : ∀ (m : Nat) (b : List Bool), b.length = g.length → Closed g b → Closed g (rnds g m b)
  | 0, b, _, h => h
  | m + 1, b, hl, h => by
    rw [rnds]
    refine rnds_closed hg m _ (by rw [rnd_len, hl]) fun j k hj hk => ?_
    have hj2 := rnd_sound hg (P := bit b) (fun j k hj hk => h j k hj hk) g.length b 0 hl (by omega) (by omega) (fun _ h => h) j hj
    exact rnd_old hg _ _ _ hl (by omega) (by omega) (h j k hj2 hk)
theorem rnds_cnt {g : List S95} (hg : OkG g) : ∀ (m : Nat) (b : List Bool), b.length = g.length → Closed g (rnds g m b) ∨ b.count true + m ≤ (rnds g m b).count true
  | 0, b, _ => .inr (by simp [rnds])
  | m + 1, b, hl => by
    by_cases c : Closed g b
    · exact .inl (rnds_closed hg _ b hl c)
    · rw [rnds]
      have hl2 : (rnd g b 0 g.length).length = g.length := by rw [rnd_len, hl]
      have hlt : b.count true < (rnd g b 0 g.length).count true := by
        refine (cnt_lt (by rw [hl, hl2]) fun j hj => ?_).2 ?_
        · have := rnd_old hg g.length b 0 (j := (j : Int)) hl (by omega) (by omega) ⟨by omega, by simpa using hj⟩
          simpa using this.2
        · refine Classical.byContradiction fun hno => c fun j k hj hk => ?_
          have h1 := rnd_step hg g.length b 0 hl (by omega) (by omega) hj hj.1 (by have := bit_lt hj; omega) hk
          refine ⟨h1.1, ?_⟩
          refine Classical.byContradiction fun h2 => hno ⟨k.toNat, h1.2, h2⟩
      rcases rnds_cnt hg m _ hl2 with h | h
      · exact .inl h
      · exact .inr (by omega)
theorem rnds_old {g : List S95} (hg : OkG g) : ∀ (m : Nat) (b : List Bool) {j : Int}, b.length = g.length → bit b j → bit (rnds g m b) j
  | 0, _, _, _, h => h
  | m + 1, b, j, hl, h => by
    rw [rnds]
    exact rnds_old hg m _ (by rw [rnd_len, hl]) (rnd_old hg _ _ _ hl (by omega) (by omega) h)
theorem rnds_sound {g : List S95} (hg : OkG g) {P : Int → Prop} (hP : ∀ j k, P j → k ∈ subs g j → P k) : ∀ (m : Nat) (b : List Bool), b.length = g.length → (∀ j, bit b j → P j) → ∀ j, bit (rnds g m b) j → P j
  | 0, _, _, h => h
  | m + 1, b, hl, h => by
    rw [rnds]
    exact rnds_sound hg hP m _ (by rw [rnd_len, hl]) (rnd_sound hg hP _ _ _ hl (by omega) (by omega) h)
theorem rnds_all {g : List S95} (hg : OkG g) (b : List Bool) (hl : b.length = g.length) : Closed g (rnds g g.length b) := by
  rcases rnds_cnt hg g.length b hl with h | h
  · exact h
  · intro j k hj hk
    have hl2 : (rnds g g.length b).length = g.length := by rw [rnds_len, hl]
    have hle := List.count_le_length (a := true) (l := rnds g g.length b)
    have hall := List.count_eq_length.1 (show (rnds g g.length b).count true = (rnds g g.length b).length by omega)
    have hk2 := (hg.subs hj.1 (by have := bit_lt hj; omega)).2 k hk
    have hk3 : k.toNat < (rnds g g.length b).length := by omega
    refine ⟨hk2.1, ?_⟩
    rw [List.getElem?_eq_getElem hk3, ← hall _ (List.getElem_mem hk3)]
theorem below_bits {g : List S95} (hg : OkG g) {st : List Int} (hs : ∀ k ∈ st, 0 ≤ k ∧ k < (g.length : Int)) (j : Int) : bit (rnds g g.length (setAll (List.replicate g.length false) st)) j ↔ Reach g st j := by
  have hl : (List.replicate g.length false).length = g.length := by simp
  have hl2 : (setAll (List.replicate g.length false) st).length = g.length := by rw [setAll_len, hl]
  have h0 : ∀ j, bit (setAll (List.replicate g.length false) st) j ↔ j ∈ st := fun j => by
    rw [bit_setAll _ _ (fun k hk => by rw [hl]; exact hs k hk)]
    constructor
    · rintro (h | h)
      · exact h
      · have := h.2
        rw [List.getElem?_replicate] at this
        split at this <;> simp at this
    · exact .inl
  constructor
  · exact rnds_sound hg (P := Reach g st) (fun _ _ h1 h2 => .step h1 h2) _ _ hl2 (fun j hj => .base ((h0 j).1 hj)) j
  · intro h
    exact h.closed (P := fun j => bit (rnds g g.length (setAll (List.replicate g.length false) st)) j) (fun k hk => rnds_old hg _ _ hl2 ((h0 k).2 hk)) (fun j k hj hk => rnds_all hg _ hl2 j k hj hk)
end Go.Proofs.Ytbgfkpagkhofpaa.PFnGroups

/- Groups: the model's walk, and both sides' rows. -/
namespace Go.Proofs.Ytbgfkpagkhofpaa.PFnGroups
open Go.RowKit Go.Proofs.YtbgfkpagkhofpaaW.PrintWords Go.Proofs.YtbgfkpagkhofpaaW.PrintLast
section
variable {g : List S95} (hg : OkG g)
include hg
theorem b_l3 (rd_ k : Int) (h0 : 0 ≤ k) (h1 : k < (g.length : Int)) : ∀ (s : List Int) (i : Int) (b : List Bool), At (subs g k) i s → b.length = g.length → bit b k → ∀ {r : List Bool}, Ev (fun n => spec_l25Below.l2 n g (setAll b s) rd_ (k + 1)) r → Ev (fun n => spec_l25Below.l3 n g b rd_ k i) r
  | [], i, b, ha, hl, hb, r, h => Ev.go h fun n => by
    have hg8 := hg.1
    have e := ha.nil
    unfold subs at e
    rw [spec_l25Below.l3, if_pos h0, if_pos (by omega), if_pos ((bit_rd h0).2 hb), if_pos h1, if_neg (by omega), wrap_id (by omega) (by omega)]
    rfl
  | x :: s, i, b, ha, hl, hb, r, h => by
    obtain ⟨a1, _, a3⟩ := ha.cons
    have a0 := ha.1
    have hx := ha.rdv
    have hsl := subs_len hg h0 h1
    obtain ⟨b0, b1⟩ := (hg.subs h0 h1).2 x ha.mem
    refine Ev.go (b_l3 rd_ k h0 h1 s (i + 1) (b.set x.toNat true) a3 (by simp [hl]) ((bit_set b0 (by omega)).2 (.inr hb)) h) fun n => ?_
    unfold subs at a1 hx hsl
    rw [spec_l25Below.l3, if_pos h0, if_pos (by omega), if_pos ((bit_rd h0).2 hb), if_pos h1, if_pos a1, if_pos a0, hx, if_pos b0, if_pos (by omega), wrap_id (by omega) (by omega)]
theorem b_l2 (rd_ : Int) : ∀ (d : Nat) (k : Int) (b : List Bool), 0 ≤ k → k + d = (g.length : Int) → b.length = g.length → ∀ {r : List Bool}, Ev (fun n => spec_l25Below.l1 n g (rnd g b k d) (wrap64 (rd_ + 1))) r → Ev (fun n => spec_l25Below.l2 n g b rd_ k) r
  | 0, k, b, h0, h1, hl, r, h => Ev.go h fun n => by rw [spec_l25Below.l2, if_neg (by omega)]; rfl
  | d + 1, k, b, h0, h1, hl, r, h => by
    have hg8 := hg.1
    refine Ev.step (f := fun n => spec_l25Below.l3 n g b rd_ k 0) (fun n => by rw [spec_l25Below.l2, if_pos (by omega)]) ?_
    rw [rnd] at h
    by_cases c : rdOf false b k = true
    · rw [if_pos c] at h
      exact b_l3 hg rd_ k h0 (by omega) (subs g k) 0 b (At.zero _) hl ((bit_rd h0).1 c) (b_l2 rd_ d (k + 1) _ (by omega) (by omega) (by rw [setAll_len, hl]) h)
    · rw [if_neg c] at h
      refine Ev.go (b_l2 rd_ d (k + 1) b (by omega) (by omega) hl h) fun n => ?_
      rw [spec_l25Below.l3, if_pos h0, if_pos (by omega), if_neg c, wrap_id (by omega) (by omega)]
theorem b_l1 : ∀ (d : Nat) (q : Int) (b : List Bool), 0 ≤ q → q + d = (g.length : Int) → b.length = g.length → Ev (fun n => spec_l25Below.l1 n g b q) (rnds g d b)
  | 0, q, b, h0, h1, hl => Ev.stop fun n => by rw [spec_l25Below.l1, if_neg (by omega)]; rfl
  | d + 1, q, b, h0, h1, hl => by
    have hg8 := hg.1
    refine Ev.step (f := fun n => spec_l25Below.l2 n g b q 0) (fun n => by rw [spec_l25Below.l1, if_pos (by omega)]) ?_
    refine b_l2 hg q g.length 0 b (by omega) (by omega) hl ?_
    rw [wrap_id (by omega) (by omega), rnds]
    exact b_l1 d (q + 1) _ (by omega) (by omega) (by rw [rnd_len, hl])
theorem b_l0 (i : Int) (h0 : 0 ≤ i) (h1 : i < (g.length : Int)) : ∀ (s : List Int) (j : Int) (b : List Bool), At (subs g i) j s → b.length = g.length → Ev (fun n => spec_l25Below.l0 n g i b j) (rnds g g.length (setAll b s))
  | [], j, b, ha, hl => Ev.go (b_l1 hg g.length 0 b (by omega) (by omega) hl) fun n => by
    have e := ha.nil
    unfold subs at e
    rw [spec_l25Below.l0, if_pos h0, if_pos h1, if_neg (by omega)]
  | x :: s, j, b, ha, hl => by
    obtain ⟨a1, _, a3⟩ := ha.cons
    have a0 := ha.1
    have hx := ha.rdv
    have hsl := subs_len hg h0 h1
    obtain ⟨b0, b1⟩ := (hg.subs h0 h1).2 x ha.mem
    refine Ev.go (b_l0 i h0 h1 s (j + 1) (b.set x.toNat true) a3 (by simp [hl])) fun n => ?_
    unfold subs at a1 hx hsl
    rw [spec_l25Below.l0, if_pos h0, if_pos h1, if_pos a1, if_pos a0, hx, if_pos b0, if_pos (by omega), wrap_id (by omega) (by omega)]
theorem l25_ev (i : Int) (h0 : 0 ≤ i) (h1 : i < (g.length : Int)) : ∃ b, Ev (fun n => spec_l25Below.f n g i) b ∧ b.length = g.length ∧ ∀ j, bit b j ↔ Reach g (subs g i) j := by
  have hg8 := hg.1
  refine ⟨_, Ev.fit (b_l0 hg i h0 h1 (subs g i) 0 (List.replicate g.length false) (At.zero _) (by simp)) ?_, ?_, below_bits hg (hg.subs h0 h1).2⟩
  · funext n
    unfold spec_l25Below.f
    rw [if_pos (by omega), if_pos (by omega)]
    rfl
  · rw [rnds_len, setAll_len]; simp
theorem u_l1 (b : List Bool) (hl : b.length = g.length) (o : List Int) (ho : o.length ≤ 1000) (u : Int) (hu0 : 0 ≤ u) (hu : u ≤ 30) : ∀ (d : Nat) (k : Int) (f : Bool), 0 ≤ k → k + d = (g.length : Int) →
    ∃ f' : Bool, (f' = true ↔ f = true ∨ ∃ j, k ≤ j ∧ bit b j ∧ u ∈ users g j) ∧ ∀ {r : List Int}, Ev (fun n => spec_UsersOf.l0 n g (if f' = true then o ++ [u] else o) b (u + 1)) r → Ev (fun n => spec_UsersOf.l1 n g o b u f k) r
  | 0, k, f, h0, h1 => by
    refine ⟨f, ⟨.inl, fun h => h.elim id fun ⟨j, hj, hb, _⟩ => by have := bit_lt hb; omega⟩, fun h => Ev.go h fun n => ?_⟩
    rw [spec_UsersOf.l1, if_neg (by omega), wrap_id (by omega) (by omega)]
    cases f with
    | false => simp
    | true => simp only [if_true]; rw [if_pos (by omega)]
  | d + 1, k, f, h0, h1 => by
    have hg8 := hg.1
    have hul := users_len hg h0 (show k < (g.length : Int) by omega)
    have hw : wrap64 (k + 1) = k + 1 := wrap_id (by omega) (by omega)
    cases f with
    | true =>
      obtain ⟨f', i1, i2⟩ := u_l1 b hl o ho u hu0 hu d (k + 1) true (by omega) (by omega)
      refine ⟨f', ⟨fun _ => .inl rfl, fun _ => i1.2 (.inl rfl)⟩, fun h => Ev.go (i2 h) fun n => ?_⟩
      rw [spec_UsersOf.l1, if_pos (by omega), if_pos rfl, hw]
    | false =>
      by_cases c : rdOf false b k = true
      · obtain ⟨f', i1, i2⟩ := u_l1 b hl o ho u hu0 hu d (k + 1) (decide (u ∈ users g k)) (by omega) (by omega)
        refine ⟨f', ?_, fun h => ?_⟩
        · rw [i1, decide_eq_true_eq]
          constructor
          · rintro (h | ⟨j, hj, h⟩)
            · exact .inr ⟨k, by omega, (bit_rd h0).1 c, h⟩
            · exact .inr ⟨j, by omega, h⟩
          · rintro (h | ⟨j, hj, hb, h⟩)
            · cases h
            · by_cases e : j = k
              · subst e; exact .inl h
              · exact .inr ⟨j, by omega, hb, h⟩
        · refine Ev.step (f := fun n => (spec_l3Has.f n (users g k) u).bind fun t298 => spec_UsersOf.l1 n g o b u t298 (k + 1)) (fun n => ?_) (Ev.bd (f := fun n t298 => spec_UsersOf.l1 n g o b u t298 (k + 1)) (l3has_ev _ (by omega) u) (i2 h))
          rw [spec_UsersOf.l1, if_pos (by omega), if_neg (by simp), if_pos h0, if_pos (by omega), if_pos c, hw]
          rfl
      · obtain ⟨f', i1, i2⟩ := u_l1 b hl o ho u hu0 hu d (k + 1) false (by omega) (by omega)
        refine ⟨f', ?_, fun h => Ev.go (i2 h) fun n => ?_⟩
        · rw [i1]
          constructor
          · rintro (h | ⟨j, hj, h⟩)
            · exact .inl h
            · exact .inr ⟨j, by omega, h⟩
          · rintro (h | ⟨j, hj, hb, h⟩)
            · exact .inl h
            · by_cases e : j = k
              · subst e; exact absurd ((bit_rd h0).2 hb) c
              · exact .inr ⟨j, by omega, hb, h⟩
        · rw [spec_UsersOf.l1, if_pos (by omega), if_neg (by simp), if_pos h0, if_pos (by omega), if_neg c, hw]
theorem u_l0 (b : List Bool) (hl : b.length = g.length) : ∀ (d : Nat) (u : Int) (o : List Int), 0 ≤ u → u + d = 31 → (o.length : Int) ≤ u → o.Pairwise (· < ·) → (∀ x ∈ o, x < u) →
    ∃ r, Ev (fun n => spec_UsersOf.l0 n g o b u) r ∧ r.Pairwise (· < ·) ∧ ∀ x, x ∈ r ↔ x ∈ o ∨ (u ≤ x ∧ x ≤ 30 ∧ ∃ j, bit b j ∧ x ∈ users g j)
  | 0, u, o, h0, h1, ho, hp, hlt => ⟨o, Ev.stop fun n => by rw [spec_UsersOf.l0, if_neg (by omega)], hp, fun x => ⟨.inl, fun h => h.elim id fun h => by omega⟩⟩
  | d + 1, u, o, h0, h1, ho, hp, hlt => by
    obtain ⟨f', i1, i2⟩ := u_l1 hg b hl o (by omega) u h0 (by omega) g.length 0 false (by omega) (by omega)
    have key : ∃ r, Ev (fun n => spec_UsersOf.l0 n g (if f' = true then o ++ [u] else o) b (u + 1)) r ∧ r.Pairwise (· < ·) ∧ ∀ x, x ∈ r ↔ x ∈ (if f' = true then o ++ [u] else o) ∨ (u + 1 ≤ x ∧ x ≤ 30 ∧ ∃ j, bit b j ∧ x ∈ users g j) := by
      refine u_l0 b hl d (u + 1) _ (by omega) (by omega) ?_ ?_ ?_
      · split
        · simp; omega
        · omega
      · split
        · rw [List.pairwise_append]
          exact ⟨hp, by simp, fun a ha c hc => by simp at hc; subst hc; exact hlt a ha⟩
        · exact hp
      · intro x hx
        split at hx
        · rcases List.mem_append.1 hx with hx | hx
          · have := hlt x hx; omega
          · simp at hx; omega
        · have := hlt x hx; omega
    obtain ⟨r, r1, r2, r3⟩ := key
    refine ⟨r, Ev.step (f := fun n => spec_UsersOf.l1 n g o b u false 0) (fun n => by rw [spec_UsersOf.l0, if_pos (by omega)]) (i2 r1), r2, fun x => ?_⟩
    rw [r3]
    have hf : f' = true ↔ ∃ j, bit b j ∧ u ∈ users g j := by
      rw [i1]
      constructor
      · rintro (h | ⟨j, _, h⟩)
        · cases h
        · exact ⟨j, h⟩
      · rintro ⟨j, h⟩
        exact .inr ⟨j, h.1.1, h⟩
    constructor
    · rintro (h | ⟨h2, h3, h4⟩)
      · split at h
        · next c =>
          rcases List.mem_append.1 h with h | h
          · exact .inl h
          · simp at h
            subst h
            exact .inr ⟨by omega, by omega, hf.1 c⟩
        · exact .inl h
      · exact .inr ⟨by omega, h3, h4⟩
    · rintro (h | ⟨h2, h3, h4⟩)
      · left
        split
        · exact List.mem_append_left _ h
        · exact h
      · by_cases e : x = u
        · subst e
          left
          rw [if_pos (hf.2 h4)]
          simp
        · exact .inr ⟨by omega, h3, h4⟩
end
theorem reach_one {g : List S95} {i j : Int} : Reach g [i] j ↔ j = i ∨ Reach g (subs g i) j := by
  constructor
  · intro h
    refine h.closed (P := fun j => j = i ∨ Reach g (subs g i) j) (fun k hk => .inl (by simpa using hk)) fun j k hj hk => ?_
    rcases hj with rfl | hj
    · exact .inr (.base hk)
    · exact .inr (.step hj hk)
  · rintro (rfl | h)
    · exact .base (by simp)
    · exact h.mono fun k hk => .step (.base (by simp)) hk
theorem specUsers (g : List S95) (hgb : GB g) (i : Int) : ∃ r, Ev (fun k => spec_UsersOf.f k g i) r ∧ r.Pairwise (· < ·) ∧ ∀ u, u ∈ r ↔ Belongs g i u := by
  have hl := hgb.1
  unfold spec_UsersOf.f
  simp only [Option.bind_some]
  have no : ¬ (OkG g ∧ 0 ≤ i ∧ i < (g.length : Int)) → ∀ u, u ∈ ([] : List Int) ↔ Belongs g i u := fun h u => by
    simp only [List.not_mem_nil, false_iff]
    exact fun hb => h ⟨hb.1, hb.2.1, hb.2.2.1⟩
  have ok := specOk_ev g hgb
  cases hok : grpOk g with
  | false =>
    rw [hok] at ok
    refine ⟨[], Ev.bd ok ?_, List.Pairwise.nil, no fun h => ?_⟩
    · simp only [Bool.false_eq_true, if_false]
      exact Ev.stop fun k => by rw [spec_UsersOf.j0, if_pos rfl]
    · rw [(grpOk_iff g).2 h.1] at hok
      cases hok
  | true =>
    rw [hok] at ok
    have hg := (grpOk_iff g).1 hok
    have hg8 := hg.1
    by_cases c : i < 0
    · refine ⟨[], Ev.bd ok ?_, List.Pairwise.nil, no fun h => by omega⟩
      simp only [if_true]
      exact Ev.stop fun k => by rw [if_pos c, spec_UsersOf.j0, if_pos rfl]
    · by_cases c2 : i ≥ (g.length : Int)
      · refine ⟨[], Ev.bd ok ?_, List.Pairwise.nil, no fun h => by omega⟩
        simp only [if_true]
        exact Ev.stop fun k => by rw [if_neg c, spec_UsersOf.j0, if_pos (decide_eq_true c2)]
      · obtain ⟨b, b1, b2, b3⟩ := l25_ev hg i (by omega) (by omega)
        obtain ⟨r, r1, r2, r3⟩ := u_l0 hg (b.set i.toNat true) (by simp [b2]) 31 0 [] (by omega) (by omega) (by simp) List.Pairwise.nil (by simp)
        refine ⟨r, Ev.bd ok ?_, r2, fun u => ?_⟩
        · simp only [if_true]
          refine Ev.step (f := fun k => (spec_l25Below.f k g i).bind fun t292 => (if 0 ≤ i then (if i < (t292.length : Int) then (spec_UsersOf.l0 k g [] (t292.set i.toNat true) 0) else (none)) else (none))) (fun k => by rw [if_neg c, spec_UsersOf.j0, if_neg (by simp; omega)]) ?_
          refine Ev.bd (f := fun k t292 => (if 0 ≤ i then (if i < (t292.length : Int) then (spec_UsersOf.l0 k g [] (t292.set i.toNat true) 0) else (none)) else (none))) b1 ?_
          exact Ev.fit r1 (by funext k; rw [if_pos (by omega), if_pos (by omega)])
        · rw [r3]
          have hbt : ∀ j, bit (b.set i.toNat true) j ↔ Reach g [i] j := fun j => by rw [bit_set (by omega) (by omega), b3, reach_one]
          constructor
          · rintro (h | ⟨_, _, j, hj, h⟩)
            · simp at h
            · exact ⟨hg, by omega, by omega, j, (hbt j).1 hj, h⟩
          · rintro ⟨_, _, _, j, hj, h⟩
            have hjr := hg.reach (s := [i]) (fun k hk => by simp at hk; subst hk; omega) hj
            have hu := (hg.users hjr.1 hjr.2).2 u h
            exact .inr ⟨hu.1, hu.2, j, (hbt j).2 hj, h⟩
/-- The users of a group: both sides' one row. -/
theorem bothUsers (g : List S95) (hgb : GB g) (i : Int) : ∃ r, Ev (fun k => impl_UsersOf.f k g i) r ∧ Ev (fun k => spec_UsersOf.f k g i) r ∧ r.Pairwise (· < ·) ∧ ∀ u, u ∈ r ↔ Belongs g i u := by
  obtain ⟨a, a1, a2, a3⟩ := implUsers g (by have := hgb.1; omega) i
  obtain ⟨b, b1, b2, b3⟩ := specUsers g hgb i
  have e := ris_ext a2 b2 fun u => (a3 u).trans (b3 u).symm
  subst e
  exact ⟨a, a1, b1, a2, a3⟩
theorem belongs_lo {g : List S95} {i u : Int} (h : Belongs g i u) : 0 ≤ u ∧ u ≤ 30 := by
  obtain ⟨hg, h0, h1, j, hj, hu⟩ := h
  have hjr := hg.reach (s := [i]) (fun k hk => by simp at hk; subst hk; omega) hj
  exact (hg.users hjr.1 hjr.2).2 u hu
theorem belongs_len {g : List S95} {i : Int} {r : List Int} (h : r.Pairwise (· < ·)) (hm : ∀ u, u ∈ r ↔ Belongs g i u) : r.length ≤ 31 := by
  have := ris_len (lo := 0) (n := 31) h (fun u hu => by have := belongs_lo ((hm u).1 hu); omega) (by omega)
  omega
end Go.Proofs.Ytbgfkpagkhofpaa.PFnGroups

/- Groups: groups of a user, rounds, draws, what Merge gives. -/
namespace Go.Proofs.Ytbgfkpagkhofpaa.PFnGroups
open Go.RowKit Go.Proofs.YtbgfkpagkhofpaaW.PrintWords Go.Proofs.YtbgfkpagkhofpaaW.PrintLast
theorem groups_l0 (g : List S95) (hgb : GB g) (u : Int) : ∀ (d : Nat) (i : Int) (o : List Int), 0 ≤ i → i + d = (g.length : Int) → (o.length : Int) ≤ i →
    ∃ r, Ev (fun k => impl_GroupsOf.l0 k g u o (g.length : Int) i) r ∧ Ev (fun k => spec_GroupsOf.l0 k g u o i) r ∧ r.length ≤ g.length ∧ ∀ x, x ∈ r ↔ x ∈ o ∨ (i ≤ x ∧ Belongs g x u)
  | 0, i, o, h0, h1, ho => ⟨o, Ev.stop fun k => by rw [impl_GroupsOf.l0, if_neg (by omega)], Ev.stop fun k => by rw [spec_GroupsOf.l0, if_neg (by omega)], by omega, fun x => ⟨.inl, fun h => h.elim id fun h => by have := h.2.2.2.1; omega⟩⟩
  | d + 1, i, o, h0, h1, ho => by
    have hgl := hgb.1
    obtain ⟨us, e1, e2, e3, e4⟩ := bothUsers g hgb i
    have hul := belongs_len e3 e4
    have hw : wrap64 (i + 1) = i + 1 := wrap_id (by omega) (by omega)
    by_cases c : u ∈ us
    · obtain ⟨r, r1, r2, r3, r4⟩ := groups_l0 g hgb u d (i + 1) (o ++ [i]) (by omega) (by omega) (by simp; omega)
      refine ⟨r, ?_, ?_, r3, fun x => ?_⟩
      · refine Ev.step (f := fun k => (impl_UsersOf.f k g i).bind fun t260 => ((slices_Contains_int_int.f k t260 u).bind fun t263 => (if t263 = true then (if o.length < 17592186044416 then (impl_GroupsOf.l0 k g u (o ++ [i]) (g.length : Int) (i + 1)) else (none)) else (impl_GroupsOf.l0 k g u o (g.length : Int) (i + 1))))) (fun k => by rw [impl_GroupsOf.l0, if_pos (by omega), hw]) ?_
        refine Ev.bd (f := fun k t260 => (slices_Contains_int_int.f k t260 u).bind fun t263 => (if t263 = true then (if o.length < 17592186044416 then (impl_GroupsOf.l0 k g u (o ++ [i]) (g.length : Int) (i + 1)) else (none)) else (impl_GroupsOf.l0 k g u o (g.length : Int) (i + 1)))) e1 ?_
        refine Ev.bd (contains_ev us (by omega) u) ?_
        rw [decide_eq_true c]
        exact Ev.fit r1 (by funext k; rw [if_pos rfl, if_pos (by omega)])
      · refine Ev.step (f := fun k => (spec_UsersOf.f k g i).bind fun t305 => ((spec_l3Has.f k t305 u).bind fun t308 => (if t308 = true then (if o.length < 17592186044416 then (spec_GroupsOf.l0 k g u (o ++ [i]) (i + 1)) else (none)) else (spec_GroupsOf.l0 k g u o (i + 1))))) (fun k => by rw [spec_GroupsOf.l0, if_pos (by omega), hw]) ?_
        refine Ev.bd (f := fun k t305 => (spec_l3Has.f k t305 u).bind fun t308 => (if t308 = true then (if o.length < 17592186044416 then (spec_GroupsOf.l0 k g u (o ++ [i]) (i + 1)) else (none)) else (spec_GroupsOf.l0 k g u o (i + 1)))) e2 ?_
        refine Ev.bd (l3has_ev us (by omega) u) ?_
        rw [decide_eq_true c]
        exact Ev.fit r2 (by funext k; rw [if_pos rfl, if_pos (by omega)])
      · rw [r4]
        constructor
        · rintro (h | ⟨h, hb⟩)
          · rcases List.mem_append.1 h with h | h
            · exact .inl h
            · simp at h; subst h; exact .inr ⟨by omega, (e4 u).1 c⟩
          · exact .inr ⟨by omega, hb⟩
        · rintro (h | ⟨h, hb⟩)
          · exact .inl (List.mem_append_left _ h)
          · by_cases e : x = i
            · subst e; exact .inl (by simp)
            · exact .inr ⟨by omega, hb⟩
    · obtain ⟨r, r1, r2, r3, r4⟩ := groups_l0 g hgb u d (i + 1) o (by omega) (by omega) (by omega)
      refine ⟨r, ?_, ?_, r3, fun x => ?_⟩
      · refine Ev.step (f := fun k => (impl_UsersOf.f k g i).bind fun t260 => ((slices_Contains_int_int.f k t260 u).bind fun t263 => (if t263 = true then (if o.length < 17592186044416 then (impl_GroupsOf.l0 k g u (o ++ [i]) (g.length : Int) (i + 1)) else (none)) else (impl_GroupsOf.l0 k g u o (g.length : Int) (i + 1))))) (fun k => by rw [impl_GroupsOf.l0, if_pos (by omega), hw]) ?_
        refine Ev.bd (f := fun k t260 => (slices_Contains_int_int.f k t260 u).bind fun t263 => (if t263 = true then (if o.length < 17592186044416 then (impl_GroupsOf.l0 k g u (o ++ [i]) (g.length : Int) (i + 1)) else (none)) else (impl_GroupsOf.l0 k g u o (g.length : Int) (i + 1)))) e1 ?_
        refine Ev.bd (contains_ev us (by omega) u) ?_
        rw [decide_eq_false c]
        exact Ev.fit r1 (by funext k; rw [if_neg (by simp)])
      · refine Ev.step (f := fun k => (spec_UsersOf.f k g i).bind fun t305 => ((spec_l3Has.f k t305 u).bind fun t308 => (if t308 = true then (if o.length < 17592186044416 then (spec_GroupsOf.l0 k g u (o ++ [i]) (i + 1)) else (none)) else (spec_GroupsOf.l0 k g u o (i + 1))))) (fun k => by rw [spec_GroupsOf.l0, if_pos (by omega), hw]) ?_
        refine Ev.bd (f := fun k t305 => (spec_l3Has.f k t305 u).bind fun t308 => (if t308 = true then (if o.length < 17592186044416 then (spec_GroupsOf.l0 k g u (o ++ [i]) (i + 1)) else (none)) else (spec_GroupsOf.l0 k g u o (i + 1)))) e2 ?_
        refine Ev.bd (l3has_ev us (by omega) u) ?_
        rw [decide_eq_false c]
        exact Ev.fit r2 (by funext k; rw [if_neg (by simp)])
      · rw [r4]
        constructor
        · rintro (h | ⟨h, hb⟩)
          · exact .inl h
          · exact .inr ⟨by omega, hb⟩
        · rintro (h | ⟨h, hb⟩)
          · exact .inl h
          · by_cases e : x = i
            · subst e; exact absurd ((e4 u).2 hb) c
            · exact .inr ⟨by omega, hb⟩
theorem bothGroups (g : List S95) (hgb : GB g) (u : Int) : ∃ r, Ev (fun k => impl_GroupsOf.f k g u) r ∧ Ev (fun k => spec_GroupsOf.f k g u) r ∧ r.length ≤ 1000 ∧ ∀ x, x ∈ r ↔ Belongs g x u := by
  obtain ⟨r, r1, r2, r3, r4⟩ := groups_l0 g hgb u g.length 0 [] (by omega) (by omega) (by simp)
  refine ⟨r, r1, r2, by have := hgb.1; omega, fun x => ?_⟩
  rw [r4]
  exact ⟨fun h => h.elim (fun h => by simp at h) (fun h => h.2), fun h => .inr ⟨h.2.1, h⟩⟩
theorem loops_l0 (g : List S95) (hg : OkG g) : ∀ (d : Nat) (i : Int) (o : List Int), 0 ≤ i → i + d = (g.length : Int) → (o.length : Int) ≤ i →
    ∃ r, Ev (fun k => impl_Loops.l0 k g o g (g.length : Int) i) r ∧ Ev (fun k => spec_Loops.l0 k g o i) r ∧ r.length ≤ g.length
  | 0, i, o, h0, h1, ho => ⟨o, Ev.stop fun k => by rw [impl_Loops.l0, if_neg (by omega)], by
    refine Ev.step (f := fun k => spec_Loops.j1 k g o i false) (fun k => by rw [spec_Loops.l0, if_neg (by omega)]) (Ev.stop fun k => by rw [spec_Loops.j1, if_neg (by simp)]), by omega⟩
  | d + 1, i, o, h0, h1, ho => by
    have hg8 := hg.1
    have hi : i < (g.length : Int) := by omega
    have hs := hg.subs h0 hi
    obtain ⟨l, l1, l2, l3⟩ := below_val g hg (subs g i) (pw_nodup hs.1) hs.2
    have hll := nodup_len g.length l2 (fun k hk => hg.reach hs.2 ((l3 k).1 hk))
    obtain ⟨b, b1, b2, b3⟩ := l25_ev hg i h0 hi
    have ok := specOk_ev g hg.gb
    rw [(grpOk_iff g).2 hg] at ok
    have hw : wrap64 (i + 1) = i + 1 := wrap_id (by omega) (by omega)
    have hc : i ∈ l ↔ rdOf false b i = true := by rw [l3, bit_rd h0, b3]
    obtain ⟨r, r1, r2, r3⟩ := loops_l0 g hg d (i + 1) (if i ∈ l then o ++ [i] else o) (by omega) (by omega) (by split; simp; omega; omega)
    refine ⟨r, ?_, ?_, r3⟩
    · refine Ev.step (f := fun k => (impl_below.f k g (subs g i)).bind fun t318 => ((slices_Contains_int_int.f k t318 i).bind fun t321 => (if t321 = true then (if o.length < 17592186044416 then (impl_Loops.l0 k g (o ++ [i]) g (g.length : Int) (i + 1)) else (none)) else (impl_Loops.l0 k g o g (g.length : Int) (i + 1))))) (fun k => by rw [impl_Loops.l0, if_pos hi, if_pos h0, if_pos hi, hw]; rfl) ?_
      refine Ev.bd (f := fun k t318 => (slices_Contains_int_int.f k t318 i).bind fun t321 => (if t321 = true then (if o.length < 17592186044416 then (impl_Loops.l0 k g (o ++ [i]) g (g.length : Int) (i + 1)) else (none)) else (impl_Loops.l0 k g o g (g.length : Int) (i + 1)))) l1 ?_
      refine Ev.bd (contains_ev l (by omega) i) ?_
      by_cases c : i ∈ l
      · rw [if_pos c] at r1
        rw [decide_eq_true c]
        exact Ev.fit r1 (by funext k; rw [if_pos rfl, if_pos (by omega)])
      · rw [if_neg c] at r1
        rw [decide_eq_false c]
        exact Ev.fit r1 (by funext k; rw [if_neg (by simp)])
    · refine Ev.step (f := fun k => (spec_GroupsOk.f k g).bind fun t328 => spec_Loops.j1 k g o i t328) (fun k => by rw [spec_Loops.l0, if_pos hi]) ?_
      refine Ev.bd (f := fun k t328 => spec_Loops.j1 k g o i t328) ok ?_
      refine Ev.step (f := fun k => (spec_l25Below.f k g i).bind fun t329 => (if 0 ≤ i then (if i < (t329.length : Int) then (if rdOf false t329 i = true then (if o.length < 17592186044416 then (spec_Loops.l0 k g (o ++ [i]) (i + 1)) else (none)) else (spec_Loops.l0 k g o (i + 1))) else (none)) else (none))) (fun k => by rw [spec_Loops.j1, if_pos rfl, hw]) ?_
      refine Ev.bd (f := fun k t329 => (if 0 ≤ i then (if i < (t329.length : Int) then (if rdOf false t329 i = true then (if o.length < 17592186044416 then (spec_Loops.l0 k g (o ++ [i]) (i + 1)) else (none)) else (spec_Loops.l0 k g o (i + 1))) else (none)) else (none))) b1 ?_
      by_cases c : i ∈ l
      · rw [if_pos c] at r2
        exact Ev.fit r2 (by funext k; rw [if_pos h0, if_pos (by omega), if_pos (hc.1 c), if_pos (by omega)])
      · rw [if_neg c] at r2
        exact Ev.fit r2 (by funext k; rw [if_pos h0, if_pos (by omega), if_neg (fun h => c (hc.2 h))])
theorem bothLoops (g : List S95) (hgb : GB g) : ∃ r, Ev (fun k => impl_Loops.f k g) r ∧ Ev (fun k => spec_Loops.f k g) r ∧ r.length ≤ 1000 := by
  have hgl := hgb.1
  unfold impl_Loops.f impl_GroupsOk.f spec_Loops.f
  simp only [Option.bind_some]
  cases hok : grpOk g with
  | true =>
    obtain ⟨r, r1, r2, r3⟩ := loops_l0 g ((grpOk_iff g).1 hok) g.length 0 [] (by omega) (by omega) (by simp)
    exact ⟨r, by simpa using r1, r2, by omega⟩
  | false =>
    have ok := specOk_ev g hgb
    rw [hok] at ok
    refine ⟨[], Ev.val fun k => by simp, ?_, by simp⟩
    have hj : Ev (fun k => spec_Loops.j1 k g [] 0 false) [] := Ev.stop fun k => by rw [spec_Loops.j1, if_neg (by simp)]
    by_cases c : (0 : Int) < (g.length : Int)
    · refine Ev.step (f := fun k => (spec_GroupsOk.f k g).bind fun t328 => spec_Loops.j1 k g [] 0 t328) (fun k => by rw [spec_Loops.l0, if_pos c]) ?_
      exact Ev.bd (f := fun k t328 => spec_Loops.j1 k g [] 0 t328) ok hj
    · exact Ev.step (f := fun k => spec_Loops.j1 k g [] 0 false) (fun k => by rw [spec_Loops.l0, if_neg c]) hj
end Go.Proofs.Ytbgfkpagkhofpaa.PFnGroups

/- Groups: draws; what Merge gives. -/
namespace Go.Proofs.Ytbgfkpagkhofpaa.PFnGroups
open Go.RowKit Go.Proofs.YtbgfkpagkhofpaaW.PrintWords Go.Proofs.YtbgfkpagkhofpaaW.PrintLast
def RB (m : Nat) (g : List S95) : Prop := ∀ x ∈ g, x.f0.length ≤ m ∧ x.f1.length ≤ m
section
variable {b : List Int}
theorem some_l2 (g : List S95) (hg : g.length ≤ 100) (n q : Int) (hn : n ≤ 6) (hq0 : 0 ≤ q) (hq : q ≤ 100) (u : List Int) : ∀ (d : Nat) (v i h : Int) (s : List Int), 0 ≤ v → v + d = n → (s.length : Int) ≤ v → St b i →
    ∃ s' i' h', St b i' ∧ s'.length ≤ 6 ∧ ∀ {r : List S95 × Int × Int}, Ev (fun k => spec_l25Some.l0 k (g ++ [⟨u, s'⟩]) n (q + 1) b i' h') r → Ev (fun k => spec_l25Some.l2 k g n q v b i h u s) r
  | 0, v, i, h, s, h0, h1, hs, hi => ⟨s, i, h, hi, by omega, fun hr => Ev.go hr fun k => by rw [spec_l25Some.l2, if_neg (by omega), if_pos (by omega), wrap_id (by omega) (by omega)]⟩
  | d + 1, v, i, h, s, h0, h1, hs, hi => by
    obtain ⟨x, i1, hh1, e1, st1⟩ := once_ev h 5 hi (by omega)
    have hw : wrap64 (v + 1) = v + 1 := wrap_id (by omega) (by omega)
    cases x with
    | true =>
      obtain ⟨s', i', h', a1, a2, a3⟩ := some_l2 g hg n q hn hq0 hq u d (v + 1) i1 hh1 (s ++ [v]) (by omega) (by omega) (by simp; omega) st1
      refine ⟨s', i', h', a1, a2, fun hr => Ev.go (a3 hr) fun k => ?_⟩
      rw [spec_l25Some.l2, if_pos (by omega), e1]
      simp only [Option.bind_some, if_true]
      rw [if_pos (by omega), hw]
    | false =>
      obtain ⟨s', i', h', a1, a2, a3⟩ := some_l2 g hg n q hn hq0 hq u d (v + 1) i1 hh1 s (by omega) (by omega) (by omega) st1
      refine ⟨s', i', h', a1, a2, fun hr => Ev.go (a3 hr) fun k => ?_⟩
      rw [spec_l25Some.l2, if_pos (by omega), e1]
      simp only [Option.bind_some, Bool.false_eq_true, if_false]
      rw [hw]
theorem some_l1 (g : List S95) (hg : g.length ≤ 100) (n q : Int) (hn0 : 0 ≤ n) (hn : n ≤ 6) (hq0 : 0 ≤ q) (hq : q ≤ 100) : ∀ (d : Nat) (v i h : Int) (u : List Int), 0 ≤ v → v + d = 5 → (u.length : Int) ≤ v → St b i →
    ∃ u' s' i' h', St b i' ∧ u'.length ≤ 6 ∧ s'.length ≤ 6 ∧ ∀ {r : List S95 × Int × Int}, Ev (fun k => spec_l25Some.l0 k (g ++ [⟨u', s'⟩]) n (q + 1) b i' h') r → Ev (fun k => spec_l25Some.l1 k g n q v b i h u) r
  | 0, v, i, h, u, h0, h1, hu, hi => by
    obtain ⟨s', i', h', a1, a2, a3⟩ := some_l2 g hg n q hn hq0 hq u n.toNat 0 i h [] (by omega) (by omega) (by simp) hi
    refine ⟨u, s', i', h', a1, by omega, a2, fun hr => ?_⟩
    exact Ev.go (a3 hr) fun k => by rw [spec_l25Some.l1, if_neg (by omega)]
  | d + 1, v, i, h, u, h0, h1, hu, hi => by
    obtain ⟨x, i1, hh1, e1, st1⟩ := once_ev h 3 hi (by omega)
    have hw : wrap64 (v + 1) = v + 1 := wrap_id (by omega) (by omega)
    cases x with
    | true =>
      obtain ⟨u', s', i', h', a1, a2, a3, a4⟩ := some_l1 g hg n q hn0 hn hq0 hq d (v + 1) i1 hh1 (u ++ [v]) (by omega) (by omega) (by simp; omega) st1
      refine ⟨u', s', i', h', a1, a2, a3, fun hr => Ev.go (a4 hr) fun k => ?_⟩
      rw [spec_l25Some.l1, if_pos (by omega), e1]
      simp only [Option.bind_some, if_true]
      rw [if_pos (by omega), hw]
    | false =>
      obtain ⟨u', s', i', h', a1, a2, a3, a4⟩ := some_l1 g hg n q hn0 hn hq0 hq d (v + 1) i1 hh1 u (by omega) (by omega) (by omega) st1
      refine ⟨u', s', i', h', a1, a2, a3, fun hr => Ev.go (a4 hr) fun k => ?_⟩
      rw [spec_l25Some.l1, if_pos (by omega), e1]
      simp only [Option.bind_some, Bool.false_eq_true, if_false]
      rw [hw]
theorem some_j4 (g : List S95) (hg : g.length ≤ 100) (hb : RB 11 g) (n i h : Int) (hn : n > 0 → 0 < g.length) (hi : St b i) : ∃ g' i' h', Ev (fun k => spec_l25Some.j4 k g n b i h) (g', i', h') ∧ GB g' ∧ St b i' := by
  have gb : GB g := ⟨by omega, fun x hx => by have := hb x hx; omega⟩
  by_cases c : n > 0
  · obtain ⟨x, i1, hh1, e1, st1⟩ := once_ev h 12 hi (by omega)
    cases x with
    | false =>
      refine ⟨g, i1, hh1, Ev.stop fun k => ?_, gb, st1⟩
      rw [spec_l25Some.j4, if_pos c, e1]
      simp
    | true =>
      obtain ⟨y, i2, hh2, e2, _, st2⟩ := pick_ev (b := b) (i := i1) hh1 ([30, 31, 0] : List Int) st1 (by simp) (by simp)
      have hl := hn c
      have hm := hb _ (rdT_mem (g := g) (i := 0) (by omega) (by omega))
      refine ⟨g.set (0 : Int).toNat (⟨(((rd_T95 g 0).f0) ++ [y]), (rd_T95 g 0).f1⟩ : S95), i2, hh2, Ev.stop fun k => ?_, ?_, st2⟩
      · rw [spec_l25Some.j4, if_pos c, e1]
        simp only [Option.bind_some, if_true]
        rw [if_pos (by omega), e2]
        simp only [Option.bind_some]
        rw [if_pos (by omega)]
      · refine ⟨by simp; omega, fun x hx => ?_⟩
        rcases List.mem_or_eq_of_mem_set hx with hx | rfl
        · exact gb.2 x hx
        · simp only [List.length_append, List.length_cons, List.length_nil]; omega
  · exact ⟨g, i, h, Ev.stop fun k => by rw [spec_l25Some.j4, if_neg c], gb, hi⟩
theorem some_j3 (g : List S95) (hg : g.length ≤ 100) (hb : RB 10 g) (n i h : Int) (f : Bool) (hn : n > 0 → 0 < g.length) (hf : f = true → n > 0) (hi : St b i) : ∃ g' i' h', Ev (fun k => spec_l25Some.j3 k g n f b i h) (g', i', h') ∧ GB g' ∧ St b i' := by
  cases f with
  | false =>
    obtain ⟨g', i', h', a1, a2, a3⟩ := some_j4 g hg (fun x hx => by have := hb x hx; omega) n i h hn hi
    exact ⟨g', i', h', Ev.go a1 fun k => by rw [spec_l25Some.j3, if_neg (by simp)], a2, a3⟩
  | true =>
    have c := hf rfl
    obtain ⟨y, i2, hh2, e2, _, _, _, _, st2⟩ := below_ev (b := b) (i := i) h 8 hi (by omega)
    have hl := hn c
    have hm := hb _ (rdT_mem (g := g) (i := 0) (by omega) (by omega))
    obtain ⟨g', i', h', a1, a2, a3⟩ := some_j4 (g.set (0 : Int).toNat (⟨(rd_T95 g 0).f0, (((rd_T95 g 0).f1) ++ [y])⟩ : S95)) (by simp; omega) (fun x hx => by
      rcases List.mem_or_eq_of_mem_set hx with hx | rfl
      · have := hb x hx; omega
      · simp only [List.length_append, List.length_cons, List.length_nil]; omega) n i2 hh2 (by simp; exact fun _ => by omega) st2
    refine ⟨g', i', h', Ev.go a1 fun k => ?_, a2, a3⟩
    rw [spec_l25Some.j3, if_pos rfl, if_pos (by omega), e2]
    simp only [Option.bind_some]
    rw [if_pos (by omega)]
theorem some_l0 (n : Int) (hn0 : 0 ≤ n) (hn : n ≤ 6) : ∀ (d : Nat) (g : List S95) (q i h : Int), 0 ≤ q → q + d = n → (g.length : Int) = q → RB 10 g → St b i → ∃ g' i' h', Ev (fun k => spec_l25Some.l0 k g n q b i h) (g', i', h') ∧ GB g' ∧ St b i'
  | 0, g, q, i, h, h0, h1, hl, hb, hi => by
    by_cases c : n > 0
    · obtain ⟨x, i1, hh1, e1, st1⟩ := once_ev h 12 hi (by omega)
      obtain ⟨g', i', h', a1, a2, a3⟩ := some_j3 g (by omega) hb n i1 hh1 x (by omega) (fun _ => c) st1
      refine ⟨g', i', h', Ev.go a1 fun k => ?_, a2, a3⟩
      rw [spec_l25Some.l0, if_neg (by omega), if_pos c, e1]
      rfl
    · obtain ⟨g', i', h', a1, a2, a3⟩ := some_j3 g (by omega) hb n i h false (by omega) (by simp) hi
      exact ⟨g', i', h', Ev.go a1 fun k => by rw [spec_l25Some.l0, if_neg (by omega), if_neg c], a2, a3⟩
  | d + 1, g, q, i, h, h0, h1, hl, hb, hi => by
    obtain ⟨u', s', i1, hh1, a1, a2, a3, a4⟩ := some_l1 g (by omega) n q hn0 hn h0 (by omega) 5 0 i h [] (by omega) (by omega) (by simp) hi
    obtain ⟨g', i', h', c1, c2, c3⟩ := some_l0 n hn0 hn d (g ++ [⟨u', s'⟩]) (q + 1) i1 hh1 (by omega) (by omega) (by simp; omega) (fun x hx => by
      rcases List.mem_append.1 hx with hx | hx
      · exact hb x hx
      · simp at hx; subst hx; simp only; omega) a1
    exact ⟨g', i', h', Ev.go (a4 c1) fun k => by rw [spec_l25Some.l0, if_pos (by omega)], c2, c3⟩
theorem some_ev {i : Int} (h : Int) (hi : St b i) : ∃ g i' h', Ev (fun k => spec_l25Some.f k b i h) (g, i', h') ∧ GB g ∧ St b i' := by
  obtain ⟨n, i1, h1, e1, n0, _, n2, _, st1⟩ := below_ev (b := b) (i := i) h 6 hi (by omega)
  have hn := n2 (by omega)
  obtain ⟨g, i', h', a1, a2, a3⟩ := some_l0 (b := b) n n0 (by omega) n.toNat [] 0 i1 h1 (by omega) (by omega) (by simp) (fun x hx => by simp at hx) st1
  refine ⟨g, i', h', Ev.fit a1 ?_, a2, a3⟩
  funext k
  unfold spec_l25Some.f
  rw [e1]
  rfl
theorem drawGroups (hb : (b.length : Int) ≤ 140737488351232) : ∃ g u, Ev (fun k => spec_DrawGroupsOf.f k b) (g, u) ∧ GB g := by
  obtain ⟨h1, e1⟩ := new_ev b hb
  obtain ⟨u, i2, h2, e2, _, _, _, _, st2⟩ := below_ev (b := b) (i := 0) h1 6 (st_new hb) (by omega)
  obtain ⟨g, i3, h3, e3, gb, _⟩ := some_ev h2 st2
  refine ⟨g, u, ?_, gb⟩
  unfold spec_DrawGroupsOf.f
  refine Ev.bd (f := fun k bt211 => (spec_l1Below.f bt211.1 bt211.2.1 bt211.2.2 6).bind fun bt215 => ((spec_l25Some.f k bt211.1 bt215.2.1 bt215.2.2).bind fun bt218 => (some (bt218.1, bt215.1)))) e1 ?_
  rw [e2]
  simp only [Option.bind_some]
  exact Ev.bd (f := fun k bt218 => some (bt218.1, u)) e3 (Ev.val fun k => rfl)
theorem drawMerge (hb : (b.length : Int) ≤ 140737488351232) : ∃ g g', Ev (fun k => spec_DrawMerge.f k b) (g, g') ∧ GB g ∧ GB g' := by
  obtain ⟨h1, e1⟩ := new_ev b hb
  obtain ⟨g, i3, h3, e3, gb, st3⟩ := some_ev h1 (st_new hb)
  obtain ⟨g', i4, h4, e4, gb4, _⟩ := some_ev h3 st3
  refine ⟨g, g', ?_, gb, gb4⟩
  unfold spec_DrawMerge.f
  refine Ev.bd (f := fun k bt337 => (spec_l25Some.f k bt337.1 bt337.2.1 bt337.2.2).bind fun bt341 => ((spec_l25Some.f k bt337.1 bt341.2.1 bt341.2.2).bind fun bt346 => (some (bt341.1, bt346.1)))) e1 ?_
  refine Ev.bd (f := fun k bt341 => (spec_l25Some.f k b bt341.2.1 bt341.2.2).bind fun bt346 => (some (bt341.1, bt346.1))) e3 ?_
  exact Ev.bd (f := fun k bt346 => some (g, bt346.1)) e4 (Ev.val fun k => rfl)
end
/-! #### Merge -/
def pu (g : List S95) (i : Int) : List Int := if i < (g.length : Int) then users g i else []
def ps (g : List S95) (i : Int) : List Int := if i < (g.length : Int) then subs g i else []
def mgE (a b : List S95) (i : Int) : S95 := ⟨risenP (pu a i ++ pu b i), risenP (ps a i ++ ps b i)⟩
def mgl (a b : List S95) : Int → Nat → List S95
  | _, 0 => []
  | i, d + 1 => mgE a b i :: mgl a b (i + 1) d
theorem mgl_len (a b : List S95) : ∀ (d : Nat) (i : Int), (mgl a b i d).length = d
  | 0, _ => rfl
  | d + 1, i => by rw [mgl, List.length_cons, mgl_len a b d]
theorem mgl_get (a b : List S95) : ∀ (d : Nat) (i : Int) (j : Nat), j < d → (mgl a b i d)[j]? = some (mgE a b (i + j))
  | d + 1, i, 0, _ => by rw [mgl]; simp
  | d + 1, i, j + 1, h => by
    rw [mgl, List.getElem?_cons_succ, mgl_get a b d (i + 1) j (by omega), show i + 1 + (j : Int) = i + ((j + 1 : Nat) : Int) by omega]
theorem pu_len {g : List S95} (hg : OkG g) {i : Int} (h0 : 0 ≤ i) : (pu g i).length ≤ 1000 ∧ (ps g i).length ≤ 1000 := by
  unfold pu ps
  split
  · next c => exact ⟨users_len hg h0 c, subs_len hg h0 c⟩
  · simp
theorem m_one {a b g : List S95} (hg : OkG g) (out : List S95) (i m : Int) (h0 : 0 ≤ i) (j : Int) (j0 : 0 ≤ j) (j1 : j < 2) (hj : rd_L4 [a, b] j = g) (u s : List Int) (hu : u.length ≤ 1000) (hs : s.length ≤ 1000) {r : List S95}
    (h : Ev (fun k => impl_Merge.l1 k a b out i m i [a, b] 2 (j + 1) (u ++ pu g i) (s ++ ps g i)) r) : Ev (fun k => impl_Merge.l1 k a b out i m i [a, b] 2 j u s) r := by
  have hl : (([a, b] : List (List S95)).length : Int) = 2 := rfl
  have hw : wrap64 (j + 1) = j + 1 := wrap_id (by omega) (by omega)
  refine Ev.go h fun k => ?_
  rw [impl_Merge.l1, if_pos j1, if_pos j0, hl, if_pos j1, hj]
  unfold pu ps
  by_cases c : i < (g.length : Int)
  · have h1 := users_len hg h0 c
    have h2 := subs_len hg h0 c
    unfold users at h1
    unfold subs at h2
    rw [if_pos c, if_pos h0, if_pos (by omega), if_pos (by omega), hw, if_pos c, if_pos c]
    rfl
  · rw [if_neg c, hw, if_neg c, if_neg c, List.append_nil, List.append_nil]
theorem m_l0 {a b : List S95} (ha : OkG a) (hb : OkG b) (m : Int) (hm : m ≤ 8) : ∀ (d : Nat) (i : Int) (out : List S95), 0 ≤ i → i + d = m → (out.length : Int) = i → Ev (fun k => impl_Merge.l0 k a b out m i) (out ++ mgl a b i d)
  | 0, i, out, h0, h1, ho => Ev.stop fun k => by rw [impl_Merge.l0, if_neg (by omega), mgl, List.append_nil]
  | d + 1, i, out, h0, h1, ho => by
    refine Ev.step (f := fun k => impl_Merge.l1 k a b out i m i [a, b] 2 0 [] []) (fun k => by rw [impl_Merge.l0, if_pos (by omega)]; rfl) ?_
    have la := pu_len ha h0
    have lb := pu_len hb h0
    refine m_one ha out i m h0 0 (by omega) (by omega) rfl [] [] (by simp) (by simp) ?_
    rw [List.nil_append, List.nil_append]
    refine m_one hb out i m h0 (0 + 1) (by omega) (by omega) rfl _ _ la.1 la.2 ?_
    have ih := m_l0 ha hb m hm d (i + 1) (out ++ [mgE a b i]) (by omega) (by omega) (by simp; omega)
    rw [mgl]
    rw [List.append_assoc] at ih
    refine Ev.go ih fun k => ?_
    rw [impl_Merge.l1, if_neg (by omega), risen_val _ (by simp; omega), risen_val _ (by simp; omega)]
    simp only [Option.bind_some]
    rw [if_pos (by omega), wrap_id (by omega) (by omega)]
    rfl
def mgG (a b : List S95) : List S95 := mgl a b 0 (max a.length b.length)
theorem merge_ev (a b : List S95) : Ev (fun k => impl_Merge.f k a b) (if grpOk a = true ∧ grpOk b = true then mgG a b else []) := by
  unfold impl_Merge.f impl_GroupsOk.f
  simp only [Option.bind_some]
  have hj : Ev (fun k => impl_Merge.j0 k a b [] true) [] := Ev.stop fun k => by rw [impl_Merge.j0, if_pos rfl]
  cases ha : grpOk a with
  | false =>
    simp only [Bool.false_eq_true, false_and, if_false]
    exact hj
  | true =>
    cases hb : grpOk b with
    | false =>
      simp only [Bool.false_eq_true, and_false, if_false, if_true, Bool.not_false]
      exact hj
    | true =>
      simp only [true_and, if_true, Bool.not_true]
      have oa := (grpOk_iff a).1 ha
      have ob := (grpOk_iff b).1 hb
      have l1 := oa.1
      have l2 := ob.1
      have hmx : mx (a.length : Int) (b.length : Int) = ((max a.length b.length : Nat) : Int) := by
        unfold mx
        split <;> omega
      have := m_l0 oa ob ((max a.length b.length : Nat) : Int) (by omega) (max a.length b.length) 0 [] (by omega) (by omega) (by simp)
      rw [List.nil_append] at this
      exact Ev.go this fun k => by rw [impl_Merge.j0, if_neg (by simp), hmx]
theorem mg_rd {a b : List S95} {i : Int} (h0 : 0 ≤ i) (h1 : i < ((max a.length b.length : Nat) : Int)) : rd_T95 (mgG a b) i = mgE a b i := by
  refine rdT_get ?_
  unfold mgG
  rw [mgl_get a b _ 0 i.toNat (by omega), show (0 : Int) + (i.toNat : Int) = i by omega]
theorem mg_ok {a b : List S95} (ha : OkG a) (hb : OkG b) : OkG (mgG a b) := by
  have l1 := ha.1
  have l2 := hb.1
  have hl : (mgG a b).length = max a.length b.length := mgl_len _ _ _ _
  refine ⟨by omega, fun x hx => ?_⟩
  obtain ⟨j, hj, rfl⟩ := List.getElem_of_mem hx
  have e : (mgG a b)[j] = mgE a b (j : Int) := by
    have := mgl_get a b (max a.length b.length) 0 j (by omega)
    rw [Int.zero_add] at this
    exact Option.some.inj ((List.getElem?_eq_getElem hj).symm.trans this)
  rw [e]
  refine ⟨⟨risenP_pw _, fun u hu => ?_⟩, risenP_pw _, fun u hu => ?_⟩
  · rcases List.mem_append.1 ((risenP_mem _ _).1 hu) with h | h
    · unfold pu at h
      split at h
      · next c => exact (ha.users (by omega) c).2 u h
      · simp at h
    · unfold pu at h
      split at h
      · next c => exact (hb.users (by omega) c).2 u h
      · simp at h
  · rcases List.mem_append.1 ((risenP_mem _ _).1 hu) with h | h
    · unfold ps at h
      split at h
      · next c => have := (ha.subs (by omega) c).2 u h; omega
      · simp at h
    · unfold ps at h
      split at h
      · next c => have := (hb.subs (by omega) c).2 u h; omega
      · simp at h
theorem mg_belongs {a b : List S95} (ha : OkG a) (hb : OkG b) {i u : Int} (h : Belongs a i u) : Belongs (mgG a b) i u := by
  obtain ⟨_, h0, h1, k, hk, hu⟩ := h
  have hl : (mgG a b).length = max a.length b.length := mgl_len _ _ _ _
  have hP : ∀ {k : Int}, Reach a [i] k → (0 ≤ k ∧ k < (a.length : Int)) ∧ Reach (mgG a b) [i] k := fun hk =>
    hk.closed (P := fun k => (0 ≤ k ∧ k < (a.length : Int)) ∧ Reach (mgG a b) [i] k) (fun k hk => by simp at hk; subst hk; exact ⟨⟨h0, h1⟩, .base (by simp)⟩) fun j k hj hk => by
      refine ⟨(ha.subs hj.1.1 hj.1.2).2 k hk, .step hj.2 ?_⟩
      unfold subs
      rw [mg_rd hj.1.1 (by omega)]
      refine (risenP_mem _ _).2 (List.mem_append_left _ ?_)
      unfold ps
      rw [if_pos hj.1.2]
      exact hk
  obtain ⟨⟨k0, k1⟩, hk2⟩ := hP hk
  refine ⟨mg_ok ha hb, h0, by omega, k, hk2, ?_⟩
  unfold users
  rw [mg_rd k0 (by omega)]
  refine (risenP_mem _ _).2 (List.mem_append_left _ ?_)
  unfold pu
  rw [if_pos k1]
  exact hu
end Go.Proofs.Ytbgfkpagkhofpaa.PFnGroups

/- Groups: the law. -/
namespace Go.Proofs.Ytbgfkpagkhofpaa.PFnGroups
open Go.RowKit Go.Proofs.YtbgfkpagkhofpaaW.PrintWords Go.Proofs.YtbgfkpagkhofpaaW.PrintLast
theorem law_l5 (a b m : List S95) (i : Int) (x y : List Int) (hx : x.length ≤ 31) (hy : y.length ≤ 31) : ∀ (s : List Int) (j : Int), At x j s → (∀ u ∈ s, u ∈ y) → Ev (fun k => laws_FnGroups.l4 k a b m (wrap64 (i + 1))) true → Ev (fun k => laws_FnGroups.l5 k a b m i x y j) true
  | [], j, ha, _, h => Ev.go h fun k => by
    have := ha.nil
    rw [laws_FnGroups.l5, if_neg (by omega)]
  | u :: s, j, ha, hs, h => by
    obtain ⟨h1, _, h3⟩ := ha.cons
    have h0 := ha.1
    have hv := ha.rdv
    have ih := law_l5 a b m i x y hx hy s (j + 1) h3 (fun v hv => hs v (List.mem_cons_of_mem _ hv)) h
    refine Ev.step (f := fun k => (laws_has.f k y u).bind fun t411 => (if t411 = true then (laws_FnGroups.l5 k a b m i x y (j + 1)) else (some false))) (fun k => by rw [laws_FnGroups.l5, if_pos h1, if_pos h0, hv, wrap_id (by omega) (by omega)]) ?_
    refine Ev.bd (has_ev y (by omega) u) ?_
    rw [decide_eq_true (hs u List.mem_cons_self)]
    exact Ev.fit ih (by funext k; rw [if_pos rfl])
theorem law_l4 (a b : List S95) (ha : OkG a) (hb : OkG b) : ∀ (d : Nat) (i : Int), 0 ≤ i → i + d = (a.length : Int) → Ev (fun k => laws_FnGroups.l4 k a b (mgG a b) i) true
  | 0, i, h0, h1 => by
    have hl : (mgG a b).length = max a.length b.length := mgl_len _ _ _ _
    have hm := mg_ok ha hb
    have ok := specOk_ev _ hm.gb
    rw [(grpOk_iff _).2 hm] at ok
    refine Ev.step (f := fun k => (spec_GroupsOk.f k (mgG a b)).bind fun t403 => (if t403 = true then (if ((mgG a b).length : Int) = (a.length : Int) then (some true) else (some (((mgG a b).length : Int) == (b.length : Int)))) else (some false))) (fun k => by rw [laws_FnGroups.l4, if_neg (by omega)]) ?_
    refine Ev.bd (f := fun k t403 => (if t403 = true then (if ((mgG a b).length : Int) = (a.length : Int) then (some true) else (some (((mgG a b).length : Int) == (b.length : Int)))) else (some false))) ok (Ev.val fun k => ?_)
    rw [if_pos rfl]
    split
    · rfl
    · next c =>
      congr 1
      rw [beq_iff_eq]
      omega
  | d + 1, i, h0, h1 => by
    have hal := ha.1
    have hm := mg_ok ha hb
    obtain ⟨x, _, x2, x3, x4⟩ := bothUsers a ha.gb i
    obtain ⟨y, y1, _, y3, y4⟩ := bothUsers (mgG a b) hm.gb i
    have ih := law_l4 a b ha hb d (i + 1) (by omega) (by omega)
    refine Ev.step (f := fun k => (spec_UsersOf.f k a i).bind fun t404 => ((impl_UsersOf.f k (mgG a b) i).bind fun t407 => (laws_FnGroups.l5 k a b (mgG a b) i t404 t407 0))) (fun k => by rw [laws_FnGroups.l4, if_pos (by omega)]) ?_
    refine Ev.bd (f := fun k t404 => (impl_UsersOf.f k (mgG a b) i).bind fun t407 => (laws_FnGroups.l5 k a b (mgG a b) i t404 t407 0)) x2 ?_
    refine Ev.bd (f := fun k t407 => laws_FnGroups.l5 k a b (mgG a b) i x t407 0) y1 ?_
    refine law_l5 a b _ i x y (belongs_len x3 x4) (belongs_len y3 y4) x 0 (At.zero x) (fun u hu => (y4 u).2 (mg_belongs ha hb ((x4 u).1 hu))) ?_
    rw [wrap_id (by omega) (by omega)]
    exact ih
/-- The law's second half. -/
theorem law_half (b : List Int) (hb : (b.length : Int) ≤ 140737488351232) : Ev (fun k => (spec_DrawMerge.f k b).bind fun bt392 => ((impl_Merge.f k bt392.1 bt392.2).bind fun t398 => ((spec_GroupsOk.f k bt392.1).bind fun t401 => (if t401 = true then ((spec_GroupsOk.f k bt392.2).bind fun t402 => (laws_FnGroups.j7 k bt392.1 bt392.2 t398 (!t402))) else (laws_FnGroups.j7 k bt392.1 bt392.2 t398 true))))) true := by
  obtain ⟨g, g', e, gb, gb'⟩ := drawMerge hb
  refine Ev.bd (f := fun k bt392 => (impl_Merge.f k bt392.1 bt392.2).bind fun t398 => ((spec_GroupsOk.f k bt392.1).bind fun t401 => (if t401 = true then ((spec_GroupsOk.f k bt392.2).bind fun t402 => (laws_FnGroups.j7 k bt392.1 bt392.2 t398 (!t402))) else (laws_FnGroups.j7 k bt392.1 bt392.2 t398 true)))) e ?_
  refine Ev.bd (f := fun k t398 => (spec_GroupsOk.f k g).bind fun t401 => (if t401 = true then ((spec_GroupsOk.f k g').bind fun t402 => (laws_FnGroups.j7 k g g' t398 (!t402))) else (laws_FnGroups.j7 k g g' t398 true))) (merge_ev g g') ?_
  have o1 := specOk_ev g gb
  have o2 := specOk_ev g' gb'
  have hj : Ev (fun k => laws_FnGroups.j7 k g g' [] true) true := Ev.stop fun k => by rw [laws_FnGroups.j7, if_pos rfl]; rfl
  cases h1 : grpOk g with
  | false =>
    rw [h1] at o1
    refine Ev.bd (f := fun k t401 => (if t401 = true then ((spec_GroupsOk.f k g').bind fun t402 => (laws_FnGroups.j7 k g g' _ (!t402))) else (laws_FnGroups.j7 k g g' _ true))) o1 ?_
    exact Ev.fit hj (by funext k; rw [if_neg (by simp), if_neg (by simp)])
  | true =>
    rw [h1] at o1
    refine Ev.bd (f := fun k t401 => (if t401 = true then ((spec_GroupsOk.f k g').bind fun t402 => (laws_FnGroups.j7 k g g' _ (!t402))) else (laws_FnGroups.j7 k g g' _ true))) o1 ?_
    simp only [if_true]
    cases h2 : grpOk g' with
    | false =>
      rw [h2] at o2
      refine Ev.bd (f := fun k t402 => laws_FnGroups.j7 k g g' _ (!t402)) o2 ?_
      exact Ev.fit hj (by funext k; rw [if_neg (by simp)]; rfl)
    | true =>
      rw [h2] at o2
      refine Ev.bd (f := fun k t402 => laws_FnGroups.j7 k g g' _ (!t402)) o2 ?_
      have oa := (grpOk_iff g).1 h1
      have ob := (grpOk_iff g').1 h2
      exact Ev.go (law_l4 g g' oa ob g.length 0 (by omega) (by omega)) fun k => by rw [if_pos (by simp), laws_FnGroups.j7, if_neg (by simp)]
section
variable {b : List Int} {g : List S95} (hg : OkG g) (u : Int) (l : List Int) (i : Int) (h0 : 0 ≤ i) (h1 : i < (g.length : Int)) (x : List Int) (hxl : x.length ≤ 31) (hx : ∀ v, v ∈ x ↔ Belongs g i v)
include hg h0 h1 hxl hx
omit hg h0 h1 hx in
theorem law_l3 (j : Int) (y : List Int) (hyl : y.length ≤ 31) : ∀ (s : List Int) (q : Int), At y q s → (∀ v ∈ s, v ∈ x) → Ev (fun k => laws_FnGroups.l2 k b g u l i x (wrap64 (j + 1))) true → Ev (fun k => laws_FnGroups.l3 k b g u l i x j y q) true
  | [], q, ha, _, h => Ev.go h fun k => by
    have := ha.nil
    rw [laws_FnGroups.l3, if_neg (by omega)]
  | v :: s, q, ha, hs, h => by
    obtain ⟨a1, _, a3⟩ := ha.cons
    have a0 := ha.1
    have hv := ha.rdv
    have ih := law_l3 j y hyl s (q + 1) a3 (fun v hv => hs v (List.mem_cons_of_mem _ hv)) h
    refine Ev.step (f := fun k => (laws_has.f k x v).bind fun t391 => (if t391 = true then (laws_FnGroups.l3 k b g u l i x j y (q + 1)) else (some false))) (fun k => by rw [laws_FnGroups.l3, if_pos a1, if_pos a0, hv, wrap_id (by omega) (by omega)]) ?_
    refine Ev.bd (has_ev x (by omega) v) ?_
    rw [decide_eq_true (hs v List.mem_cons_self)]
    exact Ev.fit ih (by funext k; rw [if_pos rfl])
theorem law_l2 (next : Ev (fun k => laws_FnGroups.l0 k b g u l (i + 1)) true) : ∀ (s : List Int) (j : Int), At (subs g i) j s → Ev (fun k => laws_FnGroups.l2 k b g u l i x j) true
  | [], j, ha => Ev.go next fun k => by
    have hg8 := hg.1
    have e := ha.nil
    unfold subs at e
    rw [laws_FnGroups.l2, if_pos h0, if_pos h1, if_neg (by omega), wrap_id (by omega) (by omega)]
  | m :: s, j, ha => by
    obtain ⟨a1, _, a3⟩ := ha.cons
    have a0 := ha.1
    have hv := ha.rdv
    have hsl := subs_len hg h0 h1
    have hm := (hg.subs h0 h1).2 m ha.mem
    have ih := law_l2 next s (j + 1) a3
    obtain ⟨y, y1, _, y3, y4⟩ := bothUsers g hg.gb m
    refine Ev.step (f := fun k => (impl_UsersOf.f k g m).bind fun t387 => (laws_FnGroups.l3 k b g u l i x j t387 0)) (fun k => by
      unfold subs at a1 hv
      rw [laws_FnGroups.l2, if_pos h0, if_pos h1, if_pos a1, if_pos a0, hv]) ?_
    refine Ev.bd (f := fun k t387 => laws_FnGroups.l3 k b g u l i x j t387 0) y1 ?_
    refine law_l3 u l i x hxl j y (belongs_len y3 y4) y 0 (At.zero y) (fun v hv => (hx v).2 ?_) (by rw [wrap_id (by omega) (by omega)]; exact ih)
    obtain ⟨_, _, _, k, hk, hu⟩ := (y4 v).1 hv
    exact ⟨hg, h0, h1, k, hk.mono fun z hz => by simp at hz; subst hz; exact .step (.base (by simp)) ha.mem, hu⟩
theorem law_l1 (next : Ev (fun k => laws_FnGroups.l0 k b g u l (i + 1)) true) : ∀ (s : List Int) (j : Int), At (users g i) j s → Ev (fun k => laws_FnGroups.l1 k b g u l i x j) true
  | [], j, ha => Ev.go (law_l2 hg u l i h0 h1 x hxl hx next (subs g i) 0 (At.zero _)) fun k => by
    have e := ha.nil
    unfold users at e
    rw [laws_FnGroups.l1, if_pos h0, if_pos h1, if_neg (by omega)]
  | v :: s, j, ha => by
    obtain ⟨a1, _, a3⟩ := ha.cons
    have a0 := ha.1
    have hv := ha.rdv
    have hul := users_len hg h0 h1
    have ih := law_l1 next s (j + 1) a3
    refine Ev.step (f := fun k => (laws_has.f k x v).bind fun t383 => (if t383 = true then (laws_FnGroups.l1 k b g u l i x (j + 1)) else (some false))) (fun k => by
      unfold users at a1 hv hul
      rw [laws_FnGroups.l1, if_pos h0, if_pos h1, if_pos a1, if_pos a0, hv, wrap_id (by omega) (by omega)]) ?_
    refine Ev.bd (has_ev x (by omega) v) ?_
    rw [decide_eq_true ((hx v).2 ⟨hg, h0, h1, i, .base (by simp), ha.mem⟩)]
    exact Ev.fit ih (by funext k; rw [if_pos rfl])
end
theorem law_l0 (b : List Int) (hb : (b.length : Int) ≤ 140737488351232) (g : List S95) (gb : GB g) (u : Int) (l : List Int) (hll : l.length ≤ 1000) (hl : ∀ x, x ∈ l ↔ Belongs g x u) : ∀ (d : Nat) (i : Int), 0 ≤ i → i + d = (g.length : Int) → Ev (fun k => laws_FnGroups.l0 k b g u l i) true := by
  have half := law_half b hb
  have stop : ∀ i, Ev (fun k => laws_FnGroups.j2 k b g u l i false) true := fun i => Ev.go half fun k => by rw [laws_FnGroups.j2, if_neg (by simp)]
  have ok := specOk_ev g gb
  intro d
  induction d with
  | zero => exact fun i h0 h1 => Ev.go (stop i) fun k => by rw [laws_FnGroups.l0, if_neg (by omega)]
  | succ d ih =>
    intro i h0 h1
    refine Ev.step (f := fun k => (spec_GroupsOk.f k g).bind fun t370 => laws_FnGroups.j2 k b g u l i t370) (fun k => by rw [laws_FnGroups.l0, if_pos (by omega)]) ?_
    refine Ev.bd (f := fun k t370 => laws_FnGroups.j2 k b g u l i t370) ok ?_
    cases hok : grpOk g with
    | false => exact stop i
    | true =>
      have hg := (grpOk_iff g).1 hok
      obtain ⟨x, x1, x2, x3, x4⟩ := bothUsers g gb i
      have hxl := belongs_len x3 x4
      refine Ev.step (f := fun k => (impl_UsersOf.f k g i).bind fun t371 => ((laws_has.f k t371 u).bind fun t374 => ((laws_has.f k l i).bind fun t375 => (if (t374 != t375) = true then (laws_FnGroups.j3 k b g u l i t371 true) else ((spec_UsersOf.f k g i).bind fun t376 => ((laws_sameInts.f k t371 t376).bind fun t379 => (laws_FnGroups.j3 k b g u l i t371 (!t379)))))))) (fun k => by rw [laws_FnGroups.j2, if_pos rfl]) ?_
      refine Ev.bd (f := fun k t371 => (laws_has.f k t371 u).bind fun t374 => ((laws_has.f k l i).bind fun t375 => (if (t374 != t375) = true then (laws_FnGroups.j3 k b g u l i t371 true) else ((spec_UsersOf.f k g i).bind fun t376 => ((laws_sameInts.f k t371 t376).bind fun t379 => (laws_FnGroups.j3 k b g u l i t371 (!t379))))))) x1 ?_
      refine Ev.bd (f := fun k t374 => (laws_has.f k l i).bind fun t375 => (if (t374 != t375) = true then (laws_FnGroups.j3 k b g u l i x true) else ((spec_UsersOf.f k g i).bind fun t376 => ((laws_sameInts.f k x t376).bind fun t379 => (laws_FnGroups.j3 k b g u l i x (!t379)))))) (has_ev x (by omega) u) ?_
      refine Ev.bd (f := fun k t375 => (if (decide (u ∈ x) != t375) = true then (laws_FnGroups.j3 k b g u l i x true) else ((spec_UsersOf.f k g i).bind fun t376 => ((laws_sameInts.f k x t376).bind fun t379 => (laws_FnGroups.j3 k b g u l i x (!t379)))))) (has_ev l (by omega) i) ?_
      have e : decide (u ∈ x) = decide (i ∈ l) := by
        rw [Bool.eq_iff_iff, decide_eq_true_eq, decide_eq_true_eq, x4, hl]
      rw [e]
      refine Ev.fit (f := fun k => (spec_UsersOf.f k g i).bind fun t376 => ((laws_sameInts.f k x t376).bind fun t379 => (laws_FnGroups.j3 k b g u l i x (!t379)))) ?_ (by funext k; rw [if_neg (by simp)])
      refine Ev.bd (f := fun k t376 => (laws_sameInts.f k x t376).bind fun t379 => (laws_FnGroups.j3 k b g u l i x (!t379))) x2 ?_
      refine Ev.bd (f := fun k t379 => laws_FnGroups.j3 k b g u l i x (!t379)) (same_ev x (by omega)) ?_
      refine Ev.go (law_l1 hg u l i h0 (by omega) x hxl x4 (ih (i + 1) (by omega) (by omega)) (users g i) 0 (At.zero _)) fun k => by rw [laws_FnGroups.j3, if_neg (by simp)]
theorem law_ev (b : List Int) (hb : (b.length : Int) ≤ 140737488351232) : Ev (fun k => laws_FnGroups.f k b) true := by
  unfold laws_FnGroups.f laws_big.f
  simp only [Option.bind_some]
  by_cases c : (b.length : Int) > 1048576
  · exact Ev.val fun k => by rw [if_pos (decide_eq_true c)]
  · refine Ev.fit (f := fun k => _) ?_ (by funext k; rw [if_neg (by simpa using c)])
    obtain ⟨g, u, e, gb⟩ := drawGroups (b := b) hb
    obtain ⟨l, l1, l2, l3, l4⟩ := bothGroups g gb u
    obtain ⟨m, m1, m2, m3⟩ := bothLoops g gb
    refine Ev.bd (f := fun k bt352 => (impl_GroupsOf.f k bt352.1 bt352.2).bind fun t356 => ((spec_GroupsOf.f k bt352.1 bt352.2).bind fun t359 => ((laws_sameInts.f k t356 t359).bind fun t362 => (if t362 = true then ((impl_Loops.f k bt352.1).bind fun t363 => ((spec_Loops.f k bt352.1).bind fun t366 => ((laws_sameInts.f k t363 t366).bind fun t369 => (laws_FnGroups.j0 k b bt352.1 bt352.2 t356 (!t369))))) else (laws_FnGroups.j0 k b bt352.1 bt352.2 t356 true))))) e ?_
    refine Ev.bd (f := fun k t356 => (spec_GroupsOf.f k g u).bind fun t359 => ((laws_sameInts.f k t356 t359).bind fun t362 => (if t362 = true then ((impl_Loops.f k g).bind fun t363 => ((spec_Loops.f k g).bind fun t366 => ((laws_sameInts.f k t363 t366).bind fun t369 => (laws_FnGroups.j0 k b g u t356 (!t369))))) else (laws_FnGroups.j0 k b g u t356 true)))) l1 ?_
    refine Ev.bd (f := fun k t359 => (laws_sameInts.f k l t359).bind fun t362 => (if t362 = true then ((impl_Loops.f k g).bind fun t363 => ((spec_Loops.f k g).bind fun t366 => ((laws_sameInts.f k t363 t366).bind fun t369 => (laws_FnGroups.j0 k b g u l (!t369))))) else (laws_FnGroups.j0 k b g u l true))) l2 ?_
    refine Ev.bd (f := fun k t362 => (if t362 = true then ((impl_Loops.f k g).bind fun t363 => ((spec_Loops.f k g).bind fun t366 => ((laws_sameInts.f k t363 t366).bind fun t369 => (laws_FnGroups.j0 k b g u l (!t369))))) else (laws_FnGroups.j0 k b g u l true))) (same_ev l (by omega)) ?_
    simp only [if_true]
    refine Ev.bd (f := fun k t363 => (spec_Loops.f k g).bind fun t366 => ((laws_sameInts.f k t363 t366).bind fun t369 => (laws_FnGroups.j0 k b g u l (!t369)))) m1 ?_
    refine Ev.bd (f := fun k t366 => (laws_sameInts.f k m t366).bind fun t369 => (laws_FnGroups.j0 k b g u l (!t369))) m2 ?_
    refine Ev.bd (f := fun k t369 => laws_FnGroups.j0 k b g u l (!t369)) (same_ev m (by omega)) ?_
    exact Ev.go (law_l0 b hb g gb u l l3 l4 g.length 0 (by omega) (by omega)) fun k => by rw [laws_FnGroups.j0, if_neg (by simp)]
theorem FnGroups_pure : laws_FnGroups.Pure := by
  intro l0 _ h1 _
  exact (law_ev l0 (by omega)).rounds
end Go.Proofs.Ytbgfkpagkhofpaa.PFnGroups

namespace Go.Proofs.Ytbgfkpagkhofpaa.Pure
open Go.Proofs.Ytbgfkpagkhofpaa.PFnGroups
theorem FnGroups : laws_FnGroups.Pure := FnGroups_pure
end Go.Proofs.Ytbgfkpagkhofpaa.Pure
