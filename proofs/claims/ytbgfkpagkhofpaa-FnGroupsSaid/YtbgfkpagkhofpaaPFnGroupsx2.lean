-- Written by a program of this session: a Go function told as a Lean function, and the proof.
import Derived.Test.YtbgfkpagkhofpaaPFnGroupsx0
namespace Go.Proofs.Ytbgfkpagkhofpaa.PFnGroups
open Go.RowKit Go.Proofs.YtbgfkpagkhofpaaW.PrintWords Go.Proofs.YtbgfkpagkhofpaaW.PrintLast Go.Proofs.YtbgfkpagkhofpaaW.PrintMore
attribute [local go_sem] max2_int min2_int max_two min_two max_three min_three max_four min_four   -- for this text's walks alone
set_option linter.unusedVariables false
set_option linter.unusedSimpArgs false

/-! ### slices_Sort_int_int: function 196 -/
/-! a row of the call's own, handed to the library's sort -/
section
variable {α : Type} [Inhabited α]
theorem srt_heap {w : World} {g n : Nat} {os : Array Obj} {cur : Array Value} {e : TypeId} {fr : Nat × Nat} (enc : α → Value) (F : Array α) (hb : w.heap[g]? = some (.cells cur e fr)) :
  (Go.Sort.grow (Go.Sort.putRow enc (Go.Sort.ahead w n) g 0 F) os).heap[g]? = some (.cells (Go.Sort.putCells enc 0 F cur) e fr) := by
 have hg : g < w.heap.size := (Array.getElem?_eq_some_iff.1 hb).1
 rw [Go.Sort.heap_grow_old _ _ (by simpa using hg)]
 simp [Go.Sort.putRow, Go.Sort.mapBlock, Go.Sort.ahead, Array.getElem?_modify, hb, Go.Sort.onCells]
theorem srt_grown {w : World} {g n : Nat} {os : Array Obj} (enc : α → Value) (F : Array α) : w.grownBy (Go.Sort.grow (Go.Sort.putRow enc (Go.Sort.ahead w n) g 0 F) os) (some g) := by
 refine ⟨rfl, rfl, rfl, by simp, fun k hk hne => ?_⟩
 rw [Go.Sort.heap_grow_old _ _ (by simpa using hk)]
 have : g ≠ k := fun e => hne (by rw [e])
 simp [Go.Sort.putRow, Go.Sort.mapBlock, Go.Sort.ahead, Array.getElem?_modify, this]
theorem srt_take (enc : α → Value) (cur : Array Value) (F : Array α) (h : F.size ≤ cur.size) : (Go.Sort.putCells enc 0 F cur).toList.take F.size = F.toList.map enc := by
 apply List.ext_getElem?
 intro j
 by_cases hj : j < F.size
 ·rw [List.getElem?_take_of_lt hj, Array.getElem?_toList]
  simp [Go.Sort.putCells, hj, show j < cur.size by omega]
 ·rw [List.getElem?_take_eq_none (by omega), List.getElem?_eq_none (by simp; omega)]
theorem srt_holds {w : World} {g : Nat} {cur : Array Value} {e : TypeId} (enc : α → Value) (F : Array α) (hb : w.heap[g]? = some (.cells cur e (0, 0))) (ht : cur.toList.take F.size = F.toList.map enc) : Go.Sort.Holds enc w g 0 F := by
 intro j hj
 refine ⟨?_, by simp [World.frozen?, hb]⟩
 have h1 : (cur.toList.take F.size)[j]? = (F.toList.map enc)[j]? := by rw [ht]
 rw [List.getElem?_take_of_lt hj] at h1
 simp only [World.cell?, hb, Nat.zero_add]
 simp only [Option.isSome_none, Bool.false_eq_true, if_false]
 rw [← Array.getElem?_toList, h1]
 simp [hj]
theorem srt_own {w : World} {base g cap n m size : Nat} {e : TypeId} {os : Array Obj} {cur : Array Value} (enc : α → Value) (F : Array α) (hbase : base ≤ g) (hb : w.heap[g]? = some (.cells cur e (0, 0)))
  (h1 : n ≤ cap) (h2 : cap ≤ maxLen) (h3 : cur.size = cap * size) (hF : F.size = n * size) :
  (Go.Sort.grow (Go.Sort.putRow enc (Go.Sort.ahead w m) g 0 F) os).ownsRow base e size (.slice (some ⟨g, 0, none⟩) n cap) n (F.toList.map enc) :=
 ⟨by simp [hF], .inr ⟨g, cap, _, rfl, hbase, srt_heap enc F hb, h1, h2, by simp [Go.Sort.putCells, h3], by rw [← hF]; exact srt_take enc cur F (by rw [hF, h3]; exact Nat.mul_le_mul_right _ h1)⟩⟩
end
section
open Go.Shelf
def sortIntsL_ren : Go.Shelf.Ren := ⟨fun | 189 => 196 | 125 => 189 | 257 => 240 | 128 => 237 | 129 => 238 | 294 => 259 | 295 => 260 | 296 => 261 | 297 => 262 | 298 => 263 | 299 => 264 | 216 => 265 | 300 => 266 | 301 => 267 | 328 => 270 | 329 => 255 | 330 => 256 | 331 => 271 | 332 => 272 | 215 => 273 | 343 => 274 | n => n, fun | 28 => 56 | 3 => 3 | 46 => 204 | 0 => 0 | 51 => 234 | 53 => 236 | 4 => 4 | 183 => 228 | 182 => 227 | 131 => 77 | 5 => 5 | 9 => 9 | 218 => 243 | 222 => 247 | 228 => 254 | 229 => 209 | n => n, fun | n => n⟩
theorem sortIntsL : Go.Proofs.Lays.n189 Try.prog sortIntsL_ren := {
 mixed := by kernel_rfl
 f125 := Try.func189.trans (congrArg some (by kernel_rfl))
 f128 := Try.func237.trans (congrArg some (by kernel_rfl))
 f129 := Try.func238.trans (congrArg some (by kernel_rfl))
 f189 := Try.func196.trans (congrArg some (by kernel_rfl))
 f215 := Try.func273.trans (congrArg some (by kernel_rfl))
 f216 := Try.func265.trans (congrArg some (by kernel_rfl))
 f257 := Try.func240.trans (congrArg some (by kernel_rfl))
 f294 := Try.func259.trans (congrArg some (by kernel_rfl))
 f295 := Try.func260.trans (congrArg some (by kernel_rfl))
 f296 := Try.func261.trans (congrArg some (by kernel_rfl))
 f297 := Try.func262.trans (congrArg some (by kernel_rfl))
 f298 := Try.func263.trans (congrArg some (by kernel_rfl))
 f299 := Try.func264.trans (congrArg some (by kernel_rfl))
 f300 := Try.func266.trans (congrArg some (by kernel_rfl))
 f301 := Try.func267.trans (congrArg some (by kernel_rfl))
 f328 := Try.func270.trans (congrArg some (by kernel_rfl))
 f329 := Try.func255.trans (congrArg some (by kernel_rfl))
 f330 := Try.func256.trans (congrArg some (by kernel_rfl))
 f331 := Try.func271.trans (congrArg some (by kernel_rfl))
 f332 := Try.func272.trans (congrArg some (by kernel_rfl))
 f343 := Try.func274.trans (congrArg some (by kernel_rfl))
 t0 := Try.underlying0
 a0 := Try.isAgg0
 z0 := Try.sizeOf0
 v0 := Try.zeroValue0
 t3 := Try.underlying3
 a3 := Try.isAgg3
 z3 := Try.sizeOf3
 v3 := Try.zeroValue3
 t4 := Try.underlying4
 a4 := Try.isAgg4
 z4 := Try.sizeOf4
 v4 := Try.zeroValue4
 t5 := Try.underlying5
 a5 := Try.isAgg5
 z5 := Try.sizeOf5
 v5 := Try.zeroValue5
 t9 := Try.underlying9
 a9 := Try.isAgg9
 z9 := Try.sizeOf9
 v9 := Try.zeroValue9
 t28 := Try.underlying56
 a28 := Try.isAgg56
 z28 := Try.sizeOf56
 v28 := Try.zeroValue56
 t46 := Try.underlying204
 a46 := Try.isAgg204
 z46 := Try.sizeOf204
 v46 := Try.zeroValue204
 t51 := Try.underlying234
 a51 := Try.isAgg234
 z51 := Try.sizeOf234
 v51 := Try.zeroValue234
 t53 := Try.underlying236
 a53 := Try.isAgg236
 z53 := Try.sizeOf236
 v53 := Try.zeroValue236
 t131 := Try.underlying77
 a131 := Try.isAgg77
 z131 := Try.sizeOf77
 v131 := Try.zeroValue77
 t182 := Try.underlying227
 a182 := Try.isAgg227
 z182 := Try.sizeOf227
 v182 := Try.zeroValue227
 t183 := Try.underlying228
 a183 := Try.isAgg228
 z183 := Try.sizeOf228
 v183 := Try.zeroValue228
 t218 := Try.underlying243
 a218 := Try.isAgg243
 z218 := Try.sizeOf243
 v218 := Try.zeroValue243
 t222 := Try.underlying247
 a222 := Try.isAgg247
 z222 := Try.sizeOf247
 v222 := Try.zeroValue247
 t228 := Try.underlying254
 a228 := Try.isAgg254
 z228 := Try.sizeOf254
 v228 := Try.zeroValue254
 t229 := Try.underlying209
 a229 := Try.isAgg209
 z229 := Try.sizeOf209
 v229 := Try.zeroValue209 }

def compactIntsL_ren : Go.Shelf.Ren := ⟨fun | 20 => 197 | n => n, fun | 22 => 56 | 3 => 3 | 4 => 4 | 0 => 0 | n => n, fun | n => n⟩
theorem compactIntsL : Go.Proofs.Lays2.n20 Try.prog compactIntsL_ren := {
 mixed := by kernel_rfl
 f20 := Try.func197.trans (congrArg some (by kernel_rfl))
 t0 := Try.underlying0
 a0 := Try.isAgg0
 z0 := Try.sizeOf0
 v0 := Try.zeroValue0
 t3 := Try.underlying3
 a3 := Try.isAgg3
 z3 := Try.sizeOf3
 v3 := Try.zeroValue3
 t4 := Try.underlying4
 a4 := Try.isAgg4
 z4 := Try.sizeOf4
 v4 := Try.zeroValue4
 t22 := Try.underlying56
 a22 := Try.isAgg56
 z22 := Try.sizeOf56
 v22 := Try.zeroValue56
 i3 := by kernel_rfl }

def bitsLenL_ren : Go.Shelf.Ren := ⟨fun | 125 => 189 | 128 => 237 | 129 => 238 | n => n, fun | 46 => 204 | 3 => 3 | 51 => 234 | 53 => 236 | 4 => 4 | 5 => 5 | 9 => 9 | n => n, fun | n => n⟩
theorem bitsLenL : Go.Proofs.Lays.n125 Try.prog bitsLenL_ren := {
 mixed := by kernel_rfl
 f125 := Try.func189.trans (congrArg some (by kernel_rfl))
 f128 := Try.func237.trans (congrArg some (by kernel_rfl))
 f129 := Try.func238.trans (congrArg some (by kernel_rfl))
 t3 := Try.underlying3
 a3 := Try.isAgg3
 z3 := Try.sizeOf3
 v3 := Try.zeroValue3
 t4 := Try.underlying4
 a4 := Try.isAgg4
 z4 := Try.sizeOf4
 v4 := Try.zeroValue4
 t5 := Try.underlying5
 a5 := Try.isAgg5
 z5 := Try.sizeOf5
 v5 := Try.zeroValue5
 t9 := Try.underlying9
 a9 := Try.isAgg9
 z9 := Try.sizeOf9
 v9 := Try.zeroValue9
 t46 := Try.underlying204
 a46 := Try.isAgg204
 z46 := Try.sizeOf204
 v46 := Try.zeroValue204
 t51 := Try.underlying234
 a51 := Try.isAgg234
 z51 := Try.sizeOf234
 v51 := Try.zeroValue234
 t53 := Try.underlying236
 a53 := Try.isAgg236
 z53 := Try.sizeOf236
 v53 := Try.zeroValue236 }
end
theorem own_ints {ok : Nat → Prop} {w : World} {base : Nat} {v : Value} {l : List Int} (h : Kd.R (Kd.int .i64) 3 w base ok v l) : (v = .slice none 0 0 ∧ l = []) ∨ ∃ g cap cur, v = .slice (some ⟨g, 0, none⟩) l.length cap ∧ base ≤ g ∧ w.heap[g]? = some (.cells cur 3 (0, 0)) ∧ l.length ≤ cap ∧ cap ≤ maxLen ∧ cur.size = cap * 1 ∧ cur.toList.take l.toArray.size = l.toArray.toList.map (Value.int .i64) := by
 obtain ⟨_, ho⟩ := Kd.own_of_R h
 rcases ho with ⟨hv, hn⟩ | ⟨g, cap, cur, rfl, hb, hh, h1, h2, h3, h4⟩
 ·exact .inl ⟨hv, List.eq_nil_of_length_eq_zero hn⟩
 ·exact .inr ⟨g, cap, cur, rfl, hb, hh, h1, h2, h3, by rw [Nat.mul_one] at h4; simpa [encs] using h4⟩
def slices_Sort_int_int.f (l : List Int) : Option (List Int) := if l.length < 4611686018427387904 then some (l.mergeSort fun x y => decide (x ≤ y)) else none
theorem ins_nil (w : World) : Calls Try.prog 259 #[.slice none 0 0, .int .i64 0, .int .i64 0] w fun e w' => e = .returned (.tuple #[]) ∧ Drawn0 w w' := by
 go_enter Try.func259, Try.ntmps259
 go_wp2
 refine wp_loop_rounds 1 ?_
 rw [rounds_succ]
 go_wp2
 go_end0
 exact ⟨rfl, Drawn0.refl _⟩
theorem pdq_nil (w : World) (lim : Int) : Calls Try.prog 240 #[.slice none 0 0, .int .i64 0, .int .i64 0, .int .i64 lim] w fun e w' => e = .returned (.tuple #[]) ∧ Drawn0 w w' := by
 go_enter Try.func240, Try.ntmps240
 go_wp2
 refine wp_loop_rounds 1 ?_
 rw [rounds_succ]
 go_wp2_with (go_at_call 259; refine (ins_nil _).mono ?_; rintro e w' ⟨rfl, ⟨nd, rfl⟩⟩)
 (try simp only [Exit.inBlock, Exit.then]); refine bodyPost_ret (results_none rfl _ _ _) rfl ?_
 exact ⟨rfl, by repeat (first | exact Drawn0.refl _ | apply Drawn0.step)⟩
theorem sort_nil (w : World) : Calls Try.prog 196 #[.slice none 0 0] w fun e w' => e = .returned (.tuple #[]) ∧ Drawn0 w w' := by
 have hl := Any.bits_Len bitsLenL 0 w (by omega) (by omega)
 change Calls Try.prog 189 _ _ _ at hl
 go_enter Try.func196, Try.ntmps196
 go_wp2_with (first | (go_at_call 189; refine hl.mono ?_; rintro e w' ⟨rfl, rfl⟩) | (go_at_call 240; refine (pdq_nil _ _).mono ?_; rintro e w' ⟨rfl, ⟨nd, rfl⟩⟩))
 go_end0
 exact ⟨rfl, by repeat (first | exact Drawn0.refl _ | apply Drawn0.step)⟩
theorem slices_Sort_int_int.calls (P0_ : Nat → Prop) (u9000_ : Value) (l0 : List Int) (r : List Int) (w0 w : World) (hB : Below w0.heap.size w0 w) (ho0 : Kd.R (Kd.int .i64) 3 w w0.heap.size P0_ u9000_ l0) (h : slices_Sort_int_int.f l0 = some r) :
  Calls Try.prog 196 #[u9000_] w fun e w' => e = .returned (.tuple #[]) ∧ Kd.R (Kd.int .i64) 3 w' w0.heap.size (fun k_ => (P0_ k_ ∨ w.heap.size ≤ k_)) u9000_ r ∧ Below w0.heap.size w0 w' ∧ Kept w w' (fun k_ => P0_ k_) := by
 unfold slices_Sort_int_int.f at h
 split at h
 rotate_left
 ·simp at h
 rename_i hsz
 obtain rfl := Option.some.inj h
 clear h
 have hok := ho0.1
 rcases own_ints ho0 with ⟨rfl, rfl⟩ | ⟨g, cap, cur, rfl, hbase, hh, h1, h2, h3, h4⟩
 ·refine (sort_nil w).mono ?_
  rintro e w' ⟨rfl, hd⟩
  have hb := hd.below
  exact ⟨rfl, by simpa using Kd.R_mono (Kd.R_below ho0 hb) (fun k hk => .inl hk), below_then hB hB.size hb, Kept.of_below hb _⟩
 ·have hg : g < w.heap.size := (Array.getElem?_eq_some_iff.1 hh).1
  have hH := srt_holds (Value.int .i64) l0.toArray hh h4
  have hcon := Any.slices_Sort_int sortIntsL g 0 cap l0 w hH hg hsz
  change Calls Try.prog 196 _ _ _ at hcon
  refine hcon.mono ?_
  rintro e w' ⟨rfl, m, os, rfl⟩
  have hlen : (l0.mergeSort fun x y => decide (x ≤ y)).length = l0.length := List.length_mergeSort _
  have hgr := srt_grown (w := w) (g := g) (n := m) (os := os) (Value.int .i64) (l0.mergeSort fun x y => decide (x ≤ y)).toArray
  have hown := srt_own (base := w0.heap.size) (m := m) (os := os) (n := l0.length) (size := 1) (Value.int .i64) (l0.mergeSort fun x y => decide (x ≤ y)).toArray hbase hh h1 h2 h3 (by simp)
  exact ⟨rfl, Kd.R_of_own (by rw [hlen]; simpa [encs] using hown) (fun k e => .inl (hok k e)), hB.grown hgr hB.size (fun k e => by injection e with e; omega), (Kept.refl w _).of_grown hgr (fun k e => .inl (hok k (by rw [← e]; rfl)))⟩

/-! ### slices_Compact_int_int: function 197 -/
-- behind 196
def slices_Compact_int_int.f (l : List Int) : Option (List Int) := some (Lib.compact l)
theorem compact_le (l : List Int) : (Lib.compact l).length ≤ l.length := by
 unfold Lib.compact Lib.compactUpTo
 rw [List.length_map]
 exact Nat.le_trans (List.length_filter_le _ _) (by simp)
theorem slices_Compact_int_int.calls (P0_ : Nat → Prop) (u9000_ : Value) (l0 : List Int) (r : List Int) (w0 w : World) (hB : Below w0.heap.size w0 w) (ho0 : Kd.R (Kd.int .i64) 3 w w0.heap.size P0_ u9000_ l0) (h : slices_Compact_int_int.f l0 = some r) :
  Calls Try.prog 197 #[u9000_] w fun e w' => ∃ v0_ : Value, e = .returned (v0_) ∧ Kd.R (Kd.int .i64) 3 w' w0.heap.size (fun k_ => (P0_ k_ ∨ w.heap.size ≤ k_)) v0_ r ∧ Below w0.heap.size w0 w' ∧ Kept w w' (fun k_ => P0_ k_) := by
 obtain rfl := Option.some.inj h
 clear h
 have hok := ho0.1
 rcases own_ints ho0 with ⟨rfl, rfl⟩ | ⟨g, cap, cur, rfl, hbase, hh, h1, h2, h3, h4⟩
 ·have hcon := Any.slices_Compact_int_empty compactIntsL none 0 w
  change Calls Try.prog 197 _ _ _ at hcon
  refine hcon.mono ?_
  rintro e w' ⟨rfl, rfl⟩
  exact ⟨_, rfl, Kd.R_nil _ _ _ _ _, hB, Kept.refl _ _⟩
 ·have hH := srt_holds (Value.int .i64) l0.toArray hh h4
  have hcon := Any.slices_Compact_int compactIntsL g 0 cap l0 w hH (by simp only [maxLen] at h2; omega) h1
  change Calls Try.prog 197 _ _ _ at hcon
  refine hcon.mono ?_
  have hle := compact_le l0
  rintro e w' ⟨rfl, m, hw⟩
  have hw' : w' = Go.Sort.grow (Go.Sort.putRow (Value.int .i64) (Go.Sort.ahead w m) g 0 (Lib.compact l0 ++ List.replicate (l0.length - (Lib.compact l0).length) 0).toArray) #[] := by rw [hw, Go.Sort.grow_empty]
  clear hw
  subst hw'
  have hgr := srt_grown (w := w) (g := g) (n := m) (os := #[]) (Value.int .i64) (Lib.compact l0 ++ List.replicate (l0.length - (Lib.compact l0).length) 0).toArray
  have hown := srt_own (base := w0.heap.size) (m := m) (os := #[]) (n := l0.length) (size := 1) (Value.int .i64) (Lib.compact l0 ++ List.replicate (l0.length - (Lib.compact l0).length) 0).toArray hbase hh h1 h2 h3 (by simp; omega)
  refine ⟨_, rfl, Kd.R_of_own ?_ (fun k e => .inl (hok k e)), hB.grown hgr hB.size (fun k e => by injection e with e; omega), (Kept.refl w _).of_grown hgr (fun k e => .inl (hok k (by rw [← e]; rfl)))⟩
  obtain ⟨_, hown⟩ := hown
  rcases hown with ⟨hn, _⟩ | ⟨g', cap', cur', he, a1, a2, a3, a4, a5, a6⟩
  ·cases hn
  ·injection he with e1 e2 e3
   injection e1 with e1
   injection e1 with e1
   subst e1 e3
   refine ⟨by simp [encs], .inr ⟨_, _, _, rfl, a1, a2, by omega, a4, a5, ?_⟩⟩
   have := congrArg (List.take (Lib.compact l0).length) a6
   rw [List.take_take] at this
   simp only [Nat.mul_one] at this ⊢
   rw [Nat.min_eq_left hle] at this
   rw [this]
   simp [encs, List.take_append]

/-! ### impl_risen: function 133 -/
def impl_risen.f (l0 : List Int) : Option (List Int) := (slices_Sort_int_int.f l0).bind fun t107 => ((slices_Compact_int_int.f t107).bind fun t108 => (some t108))
set_option maxHeartbeats 8000000 in
set_option maxRecDepth 100000 in
theorem impl_risen.calls (P0_ : Nat → Prop) (u9000_ : Value) (l0 : List Int) (r : List Int) (w0 w : World) (hB : Below w0.heap.size w0 w) (ho0 : Kd.R (Kd.int .i64) 3 w w0.heap.size P0_ u9000_ l0) (h : impl_risen.f l0 = some r) :
  Calls Try.prog 133 #[u9000_] w fun e w' => ∃ v0_ : Value, e = .returned (v0_) ∧ Kd.R (Kd.int .i64) 3 w' w0.heap.size (fun k_ => (P0_ k_ ∨ w.heap.size ≤ k_)) v0_ r ∧ Below w0.heap.size w0 w' ∧ Kept w w' (fun k_ => P0_ k_) := by
 have HO0 := Aside0.mk (show Kd.R (Kd.int .i64) 3 w w0.heap.size (fun k_ => (P0_ k_ ∨ w.heap.size ≤ k_)) u9000_ l0 from Kd.R_mono ho0 (fun k_ hk => (.inl hk)))
 have HK := Aside0.mk (Kept.refl w (fun k_ => P0_ k_))
 have HW0 := Aside0.mk hB.size
 have HB := Aside0.mk hB
 clear hB
 have H : ((slices_Sort_int_int.f l0).bind fun t107 => ((slices_Compact_int_int.f t107).bind fun t108 => (some t108))) = some r := h
 clear h
 obtain ⟨t107, A20, H⟩ := bnd_ H
 have A2 := Aside0.mk A20
 clear A20
 obtain ⟨t108, A30, H⟩ := bnd_ H
 have A3 := Aside0.mk A30
 clear A30
 obtain rfl := Option.some.inj H
 obtain ⟨Ao4, co4, eo4⟩ := Kd.R_slice HO0.out
 subst eo4
 go_enter Try.func133, Try.ntmps133
 go_wp2_with (first | ((with_reducible refine gate_callee (f := 196) rfl ?_); refine goesL_ (some 4) rfl rfl Try.func196 (by kernel_rfl) rfl #[.slice Ao4 l0.length co4] rfl (by (try simp only [List.map_toArray, List.map_cons, List.map_nil]); first | done | rfl | (simp only [List.length_drop, List.length_take]; rfl)) ?_; (with_reducible refine (slices_Sort_int_int.calls (fun k_ => some k_ = (.slice Ao4 l0.length co4 : Value).ownBlock) (.slice Ao4 l0.length co4) l0 t107 w0 _ ?side1 ?side2 A2.out).mono ?_); (case side1 => repeat (first | (with_reducible first | exact HB.out | apply below_alloc | apply pw_below_drewN | apply below_drew1) | exact HB.out)); (case side2 => exact Kd.R_tight rfl HO0.out); rintro e w5 ⟨rfl, hy0, hb, hkp⟩; refine ⟨_, rfl, ?_⟩; have n0_ := Aside0.mk (Kd.R_reok rfl hy0 (fun k_ e_ => HO0.out.1 k_ e_)); have n1_ := Aside0.mk (Kept.then_ (S := (fun k_ => P0_ k_)) (by repeat (first | (with_reducible first | exact HK.out | apply Kept.alloc | apply Kept.drewN | apply Kept.drew) | exact HK.out)) hkp (fun k_ hs_ => (fun e_ => (HO0.out.1 k_ e_.symm)) hs_)); have n2_ := Aside0.mk (hb); clear HO0; clear HK; clear HB; have HO0 := n0_; have HK := n1_; have HB := n2_; clear n0_ n1_ n2_; (try clear hb); (try clear hkp); (try clear hy0)) | ((with_reducible refine gate_callee (f := 197) rfl ?_); refine goesL_ (some 6) rfl rfl Try.func197 (by kernel_rfl) rfl #[.slice Ao4 l0.length co4] rfl (by (try simp only [List.map_toArray, List.map_cons, List.map_nil]); first | done | rfl | (simp only [List.length_drop, List.length_take]; rfl)) ?_; (with_reducible refine (slices_Compact_int_int.calls (fun k_ => some k_ = (.slice Ao4 l0.length co4 : Value).ownBlock) (.slice Ao4 l0.length co4) t107 t108 w0 _ ?side1 ?side2 A3.out).mono ?_); (case side1 => repeat (first | (with_reducible first | exact HB.out | apply below_alloc | apply pw_below_drewN | apply below_drew1) | exact HB.out)); (case side2 => exact Kd.R_tight rfl HO0.out); rintro e w6 ⟨v109, rfl, ho0, hb, hkp⟩; refine ⟨_, rfl, ?_⟩; have n0_ := Aside0.mk (Kd.R_mono (ok' := fun k_ => (P0_ k_ ∨ w.heap.size ≤ k_)) ho0 (fun k_ hk_ => Or.elim hk_ (fun hs_ => (HO0.out.1 k_ (hs_).symm)) (fun hn_ => (.inr (Nat.le_trans (by first | exact HK.out.1 | exact (show Kept w _ (fun k_ => P0_ k_) from by repeat (first | (with_reducible first | exact HK.out | apply Kept.alloc | apply Kept.drewN | apply Kept.drew) | exact HK.out)).1) hn_))))); have n1_ := Aside0.mk (Kept.then_ (S := (fun k_ => P0_ k_)) (by repeat (first | (with_reducible first | exact HK.out | apply Kept.alloc | apply Kept.drewN | apply Kept.drew) | exact HK.out)) hkp (fun k_ hs_ => (fun e_ => (HO0.out.1 k_ e_.symm)) hs_)); have n2_ := Aside0.mk (hb); clear HK; clear HB; clear HO0; have HO110 := n0_; have HK := n1_; have HB := n2_; clear n0_ n1_ n2_; (try clear hb); (try clear hkp); (try clear ho0)))
 go_ret
 exact ⟨_, by first | rfl | (simp [errW_none, errW_some] <;> rfl) | (simp [*, errW_none, errW_some] <;> rfl), by (with_reducible repeat (first | apply Kd.R_alloc | apply Kd.R_drewN | apply Kd.R_drew)); exact HO110.out, by repeat (first | (with_reducible first | exact HB.out | apply below_alloc | apply pw_below_drewN | apply below_drew1) | exact HB.out), by repeat (first | (with_reducible first | exact HK.out | apply Kept.alloc | apply Kept.drewN | apply Kept.drew) | exact HK.out)⟩

end Go.Proofs.Ytbgfkpagkhofpaa.PFnGroups
