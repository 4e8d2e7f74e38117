/- The law FnHaves holds: the best ticket is one of those there and none is better, and what is put away for a new one was no better for anything: the walk through the function. -/
import Derived.Test.YtbgfkpagkhofpaaPureFnHavesA
namespace Go.Proofs.Ytbgfkpagkhofpaa.PFnHaves
open Go.RowKit Go.Proofs.YtbgfkpagkhofpaaW.PrintWords Go.Proofs.YtbgfkpagkhofpaaW.PrintLast Go.Proofs.YtbgfkpagkhofpaaW.PrintMore
attribute [local go_sem] max2_int min2_int max_two min_two max_three min_three max_four min_four
set_option linter.unusedVariables false
set_option linter.unusedSimpArgs false
theorem purge_len (p : List S28) (q : Int) : (purge p q).length ≤ p.length := by
  unfold purge
  split
  · exact List.length_filter_le _ _
  · simp
theorem rdS_mem {l : List S28} {i : Int} (h0 : 0 ≤ i) (h1 : i < (l.length : Int)) : rd_T28 l i ∈ l := by
  unfold rd_T28
  have : i.toNat < l.length := by omega
  rw [List.getD_eq_getElem?_getD, List.getElem?_eq_getElem this]
  exact List.getElem_mem this
theorem put_flags {m : List S28} {n : S28} (hk : okL m = true) (hp : (havePut m n).2 = true) : decide (Int.tmod (wrap64 (Int.tdiv n.f3 16)) 2 = 0) = inval n.f3 := by
  unfold havePut at hp
  rw [if_pos hk] at hp
  split at hp
  · rename_i g
    have hn := okH_iff.1 ((okL_mem g).1 n (by simp))
    exact div16 hn.2.2.2.1.1 hn.2.2.2.1.2
  · simp at hp
theorem havePut_ok (m : List S28) (n : S28) (h : okL m = true) : okL (havePut m n).1 = true := by
  unfold havePut
  rw [if_pos h]
  split
  · assumption
  · exact h
theorem havePut_same (m : List S28) (n : S28) (h : okL m = true) (hp : (havePut m n).2 = false) : (havePut m n).1 = m := by
  unfold havePut at hp ⊢
  rw [if_pos h] at hp ⊢
  split
  · rename_i g; rw [if_pos g] at hp; simp at hp
  · rfl
set_option maxHeartbeats 8000000 in
set_option maxRecDepth 100000 in
theorem law_calls (A0 : Option Addr) (c0 : Nat) (b : List Int) (w : World) (hb : (b.length : Int) ≤ 140737488351232) (hr0 : Kd.C (Kd.int .u8) w A0 b.length b) (hc0 : b.length ≤ c0) :
  Calls Try.prog 3 #[.slice A0 b.length c0] w fun e w' => e = .returned (.bool true) ∧ Below w.heap.size w w' := by
  have HR0 := Aside0.mk hr0
  have HC0 := Aside0.mk hc0
  have HBIG := Aside0.mk hb
  clear hr0 hc0 hb
  have HB := Aside0.mk (Below.refl w.heap.size w)
  obtain ⟨l, s, n, f, hd, hl, hf⟩ := drawB HBIG.out
  obtain ⟨K, hK⟩ := hd.rounds
  have HD := Aside0.mk hK
  obtain ⟨K2, hK2⟩ := (implB l (by omega) s n f).rounds
  have HA := Aside0.mk hK2
  obtain ⟨K3, hK3⟩ := (specB l s n f hf).rounds
  have HA2 := Aside0.mk hK3
  have HF := Aside0.mk hf
  clear hd hK hf hK2 hK3
  by_cases hbig : (b.length : Int) > 1048576
  · have hb0 : decide (1048576 < (b.length : Int)) = true := decide_eq_true hbig
    have h1 := Aside0.mk (show laws_big.f b = some true by unfold laws_big.f; rw [decide_eq_true hbig])
    clear hbig
    go_enter Try.func3, Try.ntmps3
    go_wp2_with (go_at_call 11; (with_reducible refine (laws_big.calls _ _ _ true _ HR0.out HC0.out h1.out).mono ?_); rintro e w' ⟨rfl, ⟨nd, rfl⟩⟩)
    go_ret
    exact ⟨rfl, by repeat (first | (with_reducible first | exact HB.out | apply below_alloc | apply pw_below_drewN | apply below_drew1) | exact HB.out)⟩
  · have h1 := Aside0.mk (show laws_big.f b = some false by unfold laws_big.f; rw [decide_eq_false hbig])
    clear hbig
    generalize hB : best l s n f = B at HA HA2
    have HBS := Aside0.mk hB
    clear hB
    go_enter Try.func3, Try.ntmps3
    go_wp2_with (first
      | (go_at_call 11; (with_reducible refine (laws_big.calls _ _ _ false _ HR0.out HC0.out h1.out).mono ?_); rintro e w' ⟨rfl, ⟨nd, rfl⟩⟩)
      | (go_at_call 12; (with_reducible refine (spec_DrawBest.calls K _ _ b l s n f _ (Kd.C_drewN HR0.out _) HC0.out HD.out).mono ?_); rintro e w1 ⟨v, rfl, ho, hb⟩; obtain ⟨A1, c1, rfl⟩ := Kd.R_slice ho; have I1 := Aside0.mk (Kd.R_reads' ho).2; have HB1 := Aside0.mk (below_then (pw_below_drewN HB.out _) (Nat.le_refl _) hb); clear ho hb)
      | (go_at_call 13; (with_reducible refine (impl_Best.calls K2 _ _ l s n f _ _ _ _ _ _ _ I1.out.2 I1.out.1 HA.out).mono ?_); rintro e w2 ⟨rfl, hb⟩; replace I1 := Aside0.mk (And.intro I1.out.1 (Kd.C_below I1.out.2 hb)); have HB2 := Aside0.mk (below_step HB1.out hb); clear hb)
      | (go_at_call 14; (with_reducible refine (spec_Best.calls K3 _ _ l s n f _ _ _ _ _ _ _ (Kd.C_alloc I1.out.2 _) I1.out.1 HA2.out).mono ?_); rintro e w3 ⟨rfl, hb⟩; have BK := Aside0.mk (blk_below (heap_alloc_new w2 _) hb); have HB3 := Aside0.mk (below_step (below_alloc HB2.out _) hb); clear hb; have hy0 : w3.cell? ⟨w2.heap.size, 0, none⟩ = some (.int .i64 B.1.f0) := (blk_cell BK.out 0).trans rfl; have hy1 : w3.cell? ⟨w2.heap.size, 1, none⟩ = some (.int .i64 B.1.f1) := (blk_cell BK.out 1).trans rfl; have hy2 : w3.cell? ⟨w2.heap.size, 2, none⟩ = some (.int .i64 B.1.f2) := (blk_cell BK.out 2).trans rfl; have hy3 : w3.cell? ⟨w2.heap.size, 3, none⟩ = some (.int .i64 B.1.f3) := (blk_cell BK.out 3).trans rfl; have hy4 : w3.cell? ⟨w2.heap.size, 4, none⟩ = some (.int .i64 B.1.f4) := (blk_cell BK.out 4).trans rfl; have hz := blk_lt BK.out))
    repeat (go_quiet (fail); try go_wp2_with (fail))
    clear hy0 hy1 hy2 hy3 hy4 hz BK I1 HA HA2 HB1 HB2
    obtain ⟨m, nn, hd2, hm, hfl⟩ := drawHP HBIG.out
    obtain ⟨K4, hK4⟩ := hd2.rounds
    have HD2 := Aside0.mk hK4
    obtain ⟨K5, hK5⟩ := (implP m (by omega) nn).rounds
    have HP := Aside0.mk hK5
    obtain ⟨K6, hK6⟩ := (specP m nn hfl.to).rounds
    have HP2 := Aside0.mk hK6
    obtain ⟨K7, hK7⟩ := (specL m).rounds
    have HO := Aside0.mk hK7
    have HM := Aside0.mk hm
    clear hd2 hK4 hK5 hK6 hK7 hm hfl
    go_wp2_with (go_at_call 15; (with_reducible refine (spec_DrawHavePut.calls K4 _ _ b m _ _ _ _ _ _ (Kd.C_below HR0.out (below_alloc HB3.out _)) HC0.out HD2.out).mono ?_); rintro e w4 ⟨v, rfl, ho, hb⟩; obtain ⟨A2, c2, rfl⟩ := Kd.R_slice ho; have I2 := Aside0.mk (Kd.R_reads' ho).2; have HB4 := Aside0.mk (below_step (below_alloc HB3.out _) hb); clear ho hb)
    go_wp2_with (go_at_call 16; (with_reducible refine (impl_HavePut.calls K5 _ _ m _ _ _ _ _ _ _ _ (Kd.C_alloc I2.out.2 _) I2.out.1 HP.out).mono ?_); rintro e w5 ⟨v, rfl, ho, hb⟩; obtain ⟨A3, c3, rfl⟩ := Kd.R_slice ho; have I3 := Aside0.mk (Kd.R_reads' ho).2; have BK := Aside0.mk (blk_below (heap_alloc_new w4 _) hb); replace I2 := Aside0.mk (And.intro I2.out.1 (Kd.C_below (Kd.C_alloc I2.out.2 _) hb)); have HB5 := Aside0.mk (below_step (below_alloc HB4.out _) hb); clear ho hb; have hy0 : w5.cell? ⟨w4.heap.size, 0, none⟩ = some (.int .i64 nn.f0) := (blk_cell BK.out 0).trans rfl; have hy1 : w5.cell? ⟨w4.heap.size, 1, none⟩ = some (.int .i64 nn.f1) := (blk_cell BK.out 1).trans rfl; have hy2 : w5.cell? ⟨w4.heap.size, 2, none⟩ = some (.int .i64 nn.f2) := (blk_cell BK.out 2).trans rfl; have hy3 : w5.cell? ⟨w4.heap.size, 3, none⟩ = some (.int .i64 nn.f3) := (blk_cell BK.out 3).trans rfl; have hy4 : w5.cell? ⟨w4.heap.size, 4, none⟩ = some (.int .i64 nn.f4) := (blk_cell BK.out 4).trans rfl)
    go_wp2_with (go_at_call 17; (with_reducible refine (spec_HavePut.calls K6 _ _ m _ _ _ _ _ _ _ _ I2.out.2 I2.out.1 HP2.out).mono ?_); rintro e w6 ⟨v, rfl, ho, hb⟩; clear hy0 hy1 hy2 hy3 hy4; replace I2 := Aside0.mk (And.intro I2.out.1 (Kd.C_below I2.out.2 hb)); replace I3 := Aside0.mk (And.intro I3.out.1 (Kd.C_below I3.out.2 hb)); replace BK := Aside0.mk (blk_below BK.out hb); have HB6 := Aside0.mk (below_step HB5.out hb); clear ho hb)
    cases hok : okL m with
    | false =>
      rw [hok] at HO
      have hx : havePut m nn = ([], false) := by unfold havePut; rw [hok, if_neg (by simp)]
      have HX := Aside0.mk hx
      clear hok hx
      go_wp2_with (go_at_call 18; (with_reducible refine (spec_HavesOk.calls K7 _ _ m _ _ I2.out.2 I2.out.1 HO.out).mono ?_); rintro e w7 ⟨rfl, hb⟩; have HB7 := Aside0.mk (below_step HB6.out hb); clear hb; rw [HX.out])
      go_ret
      refine ⟨?_, by repeat (first | exact HB7.out | apply pw_below_drewN)⟩
      simp
    | true =>
      rw [hok] at HO
      have HOK := Aside0.mk hok
      clear hok
      go_wp2_with (go_at_call 18; (with_reducible refine (spec_HavesOk.calls K7 _ _ m _ _ I2.out.2 I2.out.1 HO.out).mono ?_); rintro e w7 ⟨rfl, hb⟩; replace I2 := Aside0.mk (And.intro I2.out.1 (Kd.C_below I2.out.2 hb)); replace I3 := Aside0.mk (And.intro I3.out.1 (Kd.C_below I3.out.2 hb)); replace BK := Aside0.mk (blk_below BK.out hb); have HB7 := Aside0.mk (below_step HB6.out hb); clear hb)
      have HXO := Aside0.mk (havePut_ok m nn HOK.out)
      obtain ⟨K8, hK8⟩ := (specL (havePut m nn).1).rounds
      rw [HXO.out] at hK8
      have HO2 := Aside0.mk hK8
      clear hK8
      have HPL := Aside0.mk (havePut_same m nn)
      obtain ⟨p, q, hd3, hpl⟩ := drawPu HBIG.out
      obtain ⟨K9, hK9⟩ := hd3.rounds
      have HD3 := Aside0.mk hK9
      obtain ⟨K10, hK10⟩ := (implPu p (by omega) q).rounds
      have HPU := Aside0.mk hK10
      have HPP := Aside0.mk hpl
      clear hd3 hK9 hK10 hpl
      cases hput : (havePut m nn).2 with
      | true =>
        have HPT := Aside0.mk hput
        clear hput
        go_wp2_with (first | (go_at_call 18; (with_reducible refine (spec_HavesOk.calls K8 _ _ _ _ _ I3.out.2 I3.out.1 HO2.out).mono ?_); rintro e w8 ⟨rfl, hb⟩; replace I3 := Aside0.mk (And.intro I3.out.1 (Kd.C_below I3.out.2 hb)); replace I2 := Aside0.mk (And.intro I2.out.1 (Kd.C_below I2.out.2 hb)); replace BK := Aside0.mk (blk_below BK.out hb); have HB8 := Aside0.mk (below_step HB7.out hb); clear hb) | (go_at_call 19; (with_reducible refine (spec_DrawPurge.calls K9 _ _ b p q _ (Kd.C_below HR0.out HB8.out) HC0.out HD3.out).mono ?_); rintro e w9 ⟨v, rfl, ho, hb⟩; obtain ⟨A4, c4, rfl⟩ := Kd.R_slice ho; have I4 := Aside0.mk (Kd.R_reads' ho).2; replace I3 := Aside0.mk (And.intro I3.out.1 (Kd.C_below I3.out.2 hb)); replace I2 := Aside0.mk (And.intro I2.out.1 (Kd.C_below I2.out.2 hb)); replace BK := Aside0.mk (blk_below BK.out hb); have HB9 := Aside0.mk (below_step HB8.out hb); clear ho hb) | (go_at_call 20; (with_reducible refine (impl_Purge.calls K10 _ _ p q _ _ I4.out.2 I4.out.1 HPU.out).mono ?_); rintro e w10 ⟨v, rfl, ho, hb⟩; obtain ⟨A5, c5, rfl⟩ := Kd.R_slice ho; have I5 := Aside0.mk (Kd.R_reads' ho).2; replace I4 := Aside0.mk (And.intro I4.out.1 (Kd.C_below I4.out.2 hb)); replace I3 := Aside0.mk (And.intro I3.out.1 (Kd.C_below I3.out.2 hb)); replace I2 := Aside0.mk (And.intro I2.out.1 (Kd.C_below I2.out.2 hb)); replace BK := Aside0.mk (blk_below BK.out hb); have HB10 := Aside0.mk (below_step HB9.out hb); clear ho hb))
        have HB11 := HB10
        clear HB10 HB9 HB8 HB7 HB6 HB5 HB4
        go_loopg [20] (purge p q).length (fun kq v20 w' => ∃ (i : Int), v20 = .int .i64 i ∧ Aside0 (0 ≤ i ∧ i ≤ (purge p q).length ∧ kq = (purge p q).length - i.toNat) ∧ Aside0 (m.length ≤ c2 ∧ Kd.C k28 w' A2 m.length m) ∧ Aside0 ((havePut m nn).1.length ≤ c3 ∧ Kd.C k28 w' A3 (havePut m nn).1.length (havePut m nn).1) ∧ Aside0 (p.length ≤ c4 ∧ Kd.C k28 w' A4 p.length p) ∧ Aside0 ((purge p q).length ≤ c5 ∧ Kd.C k28 w' A5 (purge p q).length (purge p q)) ∧ Aside0 (w'.heap[w4.heap.size]? = some (.cells #[.int .i64 nn.f0, .int .i64 nn.f1, .int .i64 nn.f2, .int .i64 nn.f3, .int .i64 nn.f4] 28 (0, 0))) ∧ Aside0 (Below w.heap.size w w'))
        case atStart => exact ⟨0, rfl, ⟨by omega, by omega, by omega⟩, I2, I3, I4, I5, BK, HB11⟩
        case round =>
          clear I2 I3 I4 I5 BK HB11
          obtain ⟨i, rfl, HI, I2, I3, I4, I5, BK, HB11⟩ := hrel
          by_cases ci : i < ((purge p q).length : Int)
          · have cib : decide (i < ((purge p q).length : Int)) = true := decide_eq_true ci
            have CI := Aside0.mk ci
            obtain ⟨ad, e, x0, x1, x2, x3, x4⟩ := at_T28 I5.out.2 i HI.out.1 ci
            cases e
            have hge := purge_mem (p := p) (k := q) (rdS_mem HI.out.1 ci)
            have t1 : decide ((rd_T28 (purge p q) i).f2 < q) = false := decide_eq_false (by omega)
            have p1 := eq_true HI.out.1
            have p2 := eq_true ci
            clear ci hge
            go_wp2
            repeat (go_quiet (fail); try go_wp2)
            go_roundg ((purge p q).length - (i.toNat + 1))
            case measure => have := HI.out; have := CI.out; omega
            case rel =>
              have h1 := HI.out
              have h2 := CI.out
              have h3 := purge_len p q
              have h4 := HPP.out
              exact ⟨wrap64 (i + 1), rfl, by rw [wrap_id (by omega) (by omega)]; exact ⟨by omega, by omega, by omega⟩, ⟨I2.out.1, by repeat (first | exact I2.out.2 | (with_reducible refine Kd.C_drewN ?_ _))⟩, ⟨I3.out.1, by repeat (first | exact I3.out.2 | (with_reducible refine Kd.C_drewN ?_ _))⟩, ⟨I4.out.1, by repeat (first | exact I4.out.2 | (with_reducible refine Kd.C_drewN ?_ _))⟩, ⟨I5.out.1, by repeat (first | exact I5.out.2 | (with_reducible refine Kd.C_drewN ?_ _))⟩, ⟨by repeat (first | exact BK.out | refine blk_drewN ?_ _)⟩, ⟨by repeat (first | exact HB11.out | apply pw_below_drewN)⟩⟩
          · have cib : decide (i < ((purge p q).length : Int)) = false := decide_eq_false ci
            clear ci
            go_wp2
            go_loopg [21] 3 (fun kq v21 w' => ∃ (sv : Int), v21 = .int .i64 sv ∧ Aside0 (0 ≤ sv ∧ sv ≤ 3 ∧ kq = 3 - sv.toNat) ∧ Aside0 (m.length ≤ c2 ∧ Kd.C k28 w' A2 m.length m) ∧ Aside0 ((havePut m nn).1.length ≤ c3 ∧ Kd.C k28 w' A3 (havePut m nn).1.length (havePut m nn).1) ∧ Aside0 (p.length ≤ c4 ∧ Kd.C k28 w' A4 p.length p) ∧ Aside0 ((purge p q).length ≤ c5 ∧ Kd.C k28 w' A5 (purge p q).length (purge p q)) ∧ Aside0 (w'.heap[w4.heap.size]? = some (.cells #[.int .i64 nn.f0, .int .i64 nn.f1, .int .i64 nn.f2, .int .i64 nn.f3, .int .i64 nn.f4] 28 (0, 0))) ∧ Aside0 (Below w.heap.size w w'))
            case atStart => exact ⟨0, rfl, ⟨by omega, by omega, by omega⟩, I2, I3, I4, I5, BK, HB11⟩
            case round =>
              clear I2 I3 I4 I5 BK HB11
              obtain ⟨sv, rfl, HSV, I2, I3, I4, I5, BK, HB11⟩ := hrel
              by_cases cs : sv < 3
              · have csb : decide (sv < 3) = true := decide_eq_true cs
                have CS := Aside0.mk cs
                obtain ⟨K11, hK11⟩ := (specB m sv nn.f1 0 (by simp)).rounds
                obtain ⟨K12, hK12⟩ := (implB (havePut m nn).1 (by have := havePut_len m nn; omega) sv nn.f1 0).rounds
                have hrl := fun hi hw => put_better (m := m) (n := nn) HPT.out sv hi hw
                generalize best m sv nn.f1 0 = BA at hK11 hrl
                generalize best (havePut m nn).1 sv nn.f1 0 = BB at hK12 hrl
                have HA := Aside0.mk hK11
                have HA2 := Aside0.mk hK12
                have HRL := Aside0.mk hrl
                have h16 := put_flags (m := m) (n := nn) HOK.out HPT.out
                clear hK11 hK12 hrl cs
                have hy0 : wr.cell? ⟨w4.heap.size, 0, none⟩ = some (.int .i64 nn.f0) := (blk_cell BK.out 0).trans rfl
                have hy1 : wr.cell? ⟨w4.heap.size, 1, none⟩ = some (.int .i64 nn.f1) := (blk_cell BK.out 1).trans rfl
                have hy2 : wr.cell? ⟨w4.heap.size, 2, none⟩ = some (.int .i64 nn.f2) := (blk_cell BK.out 2).trans rfl
                have hy3 : wr.cell? ⟨w4.heap.size, 3, none⟩ = some (.int .i64 nn.f3) := (blk_cell BK.out 3).trans rfl
                have hy4 : wr.cell? ⟨w4.heap.size, 4, none⟩ = some (.int .i64 nn.f4) := (blk_cell BK.out 4).trans rfl
                go_wp2_with (first
                  | (go_at_call 14; (with_reducible refine (spec_Best.calls K11 _ _ m sv nn.f1 0 _ _ _ _ _ _ _ I2.out.2 I2.out.1 HA.out).mono ?_); rintro e w11 ⟨rfl, hb⟩; clear hy0 hy1 hy2 hy3 hy4; replace I2 := Aside0.mk (And.intro I2.out.1 (Kd.C_below I2.out.2 hb)); replace I3 := Aside0.mk (And.intro I3.out.1 (Kd.C_below I3.out.2 hb)); replace I4 := Aside0.mk (And.intro I4.out.1 (Kd.C_below I4.out.2 hb)); replace I5 := Aside0.mk (And.intro I5.out.1 (Kd.C_below I5.out.2 hb)); replace BK := Aside0.mk (blk_below BK.out hb); replace HB11 := Aside0.mk (below_step HB11.out hb); clear hb; have hz := blk_lt BK.out; have hy0 : w11.cell? ⟨w4.heap.size, 0, none⟩ = some (.int .i64 nn.f0) := (blk_cell BK.out 0).trans rfl; have hy1 : w11.cell? ⟨w4.heap.size, 1, none⟩ = some (.int .i64 nn.f1) := (blk_cell BK.out 1).trans rfl; have hy2 : w11.cell? ⟨w4.heap.size, 2, none⟩ = some (.int .i64 nn.f2) := (blk_cell BK.out 2).trans rfl; have hy3 : w11.cell? ⟨w4.heap.size, 3, none⟩ = some (.int .i64 nn.f3) := (blk_cell BK.out 3).trans rfl; have hy4 : w11.cell? ⟨w4.heap.size, 4, none⟩ = some (.int .i64 nn.f4) := (blk_cell BK.out 4).trans rfl)
                  | (go_at_call 13; (with_reducible refine (impl_Best.calls K12 _ _ _ sv nn.f1 0 _ _ _ _ _ _ _ (Kd.C_alloc I3.out.2 _) I3.out.1 HA2.out).mono ?_); rintro e w12 ⟨rfl, hb⟩; clear hy0 hy1 hy2 hy3 hy4 hz; have BA1 := Aside0.mk (blk_below (heap_alloc_new w11 _) hb); replace I2 := Aside0.mk (And.intro I2.out.1 (Kd.C_below (Kd.C_alloc I2.out.2 _) hb)); replace I3 := Aside0.mk (And.intro I3.out.1 (Kd.C_below (Kd.C_alloc I3.out.2 _) hb)); replace I4 := Aside0.mk (And.intro I4.out.1 (Kd.C_below (Kd.C_alloc I4.out.2 _) hb)); replace I5 := Aside0.mk (And.intro I5.out.1 (Kd.C_below (Kd.C_alloc I5.out.2 _) hb)); replace BK := Aside0.mk (blk_below (blk_alloc BK.out _) hb); replace HB11 := Aside0.mk (below_step (below_alloc HB11.out _) hb); clear hb; have hy0 : w12.cell? ⟨w4.heap.size, 0, none⟩ = some (.int .i64 nn.f0) := (blk_cell BK.out 0).trans rfl; have hy1 : w12.cell? ⟨w4.heap.size, 1, none⟩ = some (.int .i64 nn.f1) := (blk_cell BK.out 1).trans rfl; have hy2 : w12.cell? ⟨w4.heap.size, 2, none⟩ = some (.int .i64 nn.f2) := (blk_cell BK.out 2).trans rfl; have hy3 : w12.cell? ⟨w4.heap.size, 3, none⟩ = some (.int .i64 nn.f3) := (blk_cell BK.out 3).trans rfl; have hy4 : w12.cell? ⟨w4.heap.size, 4, none⟩ = some (.int .i64 nn.f4) := (blk_cell BK.out 4).trans rfl; have ha2 : w12.cell? ⟨w11.heap.size, 2, none⟩ = some (.int .i64 BA.1.f2) := (blk_cell BA1.out 2).trans rfl; have hz := blk_lt BK.out; have hz2 := blk_lt BA1.out))
                all_goals first
                  | (exfalso
                     have hi : inval nn.f3 = true := by rw [← h16]; exact decide_eq_true (beq_iff_eq.1 (by assumption))
                     have hw := HRL.out hi (by assumption)
                     first | omega | exact absurd hw.1 (by assumption))
                  | (go_roundg (3 - (sv.toNat + 1))
                     case measure => have := HSV.out; have := CS.out; omega
                     case rel =>
                       have h1 := HSV.out
                       have h2 := CS.out
                       exact ⟨wrap64 (sv + 1), rfl, by rw [wrap_id (by omega) (by omega)]; exact ⟨by omega, by omega, by omega⟩, ⟨I2.out.1, by repeat (first | exact I2.out.2 | (with_reducible refine Kd.C_alloc ?_ _) | (with_reducible refine Kd.C_drewN ?_ _))⟩, ⟨I3.out.1, by repeat (first | exact I3.out.2 | (with_reducible refine Kd.C_alloc ?_ _) | (with_reducible refine Kd.C_drewN ?_ _))⟩, ⟨I4.out.1, by repeat (first | exact I4.out.2 | (with_reducible refine Kd.C_alloc ?_ _) | (with_reducible refine Kd.C_drewN ?_ _))⟩, ⟨I5.out.1, by repeat (first | exact I5.out.2 | (with_reducible refine Kd.C_alloc ?_ _) | (with_reducible refine Kd.C_drewN ?_ _))⟩, ⟨by repeat (first | exact BK.out | refine blk_alloc ?_ _ | refine blk_drewN ?_ _)⟩, ⟨by repeat (first | exact HB11.out | apply below_alloc | apply pw_below_drewN)⟩⟩)
              · have csb : decide (sv < 3) = false := decide_eq_false cs
                clear cs
                obtain ⟨K13, hK13⟩ := (implB p (by have := HPP.out; omega) s q f).rounds
                obtain ⟨K14, hK14⟩ := (implB (purge p q) (by have := HPP.out; have := purge_len p q; omega) s q f).rounds
                rw [purge_best] at hK14
                generalize best p s q f = BP at hK13 hK14
                have HA := Aside0.mk hK13
                have HA2 := Aside0.mk hK14
                clear hK13 hK14 I2 I3 BK
                go_wp2_with (first
                  | (go_at_call 13; (with_reducible refine (impl_Best.calls K13 _ _ p s q f _ _ _ _ _ _ _ I4.out.2 I4.out.1 HA.out).mono ?_); rintro e w13 ⟨rfl, hb⟩; replace I5 := Aside0.mk (And.intro I5.out.1 (Kd.C_below I5.out.2 hb)); replace HB11 := Aside0.mk (below_step HB11.out hb); clear hb)
                  | (go_at_call 13; (with_reducible refine (impl_Best.calls K14 _ _ _ s q f _ _ _ _ _ _ _ (Kd.C_alloc I5.out.2 _) I5.out.1 HA2.out).mono ?_); rintro e w14 ⟨rfl, hb⟩; have BE := Aside0.mk (blk_below (heap_alloc_new w13 _) hb); replace HB11 := Aside0.mk (below_step (below_alloc HB11.out _) hb); clear hb; have hy0 : w14.cell? ⟨w13.heap.size, 0, none⟩ = some (.int .i64 BP.1.f0) := (blk_cell BE.out 0).trans rfl; have hy1 : w14.cell? ⟨w13.heap.size, 1, none⟩ = some (.int .i64 BP.1.f1) := (blk_cell BE.out 1).trans rfl; have hy2 : w14.cell? ⟨w13.heap.size, 2, none⟩ = some (.int .i64 BP.1.f2) := (blk_cell BE.out 2).trans rfl; have hy3 : w14.cell? ⟨w13.heap.size, 3, none⟩ = some (.int .i64 BP.1.f3) := (blk_cell BE.out 3).trans rfl; have hy4 : w14.cell? ⟨w13.heap.size, 4, none⟩ = some (.int .i64 BP.1.f4) := (blk_cell BE.out 4).trans rfl; have hz := blk_lt BE.out))
                repeat (go_quiet (fail); try go_wp2_with (fail))
                go_ret
                exact ⟨by first | rfl | (simp; done), by repeat (first | exact HB11.out | apply below_alloc | apply pw_below_drewN)⟩
      | false =>
        have hsm := HPL.out HOK.out hput
        have hnl : (((havePut m nn).1.length : Int) != (m.length : Int)) = false := by rw [hsm]; simp
        have HPT := Aside0.mk hput
        clear hput hsm
        go_wp2_with (first | (go_at_call 18; (with_reducible refine (spec_HavesOk.calls K8 _ _ _ _ _ I3.out.2 I3.out.1 HO2.out).mono ?_); rintro e w8 ⟨rfl, hb⟩; replace I3 := Aside0.mk (And.intro I3.out.1 (Kd.C_below I3.out.2 hb)); replace I2 := Aside0.mk (And.intro I2.out.1 (Kd.C_below I2.out.2 hb)); replace BK := Aside0.mk (blk_below BK.out hb); have HB8 := Aside0.mk (below_step HB7.out hb); clear hb) | (go_at_call 19; (with_reducible refine (spec_DrawPurge.calls K9 _ _ b p q _ (Kd.C_below HR0.out HB8.out) HC0.out HD3.out).mono ?_); rintro e w9 ⟨v, rfl, ho, hb⟩; obtain ⟨A4, c4, rfl⟩ := Kd.R_slice ho; have I4 := Aside0.mk (Kd.R_reads' ho).2; replace I3 := Aside0.mk (And.intro I3.out.1 (Kd.C_below I3.out.2 hb)); replace I2 := Aside0.mk (And.intro I2.out.1 (Kd.C_below I2.out.2 hb)); replace BK := Aside0.mk (blk_below BK.out hb); have HB9 := Aside0.mk (below_step HB8.out hb); clear ho hb) | (go_at_call 20; (with_reducible refine (impl_Purge.calls K10 _ _ p q _ _ I4.out.2 I4.out.1 HPU.out).mono ?_); rintro e w10 ⟨v, rfl, ho, hb⟩; obtain ⟨A5, c5, rfl⟩ := Kd.R_slice ho; have I5 := Aside0.mk (Kd.R_reads' ho).2; replace I4 := Aside0.mk (And.intro I4.out.1 (Kd.C_below I4.out.2 hb)); replace I3 := Aside0.mk (And.intro I3.out.1 (Kd.C_below I3.out.2 hb)); replace I2 := Aside0.mk (And.intro I2.out.1 (Kd.C_below I2.out.2 hb)); replace BK := Aside0.mk (blk_below BK.out hb); have HB10 := Aside0.mk (below_step HB9.out hb); clear ho hb))
        have HB11 := HB10
        clear HB10 HB9 HB8 HB7 HB6 HB5 HB4
        go_loopg [20] (purge p q).length (fun kq v20 w' => ∃ (i : Int), v20 = .int .i64 i ∧ Aside0 (0 ≤ i ∧ i ≤ (purge p q).length ∧ kq = (purge p q).length - i.toNat) ∧ Aside0 (m.length ≤ c2 ∧ Kd.C k28 w' A2 m.length m) ∧ Aside0 ((havePut m nn).1.length ≤ c3 ∧ Kd.C k28 w' A3 (havePut m nn).1.length (havePut m nn).1) ∧ Aside0 (p.length ≤ c4 ∧ Kd.C k28 w' A4 p.length p) ∧ Aside0 ((purge p q).length ≤ c5 ∧ Kd.C k28 w' A5 (purge p q).length (purge p q)) ∧ Aside0 (w'.heap[w4.heap.size]? = some (.cells #[.int .i64 nn.f0, .int .i64 nn.f1, .int .i64 nn.f2, .int .i64 nn.f3, .int .i64 nn.f4] 28 (0, 0))) ∧ Aside0 (Below w.heap.size w w'))
        case atStart => exact ⟨0, rfl, ⟨by omega, by omega, by omega⟩, I2, I3, I4, I5, BK, HB11⟩
        case round =>
          clear I2 I3 I4 I5 BK HB11
          obtain ⟨i, rfl, HI, I2, I3, I4, I5, BK, HB11⟩ := hrel
          by_cases ci : i < ((purge p q).length : Int)
          · have cib : decide (i < ((purge p q).length : Int)) = true := decide_eq_true ci
            have CI := Aside0.mk ci
            obtain ⟨ad, e, x0, x1, x2, x3, x4⟩ := at_T28 I5.out.2 i HI.out.1 ci
            cases e
            have hge := purge_mem (p := p) (k := q) (rdS_mem HI.out.1 ci)
            have t1 : decide ((rd_T28 (purge p q) i).f2 < q) = false := decide_eq_false (by omega)
            have p1 := eq_true HI.out.1
            have p2 := eq_true ci
            clear ci hge
            go_wp2
            repeat (go_quiet (fail); try go_wp2)
            go_roundg ((purge p q).length - (i.toNat + 1))
            case measure => have := HI.out; have := CI.out; omega
            case rel =>
              have h1 := HI.out
              have h2 := CI.out
              have h3 := purge_len p q
              have h4 := HPP.out
              exact ⟨wrap64 (i + 1), rfl, by rw [wrap_id (by omega) (by omega)]; exact ⟨by omega, by omega, by omega⟩, ⟨I2.out.1, by repeat (first | exact I2.out.2 | (with_reducible refine Kd.C_drewN ?_ _))⟩, ⟨I3.out.1, by repeat (first | exact I3.out.2 | (with_reducible refine Kd.C_drewN ?_ _))⟩, ⟨I4.out.1, by repeat (first | exact I4.out.2 | (with_reducible refine Kd.C_drewN ?_ _))⟩, ⟨I5.out.1, by repeat (first | exact I5.out.2 | (with_reducible refine Kd.C_drewN ?_ _))⟩, ⟨by repeat (first | exact BK.out | refine blk_drewN ?_ _)⟩, ⟨by repeat (first | exact HB11.out | apply pw_below_drewN)⟩⟩
          · have cib : decide (i < ((purge p q).length : Int)) = false := decide_eq_false ci
            clear ci
            go_wp2
            go_loopg [21] 0 (fun kq v21 w' => ∃ (sv : Int), v21 = .int .i64 sv ∧ Aside0 (sv = 0 ∧ kq = 0) ∧ Aside0 (m.length ≤ c2 ∧ Kd.C k28 w' A2 m.length m) ∧ Aside0 ((havePut m nn).1.length ≤ c3 ∧ Kd.C k28 w' A3 (havePut m nn).1.length (havePut m nn).1) ∧ Aside0 (p.length ≤ c4 ∧ Kd.C k28 w' A4 p.length p) ∧ Aside0 ((purge p q).length ≤ c5 ∧ Kd.C k28 w' A5 (purge p q).length (purge p q)) ∧ Aside0 (w'.heap[w4.heap.size]? = some (.cells #[.int .i64 nn.f0, .int .i64 nn.f1, .int .i64 nn.f2, .int .i64 nn.f3, .int .i64 nn.f4] 28 (0, 0))) ∧ Aside0 (Below w.heap.size w w'))
            case atStart => exact ⟨0, rfl, ⟨rfl, rfl⟩, I2, I3, I4, I5, BK, HB11⟩
            case round =>
              clear I2 I3 I4 I5 BK HB11
              obtain ⟨sv, rfl, HSV, I2, I3, I4, I5, BK, HB11⟩ := hrel
              have csb : decide (sv < 3) = true := decide_eq_true (by have := HSV.out; omega)
              obtain ⟨K13, hK13⟩ := (implB p (by have := HPP.out; omega) s q f).rounds
              obtain ⟨K14, hK14⟩ := (implB (purge p q) (by have := HPP.out; have := purge_len p q; omega) s q f).rounds
              rw [purge_best] at hK14
              generalize best p s q f = BP at hK13 hK14
              have HA := Aside0.mk hK13
              have HA2 := Aside0.mk hK14
              clear hK13 hK14 I2 I3 BK
              go_wp2_with (first
                | (go_at_call 13; (with_reducible refine (impl_Best.calls K13 _ _ p s q f _ _ _ _ _ _ _ I4.out.2 I4.out.1 HA.out).mono ?_); rintro e w13 ⟨rfl, hb⟩; replace I5 := Aside0.mk (And.intro I5.out.1 (Kd.C_below I5.out.2 hb)); replace HB11 := Aside0.mk (below_step HB11.out hb); clear hb)
                | (go_at_call 13; (with_reducible refine (impl_Best.calls K14 _ _ _ s q f _ _ _ _ _ _ _ (Kd.C_alloc I5.out.2 _) I5.out.1 HA2.out).mono ?_); rintro e w14 ⟨rfl, hb⟩; have BE := Aside0.mk (blk_below (heap_alloc_new w13 _) hb); replace HB11 := Aside0.mk (below_step (below_alloc HB11.out _) hb); clear hb; have hy0 : w14.cell? ⟨w13.heap.size, 0, none⟩ = some (.int .i64 BP.1.f0) := (blk_cell BE.out 0).trans rfl; have hy1 : w14.cell? ⟨w13.heap.size, 1, none⟩ = some (.int .i64 BP.1.f1) := (blk_cell BE.out 1).trans rfl; have hy2 : w14.cell? ⟨w13.heap.size, 2, none⟩ = some (.int .i64 BP.1.f2) := (blk_cell BE.out 2).trans rfl; have hy3 : w14.cell? ⟨w13.heap.size, 3, none⟩ = some (.int .i64 BP.1.f3) := (blk_cell BE.out 3).trans rfl; have hy4 : w14.cell? ⟨w13.heap.size, 4, none⟩ = some (.int .i64 BP.1.f4) := (blk_cell BE.out 4).trans rfl; have hz := blk_lt BE.out))
              repeat (go_quiet (fail); try go_wp2_with (fail))
              go_ret
              exact ⟨by first | rfl | (simp; done), by repeat (first | exact HB11.out | apply below_alloc | apply pw_below_drewN)⟩

theorem law_walk (a0 : Option Addr) (len0 cap0 : Nat) (z0 : List Int) (w : World) (w0 : (a0 = none ∧ len0 = 0 ∧ cap0 = 0 ∧ z0 = []) ∨ ∃ x, a0 = some x ∧ len0 ≤ cap0 ∧ cap0 ≤ maxLen ∧ z0.length = cap0 ∧ (∀ i, i < z0.length → w.cell? (x.add i) = some (.int .u8 (z0.getD i 0))) ∧ ∀ n ∈ z0, (Lit.int .u8 n).wf = true) (y0 : len0 * 1 ≤ 140737488351232) :
    Calls Try.prog 3 #[.slice a0 len0 cap0] w fun e w' => e = .returned (.bool true) ∧ Below w.heap.size w w' := by
  obtain ⟨l0, rfl, hr0, hm0, hw0, hc0⟩ := ReadsInt.ofRowC w0
  exact law_calls _ _ l0 w (by omega) (Kd.C_of_reads (d := (0 : Int)) (h1 := fun _ => rfl) hr0) hc0
end Go.Proofs.Ytbgfkpagkhofpaa.PFnHaves
