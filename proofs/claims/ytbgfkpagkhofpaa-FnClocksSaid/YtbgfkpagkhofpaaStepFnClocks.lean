/- The law FnClocks holds: clocks that are slewed come together and never go past, and those that agree are any two close: the walk through the function. -/
import Derived.Test.YtbgfkpagkhofpaaPureFnClocksA
namespace Go.Proofs.Ytbgfkpagkhofpaa.PFnClocks
open Go.RowKit Go.Proofs.YtbgfkpagkhofpaaW.PrintWords Go.Proofs.YtbgfkpagkhofpaaW.PrintLast Go.Proofs.YtbgfkpagkhofpaaW.PrintMore
attribute [local go_sem] max2_int min2_int max_two min_two max_three min_three max_four min_four
set_option linter.unusedVariables false
set_option linter.unusedSimpArgs false
/-- A row of whole numbers that is read. -/
abbrev Ints (W : World) (A : Option Addr) (n c : Nat) (l : List Int) : Prop := Aside0 (Kd.C (Kd.int .i64) W A n l ∧ l.length = n ∧ n ≤ c)
theorem agree_len (c : List Int) (s : Int) : (agree c s).length ≤ 8 := by
  unfold agree
  by_cases h : okC c = true ∧ 0 ≤ s
  · rw [if_pos h]
    obtain ⟨_, hl⟩ := okC_iff.1 h.1
    have : ∀ (t : List Int) (p : List Int × Int), p.1.length ≤ 8 → (t.foldl (stepA c s) p).1.length ≤ 8 := by
      intro t
      induction t with
      | nil => intro p hp; exact hp
      | cons x t ih =>
        intro p hp
        refine ih _ ?_
        unfold stepA
        split
        · have := setL_len s x c 0; show (setL s x c 0).length ≤ 8; omega
        · exact hp
    exact this c ([], 0) (by simp)
  · rw [if_neg h]; simp
theorem slew_1000 (x : List Int) (j : Int) (hk : okC x = true) (h0 : 0 ≤ j) (h1 : j < x.length) : slew x j 1000 = x.set j.toNat 0 := by
  unfold slew
  rw [if_pos hk, if_pos (by omega)]
  have := (okC_iff.1 hk).1 _ (rd_mem h0 h1)
  have : slew1 (rd x j) 1000 = 0 := by unfold slew1; rw [if_neg (by omega), if_neg (by omega)]
  rw [this]
theorem slew_no (d : List Int) (i m : Int) (h : okC d = false) : slew d i m = [] := by unfold slew; rw [h, if_neg (by simp)]
theorem slew_short (d : List Int) (i m : Int) : ((slew d i m).length : Int) ≤ 140737488351232 := by
  cases hk : okC d with
  | true => rw [slew_len d i m hk]; have := (okC_iff.1 hk).2; omega
  | false => unfold slew; rw [hk, if_neg (by simp)]; simp
set_option maxHeartbeats 8000000 in
set_option maxRecDepth 100000 in
theorem law_calls (A0 : Option Addr) (c0 : Nat) (b : List Int) (w : World) (hb : (b.length : Int) ≤ 140737488351232) (hr0 : Kd.C (Kd.int .u8) w A0 b.length b) (hc0 : b.length ≤ c0) :
  Calls Try.prog 5 #[.slice A0 b.length c0] w fun e w' => e = .returned (.bool true) ∧ Below w.heap.size w w' := by
  have HR0 := Aside0.mk hr0
  have HC0 := Aside0.mk hc0
  have HBIG := Aside0.mk hb
  clear hr0 hc0 hb
  have HB := Aside0.mk (Below.refl w.heap.size w)
  obtain ⟨c, s, hd, hs⟩ := drawA HBIG.out
  obtain ⟨K, hK⟩ := hd.rounds
  have HD := Aside0.mk hK
  obtain ⟨K2, hK2⟩ := (implA c s).rounds
  have HA := Aside0.mk hK2
  obtain ⟨K3, hK3⟩ := (specA c s).rounds
  have HA2 := Aside0.mk hK3
  have HS := Aside0.mk hs
  clear hd hK hs hK2 hK3
  by_cases hbig : (b.length : Int) > 1048576
  · have hb0 : decide (1048576 < (b.length : Int)) = true := decide_eq_true hbig
    have h1 := Aside0.mk (show laws_big.f b = some true by unfold laws_big.f; rw [decide_eq_true hbig])
    clear hbig
    go_enter Try.func5, Try.ntmps5
    go_wp2_with (go_at_call 11; (with_reducible refine (laws_big.calls _ _ _ true _ HR0.out HC0.out h1.out).mono ?_); rintro e w' ⟨rfl, ⟨nd, rfl⟩⟩)
    go_ret
    exact ⟨rfl, by repeat (first | (with_reducible first | exact HB.out | apply below_alloc | apply pw_below_drewN | apply below_drew1) | exact HB.out)⟩
  · have h1 := Aside0.mk (show laws_big.f b = some false by unfold laws_big.f; rw [decide_eq_false hbig])
    clear hbig
    go_enter Try.func5, Try.ntmps5
    have HRA := Aside0.mk (show ((agree c s).length : Int) ≤ 140737488351232 by have := agree_len c s; omega)
    obtain ⟨K4, hK4⟩ := (same_ev (agree c s) HRA.out).rounds
    have HSM := Aside0.mk hK4
    clear hK4
    go_wp2_with (first
      | (go_at_call 11; (with_reducible refine (laws_big.calls _ _ _ false _ HR0.out HC0.out h1.out).mono ?_); rintro e w' ⟨rfl, ⟨nd, rfl⟩⟩)
      | (go_at_call 29; (with_reducible refine (spec_DrawAgree.calls K _ _ b c s _ (Kd.C_drewN HR0.out _) HC0.out HD.out).mono ?_); rintro e w1 ⟨v, rfl, ho, hb⟩; obtain ⟨A1, c1, rfl⟩ := Kd.R_slice ho; have I1 := Aside0.mk (Kd.R_reads' ho).2; have HB1 := Aside0.mk (below_then (pw_below_drewN HB.out _) (Nat.le_refl _) hb); clear ho hb)
      | (go_at_call 30; (with_reducible refine (impl_Agree.calls K2 _ _ c s _ _ I1.out.2 I1.out.1 HA.out).mono ?_); rintro e w2 ⟨v, rfl, ho, hb⟩; obtain ⟨A2, c2, rfl⟩ := Kd.R_slice ho; have I2 := Aside0.mk (Kd.R_reads' ho).2; replace I1 := Aside0.mk (And.intro I1.out.1 (Kd.C_below I1.out.2 hb)); have HB2 := Aside0.mk (below_step HB1.out hb); clear ho hb)
      | (go_at_call 32; (with_reducible refine (spec_Agree.calls K3 _ _ c s _ _ I1.out.2 I1.out.1 HA2.out).mono ?_); rintro e w3 ⟨v, rfl, ho, hb⟩; obtain ⟨A3, c3, rfl⟩ := Kd.R_slice ho; have I3 := Aside0.mk (Kd.R_reads' ho).2; replace I1 := Aside0.mk (And.intro I1.out.1 (Kd.C_below I1.out.2 hb)); replace I2 := Aside0.mk (And.intro I2.out.1 (Kd.C_below I2.out.2 hb)); have HB3 := Aside0.mk (below_step HB2.out hb); clear ho hb)
      | (go_at_call 31; (with_reducible refine (laws_sameInts.calls K4 _ _ _ _ _ _ true _ I2.out.2 I2.out.1 I3.out.2 I3.out.1 HSM.out).mono ?_); rintro e w4 ⟨rfl, ⟨nd4, rfl⟩⟩; replace I1 := Aside0.mk (And.intro I1.out.1 (Kd.C_drewN I1.out.2 nd4)); replace I2 := Aside0.mk (And.intro I2.out.1 (Kd.C_drewN I2.out.2 nd4)); have HB4 := Aside0.mk (pw_below_drewN HB3.out nd4); clear HB1 HB2 HB3))
    obtain ⟨hf, hne, hmax⟩ := agree_fine c s
    have HLEN := Aside0.mk (agree_len c s)
    have HF := Aside0.mk hf
    have HNE := Aside0.mk hne
    have HMAX := Aside0.mk hmax
    clear hf hne hmax
    go_loopg [6] (agree c s).length (fun kq v6 w' => ∃ (i : Int), v6 = .int .i64 i ∧ Aside0 (0 ≤ i ∧ i ≤ (agree c s).length ∧ kq = (agree c s).length - i.toNat) ∧ Aside0 (c.length ≤ c1 ∧ Kd.C (Kd.int .i64) w' A1 c.length c) ∧ Aside0 ((agree c s).length ≤ c2 ∧ Kd.C (Kd.int .i64) w' A2 (agree c s).length (agree c s)) ∧ Aside0 (Below w.heap.size w w'))
    case atStart => exact ⟨0, rfl, ⟨by omega, by omega, by omega⟩, I1, I2, HB4⟩
    case round =>
      clear I1 I2 I3 HB4
      obtain ⟨i, rfl, HI, I1, I2, HB4⟩ := hrel
      by_cases ci : i < ((agree c s).length : Int)
      · have cib : decide (i < ((agree c s).length : Int)) = true := decide_eq_true ci
        have CI := Aside0.mk ci
        clear ci
        go_wp2
        go_loopg [7] i.toNat (fun kq v7 w' => ∃ (j : Int), v7 = .int .i64 j ∧ Aside0 (0 ≤ j ∧ j ≤ i ∧ kq = (i - j).toNat) ∧ Aside0 (c.length ≤ c1 ∧ Kd.C (Kd.int .i64) w' A1 c.length c) ∧ Aside0 ((agree c s).length ≤ c2 ∧ Kd.C (Kd.int .i64) w' A2 (agree c s).length (agree c s)) ∧ Aside0 (Below w.heap.size w w'))
        case atStart => exact ⟨0, rfl, ⟨by omega, HI.out.1, by omega⟩, I1, I2, HB4⟩
        case round =>
          clear I1 I2 HB4
          obtain ⟨j, rfl, HJ, I1, I2, HB4⟩ := hrel
          by_cases cj : j < i
          · have cjb : decide (j < i) = true := decide_eq_true cj
            have CJ := Aside0.mk cj
            have hi0 := HI.out.1
            have hj0 := HJ.out.1
            obtain ⟨hp, low, hm⟩ := HF.out
            have mi := hm _ (rd_mem (l := agree c s) (i := i) hi0 CI.out)
            have mj := hm _ (rd_mem (l := agree c s) (i := j) hj0 (by have := CI.out; omega))
            have hlt := pair_lt hp hj0 cj CI.out
            have hcc := (okC_iff.1 (HNE.out (by intro e; have := CI.out; rw [e] at this; simp at this; omega))).1
            have bi := hcc _ (rd_mem mi.1 mi.2.1)
            have bj := hcc _ (rd_mem mj.1 mj.2.1)
            have t1 : decide (rd (agree c s) i ≤ rd (agree c s) j) = false := decide_eq_false (by omega)
            have t2 : decide (s < rd c (rd (agree c s) i) - rd c (rd (agree c s) j)) = false := decide_eq_false (by omega)
            have t3 : decide (s < -(rd c (rd (agree c s) i) - rd c (rd (agree c s) j))) = false := decide_eq_false (by omega)
            obtain ⟨ad1, e1, x1⟩ := Kd.at_int I2.out.2 i hi0 CI.out
            cases e1
            obtain ⟨ad2, e2, x2⟩ := Kd.at_int I2.out.2 j hj0 (by have := CI.out; omega)
            cases e2
            obtain ⟨ad3, e3, x3⟩ := Kd.at_int I1.out.2 (rd (agree c s) i) mi.1 mi.2.1
            cases e3
            obtain ⟨ad4, e4, x4⟩ := Kd.at_int I1.out.2 (rd (agree c s) j) mj.1 mj.2.1
            cases e4
            have w1 := wrap_id (x := rd c (rd (agree c s) i) - rd c (rd (agree c s) j)) (by omega) (by omega)
            have w2 := wrap_id (x := -(rd c (rd (agree c s) i) - rd c (rd (agree c s) j))) (by omega) (by omega)
            have p1 := eq_true hi0
            have p2 := eq_true hj0
            have p3 := eq_true CI.out
            have p4 := eq_true (show j < ((agree c s).length : Int) by have := CI.out; omega)
            have p5 := eq_true mi.1
            have p6 := eq_true mi.2.1
            have p7 := eq_true mj.1
            have p8 := eq_true mj.2.1
            clear hi0 hj0 hp hm mi mj hlt hcc bi bj cj
            go_wp2
            repeat (go_quiet (fail); try go_wp2)
            go_roundg (i - (j + 1)).toNat
            case measure => have := HJ.out; have := CJ.out; omega
            case rel =>
              have h1 := HJ.out
              have h2 := CJ.out
              have h3 := HI.out
              have h4 := HLEN.out
              exact ⟨wrap64 (j + 1), rfl, by rw [wrap_id (by omega) (by omega)]; exact ⟨by omega, by omega, by omega⟩, ⟨I1.out.1, by repeat (first | exact I1.out.2 | (with_reducible refine Kd.C_drewN ?_ _))⟩, ⟨I2.out.1, by repeat (first | exact I2.out.2 | (with_reducible refine Kd.C_drewN ?_ _))⟩, ⟨by repeat (first | exact HB4.out | apply pw_below_drewN)⟩⟩
          · have cjb : decide (j < i) = false := decide_eq_false cj
            clear cj
            go_wp2
            go_roundg ((agree c s).length - (i.toNat + 1))
            case measure => have := HI.out; have := CI.out; omega
            case rel =>
              have h2 := CI.out
              have h3 := HI.out
              have h4 := HLEN.out
              exact ⟨wrap64 (i + 1), rfl, by rw [wrap_id (by omega) (by omega)]; exact ⟨by omega, by omega, by omega⟩, I1, I2, HB4⟩
      · have cib : decide (i < ((agree c s).length : Int)) = false := decide_eq_false ci
        clear ci
        go_wp2
        go_loopg [9] c.length (fun kq v9 w' => ∃ (i : Int), v9 = .int .i64 i ∧ Aside0 (0 ≤ i ∧ i ≤ c.length ∧ kq = c.length - i.toNat) ∧ Aside0 (c.length ≤ c1 ∧ Kd.C (Kd.int .i64) w' A1 c.length c) ∧ Aside0 ((agree c s).length ≤ c2 ∧ Kd.C (Kd.int .i64) w' A2 (agree c s).length (agree c s)) ∧ Aside0 (Below w.heap.size w w'))
        case atStart => exact ⟨0, rfl, ⟨by omega, by omega, by omega⟩, I1, I2, HB4⟩
        case round =>
          clear I1 I2 HB4
          obtain ⟨i, rfl, HI, I1, I2, HB4⟩ := hrel
          go_upto_region 17 with (fail)
          repeat (go_quiet (fail); go_upto_region 17 with (fail))
          go_cut [94] (fun v94 w' => Aside0 (v94 = .bool (decide (i < (c.length : Int)) && (okC c && decide (0 ≤ s)))) ∧ Aside0 (c.length ≤ c1 ∧ Kd.C (Kd.int .i64) w' A1 c.length c) ∧ Aside0 ((agree c s).length ≤ c2 ∧ Kd.C (Kd.int .i64) w' A2 (agree c s).length (agree c s)) ∧ Aside0 (Below w.heap.size w w'))
          case first =>
            by_cases ci : i < (c.length : Int)
            · have cib : decide (i < (c.length : Int)) = true := decide_eq_true ci
              have e1 := Aside0.mk (decide_eq_true ci)
              clear ci
              obtain ⟨K5, hK5⟩ := (specOk_ev c).rounds
              have HOK := Aside0.mk hK5
              clear hK5
              cases hk : okC c with
              | true =>
                rw [hk] at HOK
                have e2 := Aside0.mk hk
                clear hk
                go_wp2_with (go_at_call 33; (with_reducible refine (spec_ClocksOk.calls K5 _ _ _ _ _ I1.out.2 I1.out.1 HOK.out).mono ?_); rintro e w' ⟨rfl, ⟨nd, rfl⟩⟩)
                go_meet
                case rel => exact ⟨⟨by rw [e1.out, e2.out]; simp⟩, ⟨I1.out.1, by repeat (first | exact I1.out.2 | (with_reducible refine Kd.C_drewN ?_ _))⟩, ⟨I2.out.1, by repeat (first | exact I2.out.2 | (with_reducible refine Kd.C_drewN ?_ _))⟩, ⟨by repeat (first | exact HB4.out | apply pw_below_drewN)⟩⟩
              | false =>
                rw [hk] at HOK
                have e2 := Aside0.mk hk
                clear hk
                go_wp2_with (go_at_call 33; (with_reducible refine (spec_ClocksOk.calls K5 _ _ _ _ _ I1.out.2 I1.out.1 HOK.out).mono ?_); rintro e w' ⟨rfl, ⟨nd, rfl⟩⟩)
                go_meet
                case rel => exact ⟨⟨by rw [e1.out, e2.out]; simp⟩, ⟨I1.out.1, by repeat (first | exact I1.out.2 | (with_reducible refine Kd.C_drewN ?_ _))⟩, ⟨I2.out.1, by repeat (first | exact I2.out.2 | (with_reducible refine Kd.C_drewN ?_ _))⟩, ⟨by repeat (first | exact HB4.out | apply pw_below_drewN)⟩⟩
            · have cib : decide (i < (c.length : Int)) = false := decide_eq_false ci
              have e1 := Aside0.mk (decide_eq_false ci)
              clear ci
              go_wp2
              go_meet
              case rel => exact ⟨⟨by rw [e1.out]; simp⟩, ⟨I1.out.1, by repeat (first | exact I1.out.2 | (with_reducible refine Kd.C_drewN ?_ _))⟩, ⟨I2.out.1, by repeat (first | exact I2.out.2 | (with_reducible refine Kd.C_drewN ?_ _))⟩, ⟨by repeat (first | exact HB4.out | apply pw_below_drewN)⟩⟩
          case rest =>
            clear I1 I2 HB4
            obtain ⟨hv, I1, I2, HB4⟩ := hcut
            cases hg : (decide (i < (c.length : Int)) && (okC c && decide (0 ≤ s))) with
            | true =>
              have hv := hv.out
              rw [hg] at hv
              subst hv
              have HG := Aside0.mk (show i < (c.length : Int) ∧ okC c = true ∧ 0 ≤ s by simpa using hg)
              clear hg
              go_wp2
              go_loopg [10, 11] c.length (fun kq v10 v11 w' => ∃ (n j : Int), v10 = .int .i64 n ∧ v11 = .int .i64 j ∧ Aside0 (0 ≤ j ∧ j ≤ c.length ∧ 0 ≤ n ∧ n ≤ j ∧ kq = c.length - j.toNat) ∧ Aside0 (n + (setL s (rd c i) (c.drop j.toNat) j).length = (setL s (rd c i) c 0).length) ∧ Aside0 (c.length ≤ c1 ∧ Kd.C (Kd.int .i64) w' A1 c.length c) ∧ Aside0 ((agree c s).length ≤ c2 ∧ Kd.C (Kd.int .i64) w' A2 (agree c s).length (agree c s)) ∧ Aside0 (Below w.heap.size w w'))
              case atStart => exact ⟨0, 0, rfl, rfl, ⟨by omega, by omega, by omega, by omega, by omega⟩, ⟨by simp⟩, I1, I2, HB4⟩
              case round =>
                clear I1 I2 HB4
                obtain ⟨n, j, rfl, rfl, HJ, HN, I1, I2, HB4⟩ := hrel
                have HLC := Aside0.mk (okC_iff.1 HG.out.2.1)
                by_cases cj : j < (c.length : Int)
                · have cjb : decide (j < (c.length : Int)) = true := decide_eq_true cj
                  have CJ := Aside0.mk cj
                  obtain ⟨ad1, e1, x1⟩ := Kd.at_int I1.out.2 i HI.out.1 HG.out.1
                  cases e1
                  obtain ⟨ad2, e2, x2⟩ := Kd.at_int I1.out.2 j HJ.out.1 cj
                  cases e2
                  have w1 := wsub HLC.out.1 (rd_mem HJ.out.1 cj) (rd_mem HI.out.1 HG.out.1)
                  have hw2 := HLC.out.1 _ (rd_mem HJ.out.1 cj)
                  have hw3 := HLC.out.1 _ (rd_mem HI.out.1 HG.out.1)
                  have hstep := HN.out
                  rw [(show c.drop j.toNat = rd c j :: c.drop (j + 1).toNat by
                    have hjl : j.toNat < c.length := by have := HJ.out.1; omega
                    have hjn : (j + 1).toNat = j.toNat + 1 := by have := HJ.out.1; omega
                    rw [hjn, List.drop_eq_getElem_cons hjl, rd_def, List.getD_eq_getElem?_getD, List.getElem?_eq_getElem hjl]; rfl), setL] at hstep
                  have p1 := eq_true HI.out.1
                  have p2 := eq_true HG.out.1
                  have p3 := eq_true HJ.out.1
                  have p4 := eq_true cj
                  clear cj
                  by_cases c1 : rd c i ≤ rd c j
                  · have c1b : decide (rd c i ≤ rd c j) = true := decide_eq_true c1
                    by_cases c2 : rd c j - rd c i ≤ s
                    · have c2b : decide (rd c j - rd c i ≤ s) = true := decide_eq_true c2
                      rw [if_pos ⟨c1, c2⟩] at hstep
                      have HST := Aside0.mk hstep
                      clear hstep c1 c2
                      go_wp2
                      repeat (go_quiet (fail); try go_wp2)
                      go_roundg (c.length - (j.toNat + 1))
                      case measure => have := HJ.out; have := CJ.out; omega
                      case rel =>
                        have h1 := HJ.out
                        have h2 := CJ.out
                        have h3 := HLC.out.2
                        have h4 := HST.out
                        exact ⟨wrap64 (n + 1), wrap64 (j + 1), rfl, rfl, by rw [wrap_id (x := j + 1) (by omega) (by omega), wrap_id (x := n + 1) (by omega) (by omega)]; exact ⟨by omega, by omega, by omega, by omega, by omega⟩, ⟨by rw [wrap_id (x := j + 1) (by omega) (by omega), wrap_id (x := n + 1) (by omega) (by omega)]; simp at h4 ⊢; omega⟩, ⟨I1.out.1, by repeat (first | exact I1.out.2 | (with_reducible refine Kd.C_drewN ?_ _))⟩, ⟨I2.out.1, by repeat (first | exact I2.out.2 | (with_reducible refine Kd.C_drewN ?_ _))⟩, ⟨by repeat (first | exact HB4.out | apply pw_below_drewN)⟩⟩
                    · have c2b : decide (rd c j - rd c i ≤ s) = false := decide_eq_false c2
                      rw [if_neg (by omega)] at hstep
                      have HST := Aside0.mk hstep
                      clear hstep c1 c2
                      go_wp2
                      repeat (go_quiet (fail); try go_wp2)
                      go_roundg (c.length - (j.toNat + 1))
                      case measure => have := HJ.out; have := CJ.out; omega
                      case rel =>
                        have h1 := HJ.out
                        have h2 := CJ.out
                        have h3 := HLC.out.2
                        have h4 := HST.out
                        exact ⟨n, wrap64 (j + 1), rfl, rfl, by rw [wrap_id (x := j + 1) (by omega) (by omega)]; exact ⟨by omega, by omega, by omega, by omega, by omega⟩, ⟨by rw [wrap_id (x := j + 1) (by omega) (by omega)]; omega⟩, ⟨I1.out.1, by repeat (first | exact I1.out.2 | (with_reducible refine Kd.C_drewN ?_ _))⟩, ⟨I2.out.1, by repeat (first | exact I2.out.2 | (with_reducible refine Kd.C_drewN ?_ _))⟩, ⟨by repeat (first | exact HB4.out | apply pw_below_drewN)⟩⟩
                  · have c1b : decide (rd c i ≤ rd c j) = false := decide_eq_false c1
                    rw [if_neg (by omega)] at hstep
                    have HST := Aside0.mk hstep
                    clear hstep c1
                    go_wp2
                    repeat (go_quiet (fail); try go_wp2)
                    go_roundg (c.length - (j.toNat + 1))
                    case measure => have := HJ.out; have := CJ.out; omega
                    case rel =>
                      have h1 := HJ.out
                      have h2 := CJ.out
                      have h3 := HLC.out.2
                      have h4 := HST.out
                      exact ⟨n, wrap64 (j + 1), rfl, rfl, by rw [wrap_id (x := j + 1) (by omega) (by omega)]; exact ⟨by omega, by omega, by omega, by omega, by omega⟩, ⟨by rw [wrap_id (x := j + 1) (by omega) (by omega)]; omega⟩, ⟨I1.out.1, by repeat (first | exact I1.out.2 | (with_reducible refine Kd.C_drewN ?_ _))⟩, ⟨I2.out.1, by repeat (first | exact I2.out.2 | (with_reducible refine Kd.C_drewN ?_ _))⟩, ⟨by repeat (first | exact HB4.out | apply pw_below_drewN)⟩⟩
                · have cjb : decide (j < (c.length : Int)) = false := decide_eq_false cj
                  have hm := HMAX.out HG.out.2.1 HG.out.2.2 _ (rd_mem HI.out.1 HG.out.1)
                  have hn := HN.out
                  rw [List.drop_of_length_le (by have := HJ.out; omega), setL] at hn
                  have hnb : decide (((agree c s).length : Int) < n) = false := decide_eq_false (by simp at hn; omega)
                  clear cj hm hn
                  go_wp2
                  go_roundg (c.length - (i.toNat + 1))
                  case measure => have := HI.out; have := HG.out; omega
                  case rel =>
                    have h1 := HI.out
                    have h2 := HG.out
                    have h3 := HLC.out.2
                    exact ⟨wrap64 (i + 1), rfl, by rw [wrap_id (x := i + 1) (by omega) (by omega)]; exact ⟨by omega, by omega, by omega⟩, ⟨I1.out.1, by repeat (first | exact I1.out.2 | (with_reducible refine Kd.C_drewN ?_ _))⟩, ⟨I2.out.1, by repeat (first | exact I2.out.2 | (with_reducible refine Kd.C_drewN ?_ _))⟩, ⟨by repeat (first | exact HB4.out | apply pw_below_drewN)⟩⟩
            | false =>
              have hv := hv.out
              rw [hg] at hv
              subst hv
              clear hg
              clear I1 I2
              obtain ⟨d, i2, m, hds⟩ := drawS HBIG.out
              obtain ⟨K6, hK6⟩ := hds.rounds
              have HDS := Aside0.mk hK6
              obtain ⟨K7, hK7⟩ := (implS d i2 m).rounds
              have HIS := Aside0.mk hK7
              obtain ⟨K8, hK8⟩ := (specS d i2 m).rounds
              have HSS := Aside0.mk hK8
              have HLS := Aside0.mk (slew_short d i2 m)
              obtain ⟨K9, hK9⟩ := (same_ev (slew d i2 m) HLS.out).rounds
              have HS2 := Aside0.mk hK9
              obtain ⟨K10, hK10⟩ := (implSp d).rounds
              have HSP := Aside0.mk hK10
              obtain ⟨K11, hK11⟩ := (specSp d).rounds
              have HSP2 := Aside0.mk hK11
              obtain ⟨K12, hK12⟩ := (specOk_ev d).rounds
              have HOKD := Aside0.mk hK12
              clear hds hK6 hK7 hK8 hK9 hK10 hK11 hK12
              go_wp2_with (first
                | (go_at_call 34; (with_reducible refine (spec_DrawSlew.calls K6 _ _ b d i2 m _ (Kd.C_below HR0.out HB4.out) HC0.out HDS.out).mono ?_); rintro e w5 ⟨v, rfl, ho, hb⟩; obtain ⟨A4, c4, rfl⟩ := Kd.R_slice ho; have I4 := Aside0.mk (Kd.R_reads' ho).2; have HB5 := Aside0.mk (below_step HB4.out hb); clear ho hb)
                | (go_at_call 35; (with_reducible refine (impl_Slew.calls K7 _ _ d i2 m _ _ I4.out.2 I4.out.1 HIS.out).mono ?_); rintro e w6 ⟨v, rfl, ho, hb⟩; obtain ⟨A5, c5, rfl⟩ := Kd.R_slice ho; have I5 := Aside0.mk (Kd.R_reads' ho).2; replace I4 := Aside0.mk (And.intro I4.out.1 (Kd.C_below I4.out.2 hb)); have HB6 := Aside0.mk (below_step HB5.out hb); clear ho hb)
                | (go_at_call 36; (with_reducible refine (spec_Slew.calls K8 _ _ d i2 m _ _ I4.out.2 I4.out.1 HSS.out).mono ?_); rintro e w7 ⟨v, rfl, ho, hb⟩; obtain ⟨A6, c6, rfl⟩ := Kd.R_slice ho; have I6 := Aside0.mk (Kd.R_reads' ho).2; replace I4 := Aside0.mk (And.intro I4.out.1 (Kd.C_below I4.out.2 hb)); replace I5 := Aside0.mk (And.intro I5.out.1 (Kd.C_below I5.out.2 hb)); have HB7 := Aside0.mk (below_step HB6.out hb); clear ho hb)
                | (go_at_call 31; (with_reducible refine (laws_sameInts.calls K9 _ _ _ _ _ _ true _ I5.out.2 I5.out.1 I6.out.2 I6.out.1 HS2.out).mono ?_); rintro e w8 ⟨rfl, ⟨nd8, rfl⟩⟩; replace I4 := Aside0.mk (And.intro I4.out.1 (Kd.C_drewN I4.out.2 nd8)); replace I5 := Aside0.mk (And.intro I5.out.1 (Kd.C_drewN I5.out.2 nd8)); have HB8 := Aside0.mk (pw_below_drewN HB7.out nd8); clear HB5 HB6 HB7)
                | (go_at_call 37; (with_reducible refine (impl_Spread.calls K10 _ _ d _ _ I4.out.2 I4.out.1 HSP.out).mono ?_); rintro e w9 ⟨rfl, hb⟩; replace I4 := Aside0.mk (And.intro I4.out.1 (Kd.C_below I4.out.2 hb)); replace I5 := Aside0.mk (And.intro I5.out.1 (Kd.C_below I5.out.2 hb)); replace HB8 := Aside0.mk (below_step HB8.out hb); clear hb)
                | (go_at_call 38; (with_reducible refine (spec_Spread.calls K11 _ _ d _ _ I4.out.2 I4.out.1 HSP2.out).mono ?_); rintro e w10 ⟨rfl, ⟨nd10, rfl⟩⟩))
              cases hkd : okC d with
              | false =>
                rw [hkd] at HOKD
                have hsl := slew_no d i2 m hkd
                have hz : (((slew d i2 m).length : Int) == 0) = true := by rw [hsl]; rfl
                clear hkd hsl
                go_wp2_with (go_at_call 33; (with_reducible refine (spec_ClocksOk.calls K12 _ _ _ _ _ (by repeat (first | exact I4.out.2 | (with_reducible refine Kd.C_drewN ?_ _))) I4.out.1 HOKD.out).mono ?_); rintro e w' ⟨rfl, ⟨nd, rfl⟩⟩)
                go_ret
                exact ⟨by first | rfl | exact congrArg (fun x => Ending.returned (Value.bool x)) hz, by repeat (first | exact HB8.out | apply pw_below_drewN)⟩
              | true =>
                rw [hkd] at HOKD
                have HKD := Aside0.mk hkd
                clear hkd
                go_wp2_with (go_at_call 33; (with_reducible refine (spec_ClocksOk.calls K12 _ _ _ _ _ (by repeat (first | exact I4.out.2 | (with_reducible refine Kd.C_drewN ?_ _))) I4.out.1 HOKD.out).mono ?_); rintro e w' ⟨rfl, ⟨nd, rfl⟩⟩)
                go_loopg [16] d.length (fun kq v16 w' => ∃ (j : Int), v16 = .int .i64 j ∧ Aside0 (0 ≤ j ∧ j ≤ d.length ∧ kq = d.length - j.toNat) ∧ Aside0 (d.length ≤ c4 ∧ Kd.C (Kd.int .i64) w' A4 d.length d) ∧ Aside0 ((slew d i2 m).length ≤ c5 ∧ Kd.C (Kd.int .i64) w' A5 (slew d i2 m).length (slew d i2 m)) ∧ Aside0 (Below w.heap.size w w'))
                case atStart => exact ⟨0, rfl, ⟨by omega, by omega, by omega⟩, ⟨I4.out.1, by repeat (first | exact I4.out.2 | (with_reducible refine Kd.C_drewN ?_ _))⟩, ⟨I5.out.1, by repeat (first | exact I5.out.2 | (with_reducible refine Kd.C_drewN ?_ _))⟩, ⟨by repeat (first | exact HB8.out | apply pw_below_drewN)⟩⟩
                case round =>
                  clear I4 I5 HB8
                  obtain ⟨j, rfl, HJ, I4, I5, HB8⟩ := hrel
                  by_cases cj : j < (d.length : Int)
                  · have cjb : decide (j < (d.length : Int)) = true := decide_eq_true cj
                    have CJ := Aside0.mk cj
                    have hlen := slew_len d i2 m HKD.out
                    have hr := slew_rd d i2 m HKD.out j HJ.out.1 cj
                    obtain ⟨ad1, e1, x1⟩ := Kd.at_int I4.out.2 j HJ.out.1 cj
                    cases e1
                    obtain ⟨ad2, e2, x2⟩ := Kd.at_int I5.out.2 j HJ.out.1 (by omega)
                    cases e2
                    have p3 := eq_true HJ.out.1
                    have p4 := eq_true cj
                    have p5 := eq_true (show j < ((slew d i2 m).length : Int) by omega)
                    have HR := Aside0.mk hr
                    clear hlen hr cj
                    have hr := HR.out
                    by_cases g1 : 0 < rd d j
                    · have f1 : decide (0 < rd d j) = true := decide_eq_true g1
                      have f2 : decide (rd (slew d i2 m) j < 0) = false := decide_eq_false (by omega)
                      have f3 : decide (rd d j < rd (slew d i2 m) j) = false := decide_eq_false (by omega)
                      have f4 : decide (rd d j < 0) = false := decide_eq_false (by omega)
                      clear hr g1
                      by_cases cji : j = i2
                      · have j1 : (j == i2) = true := by simp [cji]
                        have j2 : (j != i2) = false := by simp [cji]
                        clear cji
                        go_wp2
                        repeat (go_quiet (fail); try go_wp2)
                        go_roundg (d.length - (j.toNat + 1))
                        case measure => have := HJ.out; have := CJ.out; omega
                        case rel =>
                          have h1 := HJ.out
                          have h2 := CJ.out
                          have h3 := (okC_iff.1 HKD.out).2
                          exact ⟨wrap64 (j + 1), rfl, by rw [wrap_id (x := j + 1) (by omega) (by omega)]; exact ⟨by omega, by omega, by omega⟩, ⟨I4.out.1, by repeat (first | exact I4.out.2 | (with_reducible refine Kd.C_drewN ?_ _))⟩, ⟨I5.out.1, by repeat (first | exact I5.out.2 | (with_reducible refine Kd.C_drewN ?_ _))⟩, ⟨by repeat (first | exact HB8.out | apply pw_below_drewN)⟩⟩
                      · have j1 : (j == i2) = false := by simp [cji]
                        have j2 : (j != i2) = true := by simp [cji]
                        have j3 : (rd (slew d i2 m) j == rd d j) = true := by simp [HR.out.2.2.1 cji]
                        have j4 : (rd (slew d i2 m) j != rd d j) = false := by simp [HR.out.2.2.1 cji]
                        clear cji
                        go_wp2
                        repeat (go_quiet (fail); try go_wp2)
                        go_roundg (d.length - (j.toNat + 1))
                        case measure => have := HJ.out; have := CJ.out; omega
                        case rel =>
                          have h1 := HJ.out
                          have h2 := CJ.out
                          have h3 := (okC_iff.1 HKD.out).2
                          exact ⟨wrap64 (j + 1), rfl, by rw [wrap_id (x := j + 1) (by omega) (by omega)]; exact ⟨by omega, by omega, by omega⟩, ⟨I4.out.1, by repeat (first | exact I4.out.2 | (with_reducible refine Kd.C_drewN ?_ _))⟩, ⟨I5.out.1, by repeat (first | exact I5.out.2 | (with_reducible refine Kd.C_drewN ?_ _))⟩, ⟨by repeat (first | exact HB8.out | apply pw_below_drewN)⟩⟩
                    · by_cases g2 : rd d j < 0
                      · have f1 : decide (0 < rd d j) = false := decide_eq_false g1
                        have f2 : decide (0 < rd (slew d i2 m) j) = false := decide_eq_false (by omega)
                        have f3 : decide (rd (slew d i2 m) j < rd d j) = false := decide_eq_false (by omega)
                        have f4 : decide (rd d j < 0) = true := decide_eq_true g2
                        clear hr g1 g2
                        by_cases cji : j = i2
                        · have j1 : (j == i2) = true := by simp [cji]
                          have j2 : (j != i2) = false := by simp [cji]
                          clear cji
                          go_wp2
                          repeat (go_quiet (fail); try go_wp2)
                          go_roundg (d.length - (j.toNat + 1))
                          case measure => have := HJ.out; have := CJ.out; omega
                          case rel =>
                            have h1 := HJ.out
                            have h2 := CJ.out
                            have h3 := (okC_iff.1 HKD.out).2
                            exact ⟨wrap64 (j + 1), rfl, by rw [wrap_id (x := j + 1) (by omega) (by omega)]; exact ⟨by omega, by omega, by omega⟩, ⟨I4.out.1, by repeat (first | exact I4.out.2 | (with_reducible refine Kd.C_drewN ?_ _))⟩, ⟨I5.out.1, by repeat (first | exact I5.out.2 | (with_reducible refine Kd.C_drewN ?_ _))⟩, ⟨by repeat (first | exact HB8.out | apply pw_below_drewN)⟩⟩
                        · have j1 : (j == i2) = false := by simp [cji]
                          have j2 : (j != i2) = true := by simp [cji]
                          have j3 : (rd (slew d i2 m) j == rd d j) = true := by simp [HR.out.2.2.1 cji]
                          have j4 : (rd (slew d i2 m) j != rd d j) = false := by simp [HR.out.2.2.1 cji]
                          clear cji
                          go_wp2
                          repeat (go_quiet (fail); try go_wp2)
                          go_roundg (d.length - (j.toNat + 1))
                          case measure => have := HJ.out; have := CJ.out; omega
                          case rel =>
                            have h1 := HJ.out
                            have h2 := CJ.out
                            have h3 := (okC_iff.1 HKD.out).2
                            exact ⟨wrap64 (j + 1), rfl, by rw [wrap_id (x := j + 1) (by omega) (by omega)]; exact ⟨by omega, by omega, by omega⟩, ⟨I4.out.1, by repeat (first | exact I4.out.2 | (with_reducible refine Kd.C_drewN ?_ _))⟩, ⟨I5.out.1, by repeat (first | exact I5.out.2 | (with_reducible refine Kd.C_drewN ?_ _))⟩, ⟨by repeat (first | exact HB8.out | apply pw_below_drewN)⟩⟩
                      · have f1 : decide (0 < rd d j) = false := decide_eq_false g1
                        have f4 : decide (rd d j < 0) = false := decide_eq_false g2
                        clear hr g1 g2
                        by_cases cji : j = i2
                        · have j1 : (j == i2) = true := by simp [cji]
                          have j2 : (j != i2) = false := by simp [cji]
                          clear cji
                          go_wp2
                          repeat (go_quiet (fail); try go_wp2)
                          go_roundg (d.length - (j.toNat + 1))
                          case measure => have := HJ.out; have := CJ.out; omega
                          case rel =>
                            have h1 := HJ.out
                            have h2 := CJ.out
                            have h3 := (okC_iff.1 HKD.out).2
                            exact ⟨wrap64 (j + 1), rfl, by rw [wrap_id (x := j + 1) (by omega) (by omega)]; exact ⟨by omega, by omega, by omega⟩, ⟨I4.out.1, by repeat (first | exact I4.out.2 | (with_reducible refine Kd.C_drewN ?_ _))⟩, ⟨I5.out.1, by repeat (first | exact I5.out.2 | (with_reducible refine Kd.C_drewN ?_ _))⟩, ⟨by repeat (first | exact HB8.out | apply pw_below_drewN)⟩⟩
                        · have j1 : (j == i2) = false := by simp [cji]
                          have j2 : (j != i2) = true := by simp [cji]
                          have j3 : (rd (slew d i2 m) j == rd d j) = true := by simp [HR.out.2.2.1 cji]
                          have j4 : (rd (slew d i2 m) j != rd d j) = false := by simp [HR.out.2.2.1 cji]
                          clear cji
                          go_wp2
                          repeat (go_quiet (fail); try go_wp2)
                          go_roundg (d.length - (j.toNat + 1))
                          case measure => have := HJ.out; have := CJ.out; omega
                          case rel =>
                            have h1 := HJ.out
                            have h2 := CJ.out
                            have h3 := (okC_iff.1 HKD.out).2
                            exact ⟨wrap64 (j + 1), rfl, by rw [wrap_id (x := j + 1) (by omega) (by omega)]; exact ⟨by omega, by omega, by omega⟩, ⟨I4.out.1, by repeat (first | exact I4.out.2 | (with_reducible refine Kd.C_drewN ?_ _))⟩, ⟨I5.out.1, by repeat (first | exact I5.out.2 | (with_reducible refine Kd.C_drewN ?_ _))⟩, ⟨by repeat (first | exact HB8.out | apply pw_below_drewN)⟩⟩
                  · have cjb : decide (j < (d.length : Int)) = false := decide_eq_false cj
                    clear cj
                    go_wp2
                    clear I4
                    have HX := Aside0.mk (slew_ok d i2 m HKD.out)
                    have HXL := Aside0.mk (slew_len d i2 m HKD.out)
                    go_loopg [15, 17] d.length (fun kq v15 v17 w' => ∃ (x : List Int) (A : Option Addr) (cx : Nat) (j : Int), v15 = .slice A x.length cx ∧ v17 = .int .i64 j ∧ Aside0 (0 ≤ j ∧ j ≤ d.length ∧ kq = d.length - j.toNat) ∧ Aside0 (okC x = true ∧ x.length = d.length) ∧ Aside0 (∀ q, 0 ≤ q → q < j → rd x q = 0) ∧ Aside0 (x.length ≤ cx ∧ Kd.C (Kd.int .i64) w' A x.length x) ∧ Aside0 (Below w.heap.size w w'))
                    case atStart => exact ⟨slew d i2 m, A5, c5, 0, rfl, rfl, ⟨by omega, by omega, by omega⟩, ⟨HX.out, HXL.out⟩, ⟨fun q h0 h1 => by omega⟩, I5, HB8⟩
                    case round =>
                      clear I5 HB8
                      obtain ⟨x, A, cx, j, rfl, rfl, HJ, HXO, HZ, I5, HB8⟩ := hrel
                      by_cases cj : j < (d.length : Int)
                      · have cjb : decide (j < (d.length : Int)) = true := decide_eq_true cj
                        have CJ := Aside0.mk cj
                        obtain ⟨K13, hK13⟩ := (implS x j 1000).rounds
                        have HIS2 := Aside0.mk hK13
                        clear hK13 cj
                        go_wp2_with (go_at_call 35; (with_reducible refine (impl_Slew.calls K13 _ _ x j 1000 _ _ I5.out.2 I5.out.1 HIS2.out).mono ?_); rintro e w6 ⟨v, rfl, ho, hb⟩; obtain ⟨A6, c6, rfl⟩ := Kd.R_slice ho; have I6 := Aside0.mk (Kd.R_reads' ho).2; have HB9 := Aside0.mk (below_step HB8.out hb); clear ho hb)
                        go_roundg (d.length - (j.toNat + 1))
                        case measure => have := HJ.out; have := CJ.out; omega
                        case rel =>
                          have h1 := HJ.out
                          have h2 := CJ.out
                          have h3 := (okC_iff.1 HKD.out).2
                          have h4 := HXO.out
                          exact ⟨slew x j 1000, A6, c6, wrap64 (j + 1), rfl, rfl, by rw [wrap_id (x := j + 1) (by omega) (by omega)]; exact ⟨by omega, by omega, by omega⟩, ⟨slew_ok x j 1000 h4.1, by rw [slew_len x j 1000 h4.1]; exact h4.2⟩, ⟨fun q q0 q1 => by
                            rw [wrap_id (x := j + 1) (by omega) (by omega)] at q1
                            rw [slew_1000 x j h4.1 h1.1 (by omega), rd_set _ _ _ _ h1.1 (by omega) q0]
                            split
                            · rfl
                            · exact HZ.out q q0 (by omega)⟩, I6, HB9⟩
                      · have cjb : decide (j < (d.length : Int)) = false := decide_eq_false cj
                        have hsp0 := spread0 x (fun y hy => by
                          obtain ⟨q, q0, q1, rfl⟩ := mem_rd hy
                          exact HZ.out q q0 (by have := HJ.out; have := HXO.out; omega))
                        obtain ⟨e, i3, m3, hdl⟩ := drawL HBIG.out
                        obtain ⟨K14, hK14⟩ := hdl.rounds
                        have HDL := Aside0.mk hK14
                        obtain ⟨K15, hK15⟩ := (implSp x).rounds
                        rw [hsp0] at hK15
                        have HSPX := Aside0.mk hK15
                        obtain ⟨K16, hK16⟩ := (specL e i3 m3).rounds
                        have HSL := Aside0.mk hK16
                        clear hdl hK14 hK15 hK16 hsp0 cj
                        go_wp2_with (first
                          | (go_at_call 39; (with_reducible refine (spec_DrawLocalAt.calls K14 _ _ b e i3 m3 _ (Kd.C_below HR0.out HB8.out) HC0.out HDL.out).mono ?_); rintro e_ w11 ⟨v, rfl, ho, hb⟩; obtain ⟨A7, c7, rfl⟩ := Kd.R_slice ho; have I7 := Aside0.mk (Kd.R_reads' ho).2; replace I5 := Aside0.mk (And.intro I5.out.1 (Kd.C_below I5.out.2 hb)); have HB9 := Aside0.mk (below_step HB8.out hb); clear ho hb)
                          | (go_at_call 37; (with_reducible refine (impl_Spread.calls K15 _ _ x _ _ I5.out.2 I5.out.1 HSPX.out).mono ?_); rintro e_ w12 ⟨rfl, hb⟩; replace I7 := Aside0.mk (And.intro I7.out.1 (Kd.C_below I7.out.2 hb)); replace HB9 := Aside0.mk (below_step HB9.out hb); clear hb)
                          | (go_at_call 40; (with_reducible refine (impl_LocalAt.calls _ _ e i3 m3 _ _ I7.out.2 I7.out.1 (implL e i3 m3)).mono ?_); rintro e_ w13 ⟨rfl, hb⟩; replace I7 := Aside0.mk (And.intro I7.out.1 (Kd.C_below I7.out.2 hb)); replace HB9 := Aside0.mk (below_step HB9.out hb); clear hb)
                          | (go_at_call 41; (with_reducible refine (spec_LocalAt.calls K16 _ _ e i3 m3 _ _ I7.out.2 I7.out.1 HSL.out).mono ?_); rintro e_ w14 ⟨rfl, ⟨nd14, rfl⟩⟩))
                        go_ret
                        exact ⟨by first | rfl | (simp; done), by repeat (first | exact HB9.out | apply pw_below_drewN)⟩
theorem law_walk (a0 : Option Addr) (len0 cap0 : Nat) (z0 : List Int) (w : World) (w0 : (a0 = none ∧ len0 = 0 ∧ cap0 = 0 ∧ z0 = []) ∨ ∃ x, a0 = some x ∧ len0 ≤ cap0 ∧ cap0 ≤ maxLen ∧ z0.length = cap0 ∧ (∀ i, i < z0.length → w.cell? (x.add i) = some (.int .u8 (z0.getD i 0))) ∧ ∀ n ∈ z0, (Lit.int .u8 n).wf = true) (y0 : len0 * 1 ≤ 140737488351232) :
    Calls Try.prog 5 #[.slice a0 len0 cap0] w fun e w' => e = .returned (.bool true) ∧ Below w.heap.size w w' := by
  obtain ⟨l0, rfl, hr0, hm0, hw0, hc0⟩ := ReadsInt.ofRowC w0
  exact law_calls _ _ l0 w (by omega) (Kd.C_of_reads (d := (0 : Int)) (h1 := fun _ => rfl) hr0) hc0
end Go.Proofs.Ytbgfkpagkhofpaa.PFnClocks
