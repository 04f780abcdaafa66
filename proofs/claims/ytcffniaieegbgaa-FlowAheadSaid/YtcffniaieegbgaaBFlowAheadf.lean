/- Proved: the law FlowAhead holds for every input that the row lets in. No condition of ours. -/
import Derived.Test.YtcffniaieegbgaaBFlowAheade
section
namespace Go.Proofs.Ytcffniaieegbgaa.P
open Go.RowKit Go.Proofs.YtcffniaieegbgaaW.PrintWords Go.Proofs.YtcffniaieegbgaaW.PrintLast Go.Proofs.YtcffniaieegbgaaW.PrintMore
attribute [local go_sem] max2_int min2_int max_two min_two max_three min_three max_four min_four   -- for this text's walks alone
set_option linter.unusedVariables false
set_option linter.unusedSimpArgs false

set_option maxHeartbeats 6400000 in
set_option maxRecDepth 100000 in
theorem provisoref05_Blocks.calls (k : Nat) (A0 : Option Addr) (c0 : Nat) (l0 : List S46) (r : List S35) (w : World) (hr0 : Kd.C k46 w A0 l0.length l0) (hc0 : l0.length ≤ c0) (h : provisoref05_Blocks.f k l0 = some r) :
    Calls Try.prog 15 #[.slice A0 l0.length c0] w fun e w' => ∃ v0_ : Value, e = .returned (v0_) ∧ Kd.S k35 35 w' w.heap.size (fun _ => True) v0_ r ∧ Below w.heap.size w w' := by
  unfold provisoref05_Blocks.f at h
  by_cases hok : l0.length < 4398046511104 ∧ okR k l0 = true
  case neg => rw [if_neg hok] at h; cases h
  rw [if_pos hok] at h
  have HR := Aside0.mk hr0
  have HCC := Aside0.mk hc0
  have HL := Aside0.mk hok.1
  have HOK := Aside0.mk hok.2
  have hlen : l0.length < 4398046511104 := hok.1
  have HRES := Aside0.mk h
  clear hr0 hc0 hok h
  go_enter Try.func15, Try.ntmps15
  go_wp2
  go_loopw [17] (fun v17 wr => ∃ i : Nat, v17 = .int .i64 (i : Int) ∧ i ≤ l0.length ∧ Aside0 (riseTo l0 i = true) ∧ Aside0 (Below w.heap.size w wr)) (fun v17 _ => ((l0.length : Int) - intOf v17).toNat)
  case atStart => exact ⟨0, rfl, Nat.zero_le _, ⟨rfl⟩, ⟨Below.refl _ _⟩⟩
  case round =>
    obtain ⟨i, rfl, hi, HT, HBW⟩ := hrel
    by_cases c1 : i < l0.length
    · obtain ⟨x, hx⟩ : ∃ x, x = rd_T46 l0 (i : Int) := ⟨_, rfl⟩
      obtain ⟨ad, e1, hx0, hx1, hx2, hx3⟩ := at_I HR.out HBW.out c1 hx
      cases e1
      have c1b : decide ((i : Int) < (l0.length : Int)) = true := decide_eq_true (by omega)
      have p5 : (0 ≤ (i : Int)) = True := eq_true (by omega)
      have p6 : ((i : Int) < (l0.length : Int)) = True := eq_true (by omega)
      have HW := Aside0.mk (wrap_next (show i < 4398046511104 by omega))
      by_cases c2 : 0 < i
      · obtain ⟨q, hq⟩ : ∃ q, q = i - 1 := ⟨_, rfl⟩
        have hw1 : (IntKind.i64.wrap ((i : Int) - 1)) = (q : Int) := (i64_w _).trans (by unfold wrap64; omega)
        obtain ⟨y, hy⟩ : ∃ y, y = rd_T46 l0 (q : Int) := ⟨_, rfl⟩
        obtain ⟨ad', e1, hy0, hy1, hy2, hy3⟩ := at_I HR.out HBW.out (show q < l0.length by omega) hy
        cases e1
        have c2b : decide ((i : Int) > 0) = true := decide_eq_true (by omega)
        have c2c : decide (0 < (i : Int)) = true := decide_eq_true (by omega)
        have c2d : decide (0 < i) = true := decide_eq_true c2
        have p7 : (0 ≤ (q : Int)) = True := eq_true (by omega)
        have p8 : ((q : Int) < (l0.length : Int)) = True := eq_true (by omega)
        clear hx1 hx2 hx3 hy1 hy2 hy3
        have HRT : Aside0 (riseTo l0 (i + 1) = !decide (x.f0 ≤ y.f0)) := ⟨by rw [riseTo, HT.out, decide_eq_true c2, ← hx, ← hq, ← hy]; simp⟩
        have HI : Aside0 (i < l0.length) := ⟨c1⟩
        clear hx hy c2 hq
        by_cases c3 : x.f0 ≤ y.f0
        · have c3b : decide (x.f0 ≤ y.f0) = true := decide_eq_true c3
          have HV : Aside0 (r = []) := ⟨by
            have h1 : riseTo l0 (i + 1) = false := by rw [HRT.out, c3b]; rfl
            have h2 := riseTo_no h1 (l0.length - (i + 1))
            have := HI.out
            rw [show i + 1 + (l0.length - (i + 1)) = l0.length by omega] at h2
            have h3 := HRES.out
            rw [h2, if_neg (by decide)] at h3
            exact (Option.some.inj h3).symm⟩
          clear c3
          go_wp2
          repeat (go_quiet (fail); try go_wp2)
          go_ret
          exact ⟨_, rfl, by rw [HV.out]; exact Kd.S_nil _ _ _ _ _, by first | exact HBW.out | exact pw_below_drewN HBW.out _⟩
        · have c3b : decide (x.f0 ≤ y.f0) = false := decide_eq_false c3
          have HT2 : Aside0 (riseTo l0 (i + 1) = true) := ⟨by rw [HRT.out, c3b]; rfl⟩
          clear c3
          go_wp2
          repeat (go_quiet (fail); try go_wp2)
          go_roundw
          case rel => exact ⟨i + 1, by have := HW.out; first | rfl | (simp; done), by omega, HT2, ⟨by first | exact HBW.out | exact pw_below_drewN HBW.out _ | exact below_drew HBW.out⟩⟩
          case measure => simp [intOf]; omega
      · obtain rfl : i = 0 := by omega
        have HT2 : Aside0 (riseTo l0 (0 + 1) = true) := ⟨rfl⟩
        clear hx0 hx1 hx2 hx3 hx c2
        have c2b : decide (((0 : Nat) : Int) > 0) = false := by decide
        have c2c : decide (0 < ((0 : Nat) : Int)) = false := by decide
        go_wp2
        repeat (go_quiet (fail); try go_wp2)
        go_roundw
        case rel => exact ⟨0 + 1, by have := HW.out; first | rfl | (simp; done), by omega, HT2, ⟨by first | exact HBW.out | exact pw_below_drewN HBW.out _ | exact below_drew HBW.out⟩⟩
        case measure => simp [intOf]; omega
    · have c1b : decide ((i : Int) < (l0.length : Int)) = false := decide_eq_false (by omega)
      have c1c : decide (i < l0.length) = false := decide_eq_false (by omega)
      have HV : Aside0 (r = outR l0 (markR l0 l0.length) l0.length) := ⟨by
        have h3 := HRES.out
        have h4 := HT.out
        rw [show i = l0.length by omega] at h4
        rw [if_pos h4] at h3
        exact (Option.some.inj h3).symm⟩
      clear HRES HT c1 hi
      go_wp2_with (first | ((with_reducible refine gate_dst (N := 39) rfl ?_); refine Kd.R_make Kd.bool _ 4 rfl (N := 39) rfl 71 _ _ rfl (l0.length : Int) rfl rfl Try.underlying71 (.bool false) 1 (by kernel_rfl) rfl (by decide) (by omega) false (ok := fun _ => True) (okp := fun _ => True) rfl (fun _ hk => hk) trivial (by omega) (by omega) (Below.refl _ _) (Nat.le_refl _) ?_; intro v39 w7 ho8 hb hg_ hnew_; clear hg_ hnew_; replace HO := Aside0.mk (Kd.R_lower ho8 (below_size HBW.out)); replace HBW := Aside0.mk (below_step HBW.out hb); clear ho8 hb))
      replace HO : Aside0 (Kd.R Kd.bool 4 _ w.heap.size (fun _ => True) v39 (markR l0 0)) := ⟨by have h9 := HO.out; rw [Int.toNat_natCast] at h9; exact h9⟩
      go_loopw [42] (fun v42 wr => ∃ i : Nat, v42 = .int .i64 (i : Int) ∧ i ≤ l0.length ∧ Aside0 (Below w.heap.size w wr) ∧ Aside0 (Kd.R Kd.bool 4 wr w.heap.size (fun _ => True) v39 (markR l0 i))) (fun v42 _ => ((l0.length : Int) - intOf v42).toNat)
      case atStart => exact ⟨0, rfl, Nat.zero_le _, HBW, HO⟩
      case round =>
        clear HBW HO
        obtain ⟨i, rfl, hi, HBW, HO⟩ := hrel
        by_cases c1 : i < l0.length
        · obtain ⟨x, hx⟩ : ∃ x, x = rd_T46 l0 (i : Int) := ⟨_, rfl⟩
          obtain ⟨ad, e1, hx0, hx1, hx2, hx3⟩ := at_I HR.out HBW.out c1 hx
          cases e1
          obtain ⟨g4, c4, e4, _, _, _⟩ := Kd.R_form HO.out (by rw [markR_len]; omega)
          rw [markR_len] at e4
          subst e4
          have HX := Aside0.mk hx
          have HI : Aside0 (i < l0.length) := ⟨c1⟩
          have HMS := Aside0.mk (markR_step hx)
          have c1b : decide ((i : Int) < (l0.length : Int)) = true := decide_eq_true (by omega)
          have p5 : (0 ≤ (i : Int)) = True := eq_true (by omega)
          have p6 : ((i : Int) < (l0.length : Int)) = True := eq_true (by omega)
          have HW := Aside0.mk (wrap_next (show i < 4398046511104 by omega))
          have HRW : Aside0 (Rws w [] wr) := ⟨⟨fun _ h => by simp at h, by simp, HBW.out⟩⟩
          have HPL := Aside0.mk (okR_at HOK.out c1).2.1
          rw [← hx] at HPL
          have HPT : Aside0 (0 ≤ placeI l0 x.f2 → placeI l0 x.f2 < (l0.length : Int)) := ⟨placeI_lt⟩
          generalize placeI l0 x.f2 = pl at HPL HMS HPT
          clear hx HBW
          by_cases d0 : i = 0
          · have d0b : ((i : Int) == 0) = true := by rw [beq_iff_eq]; omega
            have d0c : decide ((i : Int) = 0) = true := decide_eq_true (by omega)
            have d0d : decide (i = 0) = true := decide_eq_true d0
            have HD := Aside0.mk d0
            clear d0
            go_wp2_with (first | ((with_reducible refine gate_dst (N := 6) rfl ?_); refine rw_alloc rfl 46 rfl (cs := #[.int .i64 0, .int .u8 0, .int .i64 0, .int .i64 0]) (by kernel_rfl) HRW.out ?_; intro b6 w_ hg9 hX hb9; replace HO := Aside0.mk (Kd.R_below (Kd.R_elderB HO.out b6 (by omega)) hb9); replace HRW := Aside0.mk hX; clear hX hg9 hb9) | ((with_reducible refine gate_store (t := 46) (p := 6) rfl ?_); refine rw_store rfl 46 rfl rfl (cs' := #[.int .i64 x.f0, .int .u8 x.f1, .int .i64 x.f2, .int .i64 x.f3]) rfl [] HRW.out (by kernel_rfl) rfl (by show _ = _; kernel_rfl) ?_; intro w_ hX hk9; (try simp only [List.nil_append] at hX); replace HO := Aside0.mk (Kd.R_mono (Kd.R_step HO.out (fun j hj hlt => hk9.2 j hlt hj.2)) (fun _ _ => trivial) : Kd.R Kd.bool 4 w_ w.heap.size (fun _ => True) (.slice (some ⟨g4, 0, none⟩) l0.length c4) (markR l0 i)); replace HRW := Aside0.mk hX; clear hX hk9 hx0 hx1 hx2 hx3) | ((with_reducible refine gate_store (t := 4) (p := 51) rfl ?_); refine bool_store rfl rfl rfl i HO.out ?hi_ HRW.out.below ?had_ rfl ?_; (case hi_ => omega); (case had_ => first | rfl | (go_simp; done) | (go_simp; rfl)); intro w_ h1_ h2_ h3_; replace HRW := Aside0.mk (HRW.out.besides (Kd.R_typed HO.out) (by intro p hp; simp at hp; subst hp; show (46 : Nat) ≠ 4; decide) h3_ h2_); replace HO := Aside0.mk h1_; clear h1_ h2_ h3_))
            have g1 := blk_cell (HRW.out.mem List.mem_cons_self) 1
            go_quiet (first | (go_at_call 47; exact Calls.quiet_of ((provisoref04_Jumps.calls x.f1 (jumpsB x.f1) _ (jumps_is x.f1)).mono fun _ _ h => ⟨h.1, h.2.out⟩)) | (go_at_call 48; exact Calls.quiet_of ((provisoref04_Ends.calls x.f1 (endsB x.f1) _ (ends_is x.f1)).mono fun _ _ h => ⟨h.1, h.2.out⟩)))
            replace HO := Aside0.mk (Kd.R_drewN HO.out nq)
            replace HRW := Aside0.mk (HRW.out.drewN nq)
            clear g1
            cases qj : jumpsB x.f1 with
            | true =>
              by_cases c2 : i + 1 < l0.length
              · have hE : ((jumpsB x.f1 || endsB x.f1) && decide (i + 1 < l0.length)) = true := by rw [qj, decide_eq_true c2]; first | rfl | simp
                have HE := Aside0.mk hE
                have c2b : decide ((i : Int) + 1 < (l0.length : Int)) = true := decide_eq_true (by omega)
                have p7 : (0 ≤ (i : Int) + 1) = True := eq_true (by omega)
                have p8 : ((i : Int) + 1 < (l0.length : Int)) = True := eq_true (by omega)
                have p9 : ((i : Int) + 1).toNat = i + 1 := by omega
                have HC2 := Aside0.mk c2
                clear hE c2
                go_wp2_with (first | ((with_reducible refine gate_store (t := 4) (p := 72) rfl ?_); refine bool_store rfl rfl rfl (i + 1) HO.out ?hi_ HRW.out.below ?had_ rfl ?_; (case hi_ => exact HC2.out); (case had_ => first | rfl | (go_simp; done) | (go_simp; rfl)); intro w_ h1_ h2_ h3_; replace HRW := Aside0.mk (HRW.out.besides (Kd.R_typed HO.out) (by intro p hp; simp at hp; subst hp; show (46 : Nat) ≠ 4; decide) h3_ h2_); replace HO := Aside0.mk h1_; clear h1_ h2_ h3_; have g2 := blk_cell (HRW.out.mem List.mem_cons_self) 2))
                refine (provisoref05_Place.calls k _ _ l0 x.f2 pl _ (Kd.C_below HR.out HRW.out.below) HCC.out HPL.out).mono ?_
                rintro e w_ ⟨rfl, hb⟩
                replace HO := Aside0.mk (Kd.R_below HO.out hb)
                replace HRW := Aside0.mk (HRW.out.step hb)
                clear hb g2
                by_cases c4 : 0 ≤ pl
                · obtain ⟨j, rfl⟩ := Int.eq_ofNat_of_zero_le c4
                  have hjn : j < l0.length := by have := HPT.out c4; omega
                  have hJ : (jumpsB x.f1 && decide (0 ≤ (j : Int))) = true := by rw [qj, decide_eq_true c4]; rfl
                  have HJ := Aside0.mk hJ
                  clear hJ qj
                  have c4b : decide ((j : Int) ≥ 0) = true := decide_eq_true c4
                  have r5 : (0 ≤ (j : Int)) = True := eq_true (by omega)
                  have r6 : ((j : Int) < (l0.length : Int)) = True := eq_true (by omega)
                  clear c4
                  go_wp2_with (first | ((with_reducible refine gate_store (t := 4) (p := 84) rfl ?_); refine bool_store rfl rfl rfl j HO.out ?hi_ HRW.out.below ?had_ rfl ?_; (case hi_ => omega); (case had_ => first | rfl | (go_simp; done) | (go_simp; rfl)); intro w_ h1_ h2_ h3_; replace HRW := Aside0.mk (HRW.out.besides (Kd.R_typed HO.out) (by intro p hp; simp at hp; subst hp; show (46 : Nat) ≠ 4; decide) h3_ h2_); replace HO := Aside0.mk h1_; clear h1_ h2_ h3_))
                  go_roundw
                  case rel => exact ⟨i + 1, by have := HW.out; first | rfl | (simp; done), by omega, ⟨HRW.out.below⟩, ⟨by rw [HMS.out, if_pos HJ.out, if_pos HE.out, if_pos HD.out]; exact HO.out⟩⟩
                  case measure => simp [intOf]; omega
                · have hJ : ¬ (jumpsB x.f1 && decide (0 ≤ pl)) = true := by rw [decide_eq_false c4]; simp
                  have HJ := Aside0.mk hJ
                  clear hJ qj
                  have c4b : decide (pl ≥ 0) = false := decide_eq_false c4
                  have c4c : decide (0 ≤ pl) = false := decide_eq_false c4
                  clear c4
                  go_wp2
                  go_roundw
                  case rel => exact ⟨i + 1, by have := HW.out; first | rfl | (simp; done), by omega, ⟨HRW.out.below⟩, ⟨by rw [HMS.out, if_neg HJ.out, if_pos HE.out, if_pos HD.out]; exact HO.out⟩⟩
                  case measure => simp [intOf]; omega
              · have hE : ¬ ((jumpsB x.f1 || endsB x.f1) && decide (i + 1 < l0.length)) = true := by rw [decide_eq_false c2]; simp
                have HE := Aside0.mk hE
                have c2b : decide ((i : Int) + 1 < (l0.length : Int)) = false := decide_eq_false (by omega)
                clear hE c2
                have g2 := blk_cell (HRW.out.mem List.mem_cons_self) 2
                go_wp2_with fail
                refine (provisoref05_Place.calls k _ _ l0 x.f2 pl _ (Kd.C_below HR.out HRW.out.below) HCC.out HPL.out).mono ?_
                rintro e w_ ⟨rfl, hb⟩
                replace HO := Aside0.mk (Kd.R_below HO.out hb)
                replace HRW := Aside0.mk (HRW.out.step hb)
                clear hb g2
                by_cases c4 : 0 ≤ pl
                · obtain ⟨j, rfl⟩ := Int.eq_ofNat_of_zero_le c4
                  have hjn : j < l0.length := by have := HPT.out c4; omega
                  have hJ : (jumpsB x.f1 && decide (0 ≤ (j : Int))) = true := by rw [qj, decide_eq_true c4]; rfl
                  have HJ := Aside0.mk hJ
                  clear hJ qj
                  have c4b : decide ((j : Int) ≥ 0) = true := decide_eq_true c4
                  have r5 : (0 ≤ (j : Int)) = True := eq_true (by omega)
                  have r6 : ((j : Int) < (l0.length : Int)) = True := eq_true (by omega)
                  clear c4
                  go_wp2_with (first | ((with_reducible refine gate_store (t := 4) (p := 84) rfl ?_); refine bool_store rfl rfl rfl j HO.out ?hi_ HRW.out.below ?had_ rfl ?_; (case hi_ => omega); (case had_ => first | rfl | (go_simp; done) | (go_simp; rfl)); intro w_ h1_ h2_ h3_; replace HRW := Aside0.mk (HRW.out.besides (Kd.R_typed HO.out) (by intro p hp; simp at hp; subst hp; show (46 : Nat) ≠ 4; decide) h3_ h2_); replace HO := Aside0.mk h1_; clear h1_ h2_ h3_))
                  go_roundw
                  case rel => exact ⟨i + 1, by have := HW.out; first | rfl | (simp; done), by omega, ⟨HRW.out.below⟩, ⟨by rw [HMS.out, if_pos HJ.out, if_neg HE.out, if_pos HD.out]; exact HO.out⟩⟩
                  case measure => simp [intOf]; omega
                · have hJ : ¬ (jumpsB x.f1 && decide (0 ≤ pl)) = true := by rw [decide_eq_false c4]; simp
                  have HJ := Aside0.mk hJ
                  clear hJ qj
                  have c4b : decide (pl ≥ 0) = false := decide_eq_false c4
                  have c4c : decide (0 ≤ pl) = false := decide_eq_false c4
                  clear c4
                  go_wp2
                  go_roundw
                  case rel => exact ⟨i + 1, by have := HW.out; first | rfl | (simp; done), by omega, ⟨HRW.out.below⟩, ⟨by rw [HMS.out, if_neg HJ.out, if_neg HE.out, if_pos HD.out]; exact HO.out⟩⟩
                  case measure => simp [intOf]; omega
            | false =>
              cases qe : endsB x.f1 with
              | true =>
                by_cases c2 : i + 1 < l0.length
                · have hE : ((jumpsB x.f1 || endsB x.f1) && decide (i + 1 < l0.length)) = true := by rw [qj, qe, decide_eq_true c2]; first | rfl | simp
                  have HE := Aside0.mk hE
                  have c2b : decide ((i : Int) + 1 < (l0.length : Int)) = true := decide_eq_true (by omega)
                  have p7 : (0 ≤ (i : Int) + 1) = True := eq_true (by omega)
                  have p8 : ((i : Int) + 1 < (l0.length : Int)) = True := eq_true (by omega)
                  have p9 : ((i : Int) + 1).toNat = i + 1 := by omega
                  have HC2 := Aside0.mk c2
                  clear hE c2
                  go_wp2_with (first | ((with_reducible refine gate_store (t := 4) (p := 72) rfl ?_); refine bool_store rfl rfl rfl (i + 1) HO.out ?hi_ HRW.out.below ?had_ rfl ?_; (case hi_ => exact HC2.out); (case had_ => first | rfl | (go_simp; done) | (go_simp; rfl)); intro w_ h1_ h2_ h3_; replace HRW := Aside0.mk (HRW.out.besides (Kd.R_typed HO.out) (by intro p hp; simp at hp; subst hp; show (46 : Nat) ≠ 4; decide) h3_ h2_); replace HO := Aside0.mk h1_; clear h1_ h2_ h3_; have g2 := blk_cell (HRW.out.mem List.mem_cons_self) 2))
                  refine (provisoref05_Place.calls k _ _ l0 x.f2 pl _ (Kd.C_below HR.out HRW.out.below) HCC.out HPL.out).mono ?_
                  rintro e w_ ⟨rfl, hb⟩
                  replace HO := Aside0.mk (Kd.R_below HO.out hb)
                  replace HRW := Aside0.mk (HRW.out.step hb)
                  clear hb g2
                  have hJ : ¬ (jumpsB x.f1 && decide (0 ≤ pl)) = true := by rw [qj]; simp
                  have HJ := Aside0.mk hJ
                  clear hJ qj
                  go_wp2
                  go_roundw
                  case rel => exact ⟨i + 1, by have := HW.out; first | rfl | (simp; done), by omega, ⟨HRW.out.below⟩, ⟨by rw [HMS.out, if_neg HJ.out, if_pos HE.out, if_pos HD.out]; exact HO.out⟩⟩
                  case measure => simp [intOf]; omega
                · have hE : ¬ ((jumpsB x.f1 || endsB x.f1) && decide (i + 1 < l0.length)) = true := by rw [decide_eq_false c2]; simp
                  have HE := Aside0.mk hE
                  have c2b : decide ((i : Int) + 1 < (l0.length : Int)) = false := decide_eq_false (by omega)
                  clear hE c2
                  have g2 := blk_cell (HRW.out.mem List.mem_cons_self) 2
                  go_wp2_with fail
                  refine (provisoref05_Place.calls k _ _ l0 x.f2 pl _ (Kd.C_below HR.out HRW.out.below) HCC.out HPL.out).mono ?_
                  rintro e w_ ⟨rfl, hb⟩
                  replace HO := Aside0.mk (Kd.R_below HO.out hb)
                  replace HRW := Aside0.mk (HRW.out.step hb)
                  clear hb g2
                  have hJ : ¬ (jumpsB x.f1 && decide (0 ≤ pl)) = true := by rw [qj]; simp
                  have HJ := Aside0.mk hJ
                  clear hJ qj
                  go_wp2
                  go_roundw
                  case rel => exact ⟨i + 1, by have := HW.out; first | rfl | (simp; done), by omega, ⟨HRW.out.below⟩, ⟨by rw [HMS.out, if_neg HJ.out, if_neg HE.out, if_pos HD.out]; exact HO.out⟩⟩
                  case measure => simp [intOf]; omega
              | false =>
                have hE : ¬ ((jumpsB x.f1 || endsB x.f1) && decide (i + 1 < l0.length)) = true := by rw [qj, qe]; simp
                have HE := Aside0.mk hE
                clear hE
                have g2 := blk_cell (HRW.out.mem List.mem_cons_self) 2
                go_wp2_with fail
                refine (provisoref05_Place.calls k _ _ l0 x.f2 pl _ (Kd.C_below HR.out HRW.out.below) HCC.out HPL.out).mono ?_
                rintro e w_ ⟨rfl, hb⟩
                replace HO := Aside0.mk (Kd.R_below HO.out hb)
                replace HRW := Aside0.mk (HRW.out.step hb)
                clear hb g2
                have hJ : ¬ (jumpsB x.f1 && decide (0 ≤ pl)) = true := by rw [qj]; simp
                have HJ := Aside0.mk hJ
                clear hJ qj
                go_wp2
                go_roundw
                case rel => exact ⟨i + 1, by have := HW.out; first | rfl | (simp; done), by omega, ⟨HRW.out.below⟩, ⟨by rw [HMS.out, if_neg HJ.out, if_neg HE.out, if_pos HD.out]; exact HO.out⟩⟩
                case measure => simp [intOf]; omega
          · have d0b : ((i : Int) == 0) = false := by rw [beq_eq_false_iff_ne]; omega
            have d0c : decide ((i : Int) = 0) = false := decide_eq_false (by omega)
            have d0d : decide (i = 0) = false := decide_eq_false d0
            have HD := Aside0.mk d0
            clear d0
            go_wp2_with (first | ((with_reducible refine gate_dst (N := 6) rfl ?_); refine rw_alloc rfl 46 rfl (cs := #[.int .i64 0, .int .u8 0, .int .i64 0, .int .i64 0]) (by kernel_rfl) HRW.out ?_; intro b6 w_ hg9 hX hb9; replace HO := Aside0.mk (Kd.R_below (Kd.R_elderB HO.out b6 (by omega)) hb9); replace HRW := Aside0.mk hX; clear hX hg9 hb9) | ((with_reducible refine gate_store (t := 46) (p := 6) rfl ?_); refine rw_store rfl 46 rfl rfl (cs' := #[.int .i64 x.f0, .int .u8 x.f1, .int .i64 x.f2, .int .i64 x.f3]) rfl [] HRW.out (by kernel_rfl) rfl (by show _ = _; kernel_rfl) ?_; intro w_ hX hk9; (try simp only [List.nil_append] at hX); replace HO := Aside0.mk (Kd.R_mono (Kd.R_step HO.out (fun j hj hlt => hk9.2 j hlt hj.2)) (fun _ _ => trivial) : Kd.R Kd.bool 4 w_ w.heap.size (fun _ => True) (.slice (some ⟨g4, 0, none⟩) l0.length c4) (markR l0 i)); replace HRW := Aside0.mk hX; clear hX hk9 hx0 hx1 hx2 hx3))
            have g1 := blk_cell (HRW.out.mem List.mem_cons_self) 1
            go_quiet (first | (go_at_call 47; exact Calls.quiet_of ((provisoref04_Jumps.calls x.f1 (jumpsB x.f1) _ (jumps_is x.f1)).mono fun _ _ h => ⟨h.1, h.2.out⟩)) | (go_at_call 48; exact Calls.quiet_of ((provisoref04_Ends.calls x.f1 (endsB x.f1) _ (ends_is x.f1)).mono fun _ _ h => ⟨h.1, h.2.out⟩)))
            replace HO := Aside0.mk (Kd.R_drewN HO.out nq)
            replace HRW := Aside0.mk (HRW.out.drewN nq)
            clear g1
            cases qj : jumpsB x.f1 with
            | true =>
              by_cases c2 : i + 1 < l0.length
              · have hE : ((jumpsB x.f1 || endsB x.f1) && decide (i + 1 < l0.length)) = true := by rw [qj, decide_eq_true c2]; first | rfl | simp
                have HE := Aside0.mk hE
                have c2b : decide ((i : Int) + 1 < (l0.length : Int)) = true := decide_eq_true (by omega)
                have p7 : (0 ≤ (i : Int) + 1) = True := eq_true (by omega)
                have p8 : ((i : Int) + 1 < (l0.length : Int)) = True := eq_true (by omega)
                have p9 : ((i : Int) + 1).toNat = i + 1 := by omega
                have HC2 := Aside0.mk c2
                clear hE c2
                go_wp2_with (first | ((with_reducible refine gate_store (t := 4) (p := 72) rfl ?_); refine bool_store rfl rfl rfl (i + 1) HO.out ?hi_ HRW.out.below ?had_ rfl ?_; (case hi_ => exact HC2.out); (case had_ => first | rfl | (go_simp; done) | (go_simp; rfl)); intro w_ h1_ h2_ h3_; replace HRW := Aside0.mk (HRW.out.besides (Kd.R_typed HO.out) (by intro p hp; simp at hp; subst hp; show (46 : Nat) ≠ 4; decide) h3_ h2_); replace HO := Aside0.mk h1_; clear h1_ h2_ h3_; have g2 := blk_cell (HRW.out.mem List.mem_cons_self) 2))
                refine (provisoref05_Place.calls k _ _ l0 x.f2 pl _ (Kd.C_below HR.out HRW.out.below) HCC.out HPL.out).mono ?_
                rintro e w_ ⟨rfl, hb⟩
                replace HO := Aside0.mk (Kd.R_below HO.out hb)
                replace HRW := Aside0.mk (HRW.out.step hb)
                clear hb g2
                by_cases c4 : 0 ≤ pl
                · obtain ⟨j, rfl⟩ := Int.eq_ofNat_of_zero_le c4
                  have hjn : j < l0.length := by have := HPT.out c4; omega
                  have hJ : (jumpsB x.f1 && decide (0 ≤ (j : Int))) = true := by rw [qj, decide_eq_true c4]; rfl
                  have HJ := Aside0.mk hJ
                  clear hJ qj
                  have c4b : decide ((j : Int) ≥ 0) = true := decide_eq_true c4
                  have r5 : (0 ≤ (j : Int)) = True := eq_true (by omega)
                  have r6 : ((j : Int) < (l0.length : Int)) = True := eq_true (by omega)
                  clear c4
                  go_wp2_with (first | ((with_reducible refine gate_store (t := 4) (p := 84) rfl ?_); refine bool_store rfl rfl rfl j HO.out ?hi_ HRW.out.below ?had_ rfl ?_; (case hi_ => omega); (case had_ => first | rfl | (go_simp; done) | (go_simp; rfl)); intro w_ h1_ h2_ h3_; replace HRW := Aside0.mk (HRW.out.besides (Kd.R_typed HO.out) (by intro p hp; simp at hp; subst hp; show (46 : Nat) ≠ 4; decide) h3_ h2_); replace HO := Aside0.mk h1_; clear h1_ h2_ h3_))
                  go_roundw
                  case rel => exact ⟨i + 1, by have := HW.out; first | rfl | (simp; done), by omega, ⟨HRW.out.below⟩, ⟨by rw [HMS.out, if_pos HJ.out, if_pos HE.out, if_neg HD.out]; exact HO.out⟩⟩
                  case measure => simp [intOf]; omega
                · have hJ : ¬ (jumpsB x.f1 && decide (0 ≤ pl)) = true := by rw [decide_eq_false c4]; simp
                  have HJ := Aside0.mk hJ
                  clear hJ qj
                  have c4b : decide (pl ≥ 0) = false := decide_eq_false c4
                  have c4c : decide (0 ≤ pl) = false := decide_eq_false c4
                  clear c4
                  go_wp2
                  go_roundw
                  case rel => exact ⟨i + 1, by have := HW.out; first | rfl | (simp; done), by omega, ⟨HRW.out.below⟩, ⟨by rw [HMS.out, if_neg HJ.out, if_pos HE.out, if_neg HD.out]; exact HO.out⟩⟩
                  case measure => simp [intOf]; omega
              · have hE : ¬ ((jumpsB x.f1 || endsB x.f1) && decide (i + 1 < l0.length)) = true := by rw [decide_eq_false c2]; simp
                have HE := Aside0.mk hE
                have c2b : decide ((i : Int) + 1 < (l0.length : Int)) = false := decide_eq_false (by omega)
                clear hE c2
                have g2 := blk_cell (HRW.out.mem List.mem_cons_self) 2
                go_wp2_with fail
                refine (provisoref05_Place.calls k _ _ l0 x.f2 pl _ (Kd.C_below HR.out HRW.out.below) HCC.out HPL.out).mono ?_
                rintro e w_ ⟨rfl, hb⟩
                replace HO := Aside0.mk (Kd.R_below HO.out hb)
                replace HRW := Aside0.mk (HRW.out.step hb)
                clear hb g2
                by_cases c4 : 0 ≤ pl
                · obtain ⟨j, rfl⟩ := Int.eq_ofNat_of_zero_le c4
                  have hjn : j < l0.length := by have := HPT.out c4; omega
                  have hJ : (jumpsB x.f1 && decide (0 ≤ (j : Int))) = true := by rw [qj, decide_eq_true c4]; rfl
                  have HJ := Aside0.mk hJ
                  clear hJ qj
                  have c4b : decide ((j : Int) ≥ 0) = true := decide_eq_true c4
                  have r5 : (0 ≤ (j : Int)) = True := eq_true (by omega)
                  have r6 : ((j : Int) < (l0.length : Int)) = True := eq_true (by omega)
                  clear c4
                  go_wp2_with (first | ((with_reducible refine gate_store (t := 4) (p := 84) rfl ?_); refine bool_store rfl rfl rfl j HO.out ?hi_ HRW.out.below ?had_ rfl ?_; (case hi_ => omega); (case had_ => first | rfl | (go_simp; done) | (go_simp; rfl)); intro w_ h1_ h2_ h3_; replace HRW := Aside0.mk (HRW.out.besides (Kd.R_typed HO.out) (by intro p hp; simp at hp; subst hp; show (46 : Nat) ≠ 4; decide) h3_ h2_); replace HO := Aside0.mk h1_; clear h1_ h2_ h3_))
                  go_roundw
                  case rel => exact ⟨i + 1, by have := HW.out; first | rfl | (simp; done), by omega, ⟨HRW.out.below⟩, ⟨by rw [HMS.out, if_pos HJ.out, if_neg HE.out, if_neg HD.out]; exact HO.out⟩⟩
                  case measure => simp [intOf]; omega
                · have hJ : ¬ (jumpsB x.f1 && decide (0 ≤ pl)) = true := by rw [decide_eq_false c4]; simp
                  have HJ := Aside0.mk hJ
                  clear hJ qj
                  have c4b : decide (pl ≥ 0) = false := decide_eq_false c4
                  have c4c : decide (0 ≤ pl) = false := decide_eq_false c4
                  clear c4
                  go_wp2
                  go_roundw
                  case rel => exact ⟨i + 1, by have := HW.out; first | rfl | (simp; done), by omega, ⟨HRW.out.below⟩, ⟨by rw [HMS.out, if_neg HJ.out, if_neg HE.out, if_neg HD.out]; exact HO.out⟩⟩
                  case measure => simp [intOf]; omega
            | false =>
              cases qe : endsB x.f1 with
              | true =>
                by_cases c2 : i + 1 < l0.length
                · have hE : ((jumpsB x.f1 || endsB x.f1) && decide (i + 1 < l0.length)) = true := by rw [qj, qe, decide_eq_true c2]; first | rfl | simp
                  have HE := Aside0.mk hE
                  have c2b : decide ((i : Int) + 1 < (l0.length : Int)) = true := decide_eq_true (by omega)
                  have p7 : (0 ≤ (i : Int) + 1) = True := eq_true (by omega)
                  have p8 : ((i : Int) + 1 < (l0.length : Int)) = True := eq_true (by omega)
                  have p9 : ((i : Int) + 1).toNat = i + 1 := by omega
                  have HC2 := Aside0.mk c2
                  clear hE c2
                  go_wp2_with (first | ((with_reducible refine gate_store (t := 4) (p := 72) rfl ?_); refine bool_store rfl rfl rfl (i + 1) HO.out ?hi_ HRW.out.below ?had_ rfl ?_; (case hi_ => exact HC2.out); (case had_ => first | rfl | (go_simp; done) | (go_simp; rfl)); intro w_ h1_ h2_ h3_; replace HRW := Aside0.mk (HRW.out.besides (Kd.R_typed HO.out) (by intro p hp; simp at hp; subst hp; show (46 : Nat) ≠ 4; decide) h3_ h2_); replace HO := Aside0.mk h1_; clear h1_ h2_ h3_; have g2 := blk_cell (HRW.out.mem List.mem_cons_self) 2))
                  refine (provisoref05_Place.calls k _ _ l0 x.f2 pl _ (Kd.C_below HR.out HRW.out.below) HCC.out HPL.out).mono ?_
                  rintro e w_ ⟨rfl, hb⟩
                  replace HO := Aside0.mk (Kd.R_below HO.out hb)
                  replace HRW := Aside0.mk (HRW.out.step hb)
                  clear hb g2
                  have hJ : ¬ (jumpsB x.f1 && decide (0 ≤ pl)) = true := by rw [qj]; simp
                  have HJ := Aside0.mk hJ
                  clear hJ qj
                  go_wp2
                  go_roundw
                  case rel => exact ⟨i + 1, by have := HW.out; first | rfl | (simp; done), by omega, ⟨HRW.out.below⟩, ⟨by rw [HMS.out, if_neg HJ.out, if_pos HE.out, if_neg HD.out]; exact HO.out⟩⟩
                  case measure => simp [intOf]; omega
                · have hE : ¬ ((jumpsB x.f1 || endsB x.f1) && decide (i + 1 < l0.length)) = true := by rw [decide_eq_false c2]; simp
                  have HE := Aside0.mk hE
                  have c2b : decide ((i : Int) + 1 < (l0.length : Int)) = false := decide_eq_false (by omega)
                  clear hE c2
                  have g2 := blk_cell (HRW.out.mem List.mem_cons_self) 2
                  go_wp2_with fail
                  refine (provisoref05_Place.calls k _ _ l0 x.f2 pl _ (Kd.C_below HR.out HRW.out.below) HCC.out HPL.out).mono ?_
                  rintro e w_ ⟨rfl, hb⟩
                  replace HO := Aside0.mk (Kd.R_below HO.out hb)
                  replace HRW := Aside0.mk (HRW.out.step hb)
                  clear hb g2
                  have hJ : ¬ (jumpsB x.f1 && decide (0 ≤ pl)) = true := by rw [qj]; simp
                  have HJ := Aside0.mk hJ
                  clear hJ qj
                  go_wp2
                  go_roundw
                  case rel => exact ⟨i + 1, by have := HW.out; first | rfl | (simp; done), by omega, ⟨HRW.out.below⟩, ⟨by rw [HMS.out, if_neg HJ.out, if_neg HE.out, if_neg HD.out]; exact HO.out⟩⟩
                  case measure => simp [intOf]; omega
              | false =>
                have hE : ¬ ((jumpsB x.f1 || endsB x.f1) && decide (i + 1 < l0.length)) = true := by rw [qj, qe]; simp
                have HE := Aside0.mk hE
                clear hE
                have g2 := blk_cell (HRW.out.mem List.mem_cons_self) 2
                go_wp2_with fail
                refine (provisoref05_Place.calls k _ _ l0 x.f2 pl _ (Kd.C_below HR.out HRW.out.below) HCC.out HPL.out).mono ?_
                rintro e w_ ⟨rfl, hb⟩
                replace HO := Aside0.mk (Kd.R_below HO.out hb)
                replace HRW := Aside0.mk (HRW.out.step hb)
                clear hb g2
                have hJ : ¬ (jumpsB x.f1 && decide (0 ≤ pl)) = true := by rw [qj]; simp
                have HJ := Aside0.mk hJ
                clear hJ qj
                go_wp2
                go_roundw
                case rel => exact ⟨i + 1, by have := HW.out; first | rfl | (simp; done), by omega, ⟨HRW.out.below⟩, ⟨by rw [HMS.out, if_neg HJ.out, if_neg HE.out, if_neg HD.out]; exact HO.out⟩⟩
                case measure => simp [intOf]; omega
        · have c1b : decide ((i : Int) < (l0.length : Int)) = false := decide_eq_false (by omega)
          have c1c : decide (i < l0.length) = false := decide_eq_false (by omega)
          have HO9 : Aside0 (Kd.R Kd.bool 4 wr w.heap.size (fun _ => True) v39 (markR l0 l0.length)) := ⟨by have h9 := HO.out; rw [show i = l0.length by omega] at h9; exact h9⟩
          clear HO c1 hi
          go_wp2_with fail
          obtain ⟨M, hM⟩ : ∃ M, M = markR l0 l0.length := ⟨_, rfl⟩
          rw [← hM] at HO9 HV
          have HML : Aside0 (M.length = l0.length) := ⟨by rw [hM]; exact markR_len _ _⟩
          have HM0 : Aside0 (0 < l0.length → M.getD 0 false = true) := ⟨fun h9 => by rw [hM, show l0.length = (l0.length - 1) + 1 by omega]; exact markR_zero l0 h9 _⟩
          clear hM
          have HS9 : Aside0 (Kd.S k35 35 wr w.heap.size (fun _ => True) (.slice none 0 0) (outR l0 M 0)) := ⟨Kd.S_nil _ _ _ _ _⟩
          go_loopw [10, 88] (fun v10 v88 wr => ∃ i : Nat, v88 = .int .i64 (i : Int) ∧ i ≤ l0.length ∧ Aside0 (Below w.heap.size w wr) ∧ Aside0 (Kd.R Kd.bool 4 wr w.heap.size (fun _ => True) v39 M) ∧ Aside0 (Kd.S k35 35 wr w.heap.size (fun _ => True) v10 (outR l0 M i))) (fun _ v88 _ => ((l0.length : Int) - intOf v88).toNat)
          case atStart => exact ⟨0, rfl, Nat.zero_le _, HBW, HO9, HS9⟩
          case round =>
            clear HBW HO9 HS9
            obtain ⟨i, rfl, hi, HBW, HO9, HS9⟩ := hrel
            by_cases c1 : i < l0.length
            · obtain ⟨x, hx⟩ : ∃ x, x = rd_T46 l0 (i : Int) := ⟨_, rfl⟩
              obtain ⟨ad, e1, hx0, hx1, hx2, hx3⟩ := at_I HR.out HBW.out c1 hx
              cases e1
              obtain ⟨g4, c4, e4, _, _, _⟩ := Kd.R_form HO9.out (by rw [HML.out]; omega)
              rw [HML.out] at e4
              subst e4
              obtain ⟨am, em, hbm⟩ := Kd.at_bool (Kd.R_reads' HO9.out).2.2 (i : Int) (by omega) (by have := HML.out; omega)
              cases em
              have HX := Aside0.mk hx
              have HI : Aside0 (i < l0.length) := ⟨c1⟩
              have c1b : decide ((i : Int) < (l0.length : Int)) = true := decide_eq_true (by omega)
              have p5 : (0 ≤ (i : Int)) = True := eq_true (by omega)
              have p6 : ((i : Int) < (l0.length : Int)) = True := eq_true (by omega)
              have HW := Aside0.mk (wrap_next (show i < 4398046511104 by omega))
              have HNX := Aside0.mk (okR_at HOK.out c1)
              rw [← hx] at HNX
              obtain ⟨A10, c10, e10⟩ := Kd.S_slice HS9.out
              subst e10
              have HOL := Aside0.mk (outR_len l0 M i)
              obtain ⟨o1, ho1⟩ : ∃ o1, o1 = addR l0 M i := ⟨_, rfl⟩
              have HO1 := Aside0.mk ho1
              obtain ⟨q, hq⟩ : ∃ q, o1.length = q + 1 := ⟨o1.length - 1, by have := addR_pos l0 M (HM0.out (by omega)) i; rw [ho1]; omega⟩
              have HQ := Aside0.mk hq
              have hb9 : rdOf false M (i : Int) = M.getD i false := by unfold rdOf; rw [Int.toNat_natCast]
              rw [hb9, Int.toNat_natCast, add0] at hbm
              have hqn : q ≤ 4398046511104 := by have h1 := HOL.out; have h2 : o1.length ≤ i + 1 := (by rw [ho1]; unfold addR; split; (rw [List.length_append, List.length_singleton]; omega); omega); omega
              have hw1 : IntKind.i64.wrap (((q + 1 : Nat) : Int) - 1) = (q : Int) := (i64_w _).trans (by unfold wrap64; omega)
              have hw2 : IntKind.i64.wrap (q : Int) = (q : Int) := (i64_w _).trans (by unfold wrap64; omega)
              clear hb9 hq ho1 hx
              cases hm : M.getD i false with
              | true =>
                have HA : Aside0 (o1 = outR l0 M i ++ [(⟨x.f0, 0, []⟩ : S35)]) := ⟨by rw [HO1.out, HX.out]; unfold addR; rw [if_pos hm]⟩
                rw [hm] at hbm
                clear hm
                by_cases d1 : i + 1 = l0.length
                · 
                  have HN0 : Aside0 (nxR l0 M i = (nextL x).filter (fun a => decide (0 ≤ placeI l0 a))) := ⟨by rw [HX.out]; unfold nxR; rw [if_pos (Or.inl d1)]⟩
                  have d1b : (((i : Int) + 1) == (l0.length : Int)) = true := by rw [beq_iff_eq]; omega
                  have d1c : decide (((i : Int) + 1) = (l0.length : Int)) = true := decide_eq_true (by omega)
                  clear d1
                  go_wp2_with (first | (at_builtin; refine S_append1 k35 (w0 := w) w.heap.size rfl (.tmp 95) (.tmp 102) 29 35 (.agg #[.int .i64 0, .int .i64 0, .slice none 0 0]) 40 rfl Try.underlying29 (by kernel_rfl) rfl (by show (0 : Nat) < 3; decide) (by decide) (.slice A10 (outR l0 M i).length c10) (outR l0 M i) (⟨x.f0, 0, []⟩ : S35) [.int .i64 x.f0, .int .i64 0, .slice none 0 0] (fun _ => True) (fun _ => False) rfl rfl (blk_M (Kd.R_nil _ _ _ _ _)) (fun _ hk => hk.elim) (fun _ _ => trivial) (Kd.S_mono HS9.out (fun _ _ => ⟨trivial, fun h9 => h9⟩)) HBW.out HBW.out.size (by have := HOL.out; have := HL.out; unfold maxLen; omega) (blk_fits (by have := HOL.out; have := HL.out; omega)) ?_; intro v7 w7 ho hb hg hat; replace HO9 := Aside0.mk (Kd.R_over' HO9.out (Kd.S_typed HS9.out) (by decide) hg); replace HBW := Aside0.mk hb; rw [← HA.out] at ho; replace HS9 := Aside0.mk ho; clear ho hb hg hat hbm; obtain ⟨g9, cap9, e9, _, _, _⟩ := Kd.S_form HS9.out (Nat.lt_of_lt_of_eq (Nat.succ_pos q) HQ.out.symm); rw [HQ.out] at e9; subst e9; obtain ⟨oki, cl, hcl, hM, hcc, hok, hH⟩ := Kd.S_lend HS9.out z35 (q : Int) (by omega) (by omega); rw [Int.toNat_natCast] at hM; obtain ⟨v0, rfl, hv0⟩ := blk_parts hM; have HH := Aside0.mk hH; clear hcl hM hcc hok hH hv0; (try clear hx0 hx1 hx2 hx3); obtain ⟨ad', e1, hx0, hx1, hx2, hx3⟩ := at_I HR.out HBW.out HI.out HX.out; cases e1) | ((with_reducible refine gate_store (t := 3) (p := 116) rfl ?_); refine h_store (o' := q * 3 + 1) k35 w.heap.size rfl rfl 3 _ _ rfl 35 (q : Int) 1 _ (.int .i64 x.f0) [.int .i64 x.f0] _ (fun _ => True) oki ?had_ ?hof_ ?hx_ rfl (show (Try.prog.info? 3).map (·.size) = some 1 from by kernel_rfl) (fun q9 hq9 => (List.mem_singleton.1 hq9) ▸ rfl) HH.out (Int.natCast_nonneg q) (show (q : Int) < ((q + 1 : Nat) : Int) from Int.ofNat_lt.2 (Nat.lt_succ_self q)) (show 1 + 1 ≤ 3 by decide) HBW.out ?_; (case had_ => first | rfl | (go_simp; done) | (go_simp; rfl)); (case hof_ => first | rfl | omega); (case hx_ => first | rfl | (go_simp; done) | (go_simp; rfl)); intro w_ h1_ h2_ h3_; replace HO9 := Aside0.mk (Kd.R_over' HO9.out (h_typed HH.out) (by decide) (by have h9 := h3_; simpa [Value.ownBlock] using h9)); replace HBW := Aside0.mk h2_; replace HH := Aside0.mk h1_; clear h1_ h2_ h3_; (try clear hx0 hx1 hx2 hx3); obtain ⟨ad', e1, hx0, hx1, hx2, hx3⟩ := at_I HR.out HBW.out HI.out HX.out; cases e1) | ((with_reducible refine gate_store (t := 27) (p := 119) rfl ?_); refine h_store (o' := q * 3 + 2) k35 w.heap.size rfl rfl 27 _ _ rfl 35 (q : Int) 2 _ (.slice none 0 0) [.slice none 0 0] _ (fun _ => True) oki ?had_ ?hof_ ?hx_ rfl (show (Try.prog.info? 27).map (·.size) = some 1 from by kernel_rfl) (fun q9 hq9 => (List.mem_singleton.1 hq9) ▸ rfl) HH.out (Int.natCast_nonneg q) (show (q : Int) < ((q + 1 : Nat) : Int) from Int.ofNat_lt.2 (Nat.lt_succ_self q)) (show 2 + 1 ≤ 3 by decide) HBW.out ?_; (case had_ => first | rfl | (go_simp; done) | (go_simp; rfl)); (case hof_ => first | rfl | omega); (case hx_ => first | rfl | (go_simp; done) | (go_simp; rfl)); intro w_ h1_ h2_ h3_; replace HO9 := Aside0.mk (Kd.R_over' HO9.out (h_typed HH.out) (by decide) (by have h9 := h3_; simpa [Value.ownBlock] using h9)); replace HBW := Aside0.mk h2_; replace HH := Aside0.mk h1_; clear h1_ h2_ h3_; (try clear hx0 hx1 hx2 hx3); obtain ⟨ad', e1, hx0, hx1, hx2, hx3⟩ := at_I HR.out HBW.out HI.out HX.out; cases e1))
                  refine (provisoref05_Next.calls k x.f0 x.f1 x.f2 x.f3 (nextL x) _ HNX.out.1).mono ?_
                  rintro e w9 ⟨v136, rfl, hR9, hb⟩
                  obtain ⟨A96, c96, rfl⟩ := Kd.R_slice hR9
                  have HNP := Aside0.mk HNX.out.2.2
                  obtain ⟨nx, hnx⟩ : ∃ nx, nx = nextL x := ⟨_, rfl⟩
                  have hnl : nx.length ≤ 2 := by rw [hnx]; exact nextL_le2 x
                  have HXN := Aside0.mk hnx
                  rw [← hnx] at hR9 HNP ⊢
                  have HN : Aside0 (Kd.R (Kd.int .i64) 3 w9 w.heap.size (fun j => True ∧ some j ≠ (Value.slice none 0 0).ownBlock) (.slice A96 nx.length c96) nx) := ⟨Kd.R_apart_nil (Kd.R_lower hR9 HBW.out.size)⟩
                  replace HH := Aside0.mk (Kd.H_below HH.out hb)
                  replace HO9 := Aside0.mk (Kd.R_below HO9.out hb)
                  replace HBW := Aside0.mk (below_step HBW.out hb)
                  have HV2 : Aside0 (Kd.R (Kd.int .i64) 3 w9 w.heap.size oki (.slice none 0 0) []) := ⟨Kd.R_nil _ _ _ _ _⟩
                  clear hR9 hb hnx
                  go_wp2_with fail
                  go_loopw [138] (fun v138 wr => ∃ (j : Nat) (v2 : Value) (ns : List Int) (ok2 : Nat → Prop), v138 = .int .i64 (j : Int) ∧ j ≤ nx.length ∧ Aside0 (ns = (nx.take j).filter fun a => decide (0 ≤ placeI l0 a)) ∧ Aside0 (Below w.heap.size w wr) ∧ Aside0 (Kd.R Kd.bool 4 wr w.heap.size (fun _ => True) (.slice (some ⟨g4, 0, none⟩) l0.length c4) M) ∧ Aside0 (Kd.H k35 35 wr w.heap.size (fun _ => True) (.slice (some ⟨g9, 0, none⟩) (q + 1) cap9) o1 (q : Int) ok2 [.int .i64 (o1.getD q z35).f0, .int .i64 x.f0, v2]) ∧ Aside0 (Kd.R (Kd.int .i64) 3 wr w.heap.size ok2 v2 ns) ∧ Aside0 (Kd.R (Kd.int .i64) 3 wr w.heap.size (fun j => True ∧ some j ≠ v2.ownBlock) (.slice A96 nx.length c96) nx)) (fun v138 _ => ((nx.length : Int) - intOf v138).toNat)
                  case atStart => exact ⟨0, .slice none 0 0, [], oki, rfl, Nat.zero_le _, ⟨by simp⟩, HBW, HO9, ⟨HH.out⟩, HV2, HN⟩
                  case round =>
                    clear HBW HO9 HH HV2 HN
                    obtain ⟨j, v2, ns, ok2, rfl, hj, HNS, HBW, HO9, HH, HV2, HN⟩ := hrel
                    obtain ⟨A2, c2', e2'⟩ := Kd.R_slice HV2.out
                    subst e2'
                    by_cases d3 : j < nx.length
                    · have d3b : decide ((j : Int) < (nx.length : Int)) = true := decide_eq_true (by omega)
                      obtain ⟨ad2, em2, hc⟩ := Kd.at_int (Kd.R_reads' HN.out).2.2 (j : Int) (by omega) (by omega)
                      cases em2
                      simp only [Int.toNat_natCast] at hc
                      have q5 : (0 ≤ (j : Int)) = True := eq_true (by omega)
                      have q6 : ((j : Int) < (nx.length : Int)) = True := eq_true (by omega)
                      have HKA := Aside0.mk (HNP.out _ (rd_memI d3))
                      have HNT := Aside0.mk (filter_take (fun a => decide (0 ≤ placeI l0 a)) d3)
                      have HWJ := Aside0.mk (wrap_next (show j < 4398046511104 by omega))
                      generalize rd nx (j : Int) = a at hc HKA HNT
                      go_wp2_with fail
                      clear hc
                      refine (provisoref05_Place.calls k _ _ l0 a (placeI l0 a) _ (Kd.C_below HR.out HBW.out) HCC.out HKA.out).mono ?_
                      rintro e w10 ⟨rfl, hb⟩
                      replace HO9 := Aside0.mk (Kd.R_below HO9.out hb)
                      replace HH := Aside0.mk (Kd.H_below HH.out hb)
                      replace HV2 := Aside0.mk (Kd.R_below HV2.out hb)
                      replace HN := Aside0.mk (Kd.R_below HN.out hb)
                      replace HBW := Aside0.mk (below_step HBW.out hb)
                      clear hb
                      obtain ⟨pa, hpa⟩ : ∃ pa, pa = placeI l0 a := ⟨_, rfl⟩
                      rw [← hpa]
                      by_cases d4 : 0 ≤ pa
                      · have HNS2 : Aside0 (ns ++ [a] = (nx.take (j + 1)).filter fun a => decide (0 ≤ placeI l0 a)) := ⟨by rw [HNT.out, HNS.out, ← hpa, decide_eq_true d4]; simp⟩
                        have HNL : Aside0 (ns.length ≤ 2) := ⟨by rw [HNS.out]; exact Nat.le_trans (List.length_filter_le _ _) (by rw [List.length_take]; omega)⟩
                        have d4b : decide (pa ≥ 0) = true := decide_eq_true d4
                        have d4c : decide (0 ≤ pa) = true := decide_eq_true d4
                        obtain ⟨_, _, _, _, _, hcc, _⟩ := Kd.H_raw HH.out (Int.natCast_nonneg q) (show (q : Int) < ((q + 1 : Nat) : Int) from Int.ofNat_lt.2 (Nat.lt_succ_self q))
                        have hv : w10.cell? ⟨g9, q * 3 + 2, none⟩ = some (.slice A2 ns.length c2') := hcc 2 _ rfl
                        clear hcc hpa d4
                        go_wp2_with (first | ((with_reducible refine gate_dst (N := 152) rfl ?_); refine Kd.R_lit (Kd.int .i64) _ 3 ?hg (N := 152) ?hd (xs := ([a] : List Int)) (inner := [.int .i64 a]) (ok := fun _ => True) (okp := fun _ => True) ?hr ?hp (fun _ hk => hk) trivial HBW.out HBW.out.size (by simp) ?_; (case hd => rfl); (case hg => rfl); (case hr => first | (go_simp; done) | (go_simp; rfl)); (case hp => exact (Reps.one (show Kd.M (Kd.int .i64) _ _ _ a [.int .i64 a] from rfl) (Reps.none _ _))); intro v112 w3 ho1 hb1 hg1 _; have hbn := below_none hg1; obtain ⟨A3, c3', e3'⟩ := Kd.R_slice ho1; subst e3'; have HL1 := Aside0.mk (Kd.R_reads' ho1).2.2; replace HBW := Aside0.mk (below_step HBW.out hbn); replace HH := Aside0.mk (Kd.H_widen (Kd.H_below HH.out hbn)); replace HV2 := Aside0.mk (Kd.R_mono (Kd.R_below HV2.out hbn) (fun k hk => Or.inl hk) : Kd.R (Kd.int .i64) 3 w3 w.heap.size (fun k => ok2 k ∨ True ∧ w3.heap.size ≤ k) (.slice A2 ns.length c2') ns); replace HO9 := Aside0.mk (Kd.R_below HO9.out hbn); replace HN := Aside0.mk (Kd.R_below HN.out hbn); clear ho1 hb1 hg1 hbn hv) | (at_builtin; refine Kd.R_append_rows (Kd.int .i64) (w0 := w) w.heap.size rfl (.tmp 150) (.tmp 152) 27 3 (.int .i64 0) 8 rfl Try.underlying27 (by kernel_rfl) rfl (by decide) (by omega) _ ns [a] _ _ _ (fun k => ok2 k ∨ True ∧ w3.heap.size ≤ k) (fun _ => False) rfl rfl HV2.out HL1.out (fun _ _ h => h) (fun _ h => h.elim) (fun _ hk => Or.inr ⟨trivial, hk⟩) HBW.out HBW.out.size (by have := HNL.out; simp; omega) ?_; intro v5 w4 ho hb hg hat; replace HO9 := Aside0.mk (Kd.R_over' HO9.out (Kd.R_typed HV2.out) (by decide) hg); replace HN := Aside0.mk (Kd.R_after HN.out hg hat); replace HH := Aside0.mk (Kd.H_grown HH.out hg (fun k hk => HV2.out.1 k hk)); replace HBW := Aside0.mk hb; replace HV2 := Aside0.mk ho; clear ho hb hg hat; obtain ⟨A5, c5, e5⟩ := Kd.R_slice HV2.out; subst e5) | ((with_reducible refine gate_store (t := 27) (p := 155) rfl ?_); refine h_store (o' := q * 3 + 2) k35 w.heap.size rfl rfl 27 _ _ rfl 35 (q : Int) 2 _ (.slice A5 (ns.length + 1) c5) [.slice A5 (ns.length + 1) c5] _ (fun _ => True) _ ?had_ ?hof_ ?hx_ rfl (show (Try.prog.info? 27).map (·.size) = some 1 from by kernel_rfl) (fun q9 hq9 => (List.mem_singleton.1 hq9) ▸ rfl) HH.out (Int.natCast_nonneg q) (show (q : Int) < ((q + 1 : Nat) : Int) from Int.ofNat_lt.2 (Nat.lt_succ_self q)) (show 2 + 1 ≤ 3 by decide) HBW.out ?_; (case had_ => first | rfl | (go_simp; done) | (go_simp; rfl)); (case hof_ => first | rfl | omega); (case hx_ => first | rfl | (go_simp; done) | (go_simp; rfl)); intro w_ h1_ h2_ h3_; replace HO9 := Aside0.mk (Kd.R_over' HO9.out (h_typed HH.out) (by decide) (by have h9 := h3_; simpa [Value.ownBlock] using h9)); replace HV2 := Aside0.mk (Kd.R_over' HV2.out (h_typed HH.out) (by decide) (by have h9 := h3_; simpa [Value.ownBlock] using h9)); replace HN := Aside0.mk (Kd.R_over' HN.out (h_typed HH.out) (by decide) (by have h9 := h3_; simpa [Value.ownBlock] using h9)); replace HBW := Aside0.mk h2_; replace HH := Aside0.mk h1_; clear h1_ h2_ h3_))
                        go_roundw
                        case rel => exact ⟨j + 1, .slice A5 (ns ++ [a]).length c5, ns ++ [a], _, by have := HWJ.out; first | rfl | (simp; done), by omega, HNS2, HBW, HO9, ⟨by rw [show (ns ++ [a]).length = ns.length + 1 from by simp]; refine Eq.mp ?_ HH.out; kernel_rfl⟩, HV2, HN⟩
                        case measure => simp [intOf]; omega
                      · have HNS2 : Aside0 (ns = (nx.take (j + 1)).filter fun a => decide (0 ≤ placeI l0 a)) := ⟨by rw [HNT.out, HNS.out, ← hpa, decide_eq_false d4]; simp⟩
                        have d4b : decide (pa ≥ 0) = false := decide_eq_false d4
                        have d4c : decide (0 ≤ pa) = false := decide_eq_false d4
                        clear hpa d4
                        go_wp2
                        go_roundw
                        case rel => exact ⟨j + 1, .slice A2 ns.length c2', ns, ok2, by have := HWJ.out; first | rfl | (simp; done), by omega, HNS2, HBW, HO9, HH, HV2, HN⟩
                        case measure => simp [intOf]; omega
                    · have d3b : decide ((j : Int) < (nx.length : Int)) = false := decide_eq_false (by omega)
                      have d3c : decide (j < nx.length) = false := decide_eq_false (by omega)
                      have HNS2 : Aside0 (ns = nxR l0 M i) := ⟨by rw [HN0.out, ← HXN.out, HNS.out, List.take_of_length_le (by omega)]⟩
                      clear d3 hj
                      go_wp2_with fail
                      go_roundw
                      case rel =>
                        have h9 := Kd.H_back HH.out (x' := ⟨(o1.getD q z35).f0, x.f0, ns⟩) (okp := ok2) (blk_M HV2.out) (fun _ hk => hk)
                        rw [Int.toNat_natCast] at h9
                        exact ⟨i + 1, by have := HW.out; first | rfl | (simp; done), by omega, HBW, HO9, ⟨by rw [outR_step, ← HO1.out, HQ.out, show q + 1 - 1 = q from rfl, ← HX.out, ← HNS2.out]; exact h9⟩⟩
                      case measure => simp [intOf]; omega
                · cases hbn9 : M.getD (i + 1) false with
                  | true =>
                    have HN0 : Aside0 (nxR l0 M i = (nextL x).filter (fun a => decide (0 ≤ placeI l0 a))) := ⟨by rw [HX.out]; unfold nxR; rw [if_pos (Or.inr hbn9)]⟩
                    have HBN : Aside0 (rdOf false M ((i + 1 : Nat) : Int) = true) := ⟨by unfold rdOf; rw [Int.toNat_natCast]; exact hbn9⟩
                    have HC2 : Aside0 (i + 1 < l0.length) := ⟨by omega⟩
                    have d1b : (((i : Int) + 1) == (l0.length : Int)) = false := by rw [beq_eq_false_iff_ne]; omega
                    have d1c : decide (((i : Int) + 1) = (l0.length : Int)) = false := decide_eq_false (by omega)
                    have p7 : (0 ≤ (i : Int) + 1) = True := eq_true (by omega)
                    have p8 : ((i : Int) + 1 < (l0.length : Int)) = True := eq_true (by omega)
                    have p9 : ((i : Int) + 1).toNat = i + 1 := by omega
                    clear d1 hbn9
                    go_wp2_with (first | (at_builtin; refine S_append1 k35 (w0 := w) w.heap.size rfl (.tmp 95) (.tmp 102) 29 35 (.agg #[.int .i64 0, .int .i64 0, .slice none 0 0]) 40 rfl Try.underlying29 (by kernel_rfl) rfl (by show (0 : Nat) < 3; decide) (by decide) (.slice A10 (outR l0 M i).length c10) (outR l0 M i) (⟨x.f0, 0, []⟩ : S35) [.int .i64 x.f0, .int .i64 0, .slice none 0 0] (fun _ => True) (fun _ => False) rfl rfl (blk_M (Kd.R_nil _ _ _ _ _)) (fun _ hk => hk.elim) (fun _ _ => trivial) (Kd.S_mono HS9.out (fun _ _ => ⟨trivial, fun h9 => h9⟩)) HBW.out HBW.out.size (by have := HOL.out; have := HL.out; unfold maxLen; omega) (blk_fits (by have := HOL.out; have := HL.out; omega)) ?_; intro v7 w7 ho hb hg hat; replace HO9 := Aside0.mk (Kd.R_over' HO9.out (Kd.S_typed HS9.out) (by decide) hg); replace HBW := Aside0.mk hb; rw [← HA.out] at ho; replace HS9 := Aside0.mk ho; clear ho hb hg hat hbm; obtain ⟨g9, cap9, e9, _, _, _⟩ := Kd.S_form HS9.out (Nat.lt_of_lt_of_eq (Nat.succ_pos q) HQ.out.symm); rw [HQ.out] at e9; subst e9; obtain ⟨oki, cl, hcl, hM, hcc, hok, hH⟩ := Kd.S_lend HS9.out z35 (q : Int) (by omega) (by omega); rw [Int.toNat_natCast] at hM; obtain ⟨v0, rfl, hv0⟩ := blk_parts hM; have HH := Aside0.mk hH; clear hcl hM hcc hok hH hv0; (try clear hx0 hx1 hx2 hx3); obtain ⟨ad', e1, hx0, hx1, hx2, hx3⟩ := at_I HR.out HBW.out HI.out HX.out; cases e1) | ((with_reducible refine gate_store (t := 3) (p := 116) rfl ?_); refine h_store (o' := q * 3 + 1) k35 w.heap.size rfl rfl 3 _ _ rfl 35 (q : Int) 1 _ (.int .i64 x.f0) [.int .i64 x.f0] _ (fun _ => True) oki ?had_ ?hof_ ?hx_ rfl (show (Try.prog.info? 3).map (·.size) = some 1 from by kernel_rfl) (fun q9 hq9 => (List.mem_singleton.1 hq9) ▸ rfl) HH.out (Int.natCast_nonneg q) (show (q : Int) < ((q + 1 : Nat) : Int) from Int.ofNat_lt.2 (Nat.lt_succ_self q)) (show 1 + 1 ≤ 3 by decide) HBW.out ?_; (case had_ => first | rfl | (go_simp; done) | (go_simp; rfl)); (case hof_ => first | rfl | omega); (case hx_ => first | rfl | (go_simp; done) | (go_simp; rfl)); intro w_ h1_ h2_ h3_; replace HO9 := Aside0.mk (Kd.R_over' HO9.out (h_typed HH.out) (by decide) (by have h9 := h3_; simpa [Value.ownBlock] using h9)); replace HBW := Aside0.mk h2_; replace HH := Aside0.mk h1_; clear h1_ h2_ h3_; (try clear hx0 hx1 hx2 hx3); obtain ⟨ad', e1, hx0, hx1, hx2, hx3⟩ := at_I HR.out HBW.out HI.out HX.out; cases e1) | ((with_reducible refine gate_store (t := 27) (p := 119) rfl ?_); refine h_store (o' := q * 3 + 2) k35 w.heap.size rfl rfl 27 _ _ rfl 35 (q : Int) 2 _ (.slice none 0 0) [.slice none 0 0] _ (fun _ => True) oki ?had_ ?hof_ ?hx_ rfl (show (Try.prog.info? 27).map (·.size) = some 1 from by kernel_rfl) (fun q9 hq9 => (List.mem_singleton.1 hq9) ▸ rfl) HH.out (Int.natCast_nonneg q) (show (q : Int) < ((q + 1 : Nat) : Int) from Int.ofNat_lt.2 (Nat.lt_succ_self q)) (show 2 + 1 ≤ 3 by decide) HBW.out ?_; (case had_ => first | rfl | (go_simp; done) | (go_simp; rfl)); (case hof_ => first | rfl | omega); (case hx_ => first | rfl | (go_simp; done) | (go_simp; rfl)); intro w_ h1_ h2_ h3_; replace HO9 := Aside0.mk (Kd.R_over' HO9.out (h_typed HH.out) (by decide) (by have h9 := h3_; simpa [Value.ownBlock] using h9)); replace HBW := Aside0.mk h2_; replace HH := Aside0.mk h1_; clear h1_ h2_ h3_; (try clear hx0 hx1 hx2 hx3); obtain ⟨ad', e1, hx0, hx1, hx2, hx3⟩ := at_I HR.out HBW.out HI.out HX.out; cases e1; obtain ⟨am, em, hbn⟩ := Kd.at_bool (Kd.R_reads' HO9.out).2.2 ((i + 1 : Nat) : Int) (by omega) (by have := HML.out; have := HC2.out; omega); cases em; rw [HBN.out, Int.toNat_natCast, add0] at hbn))
                    refine (provisoref05_Next.calls k x.f0 x.f1 x.f2 x.f3 (nextL x) _ HNX.out.1).mono ?_
                    rintro e w9 ⟨v136, rfl, hR9, hb⟩
                    obtain ⟨A96, c96, rfl⟩ := Kd.R_slice hR9
                    have HNP := Aside0.mk HNX.out.2.2
                    obtain ⟨nx, hnx⟩ : ∃ nx, nx = nextL x := ⟨_, rfl⟩
                    have hnl : nx.length ≤ 2 := by rw [hnx]; exact nextL_le2 x
                    have HXN := Aside0.mk hnx
                    rw [← hnx] at hR9 HNP ⊢
                    have HN : Aside0 (Kd.R (Kd.int .i64) 3 w9 w.heap.size (fun j => True ∧ some j ≠ (Value.slice none 0 0).ownBlock) (.slice A96 nx.length c96) nx) := ⟨Kd.R_apart_nil (Kd.R_lower hR9 HBW.out.size)⟩
                    replace HH := Aside0.mk (Kd.H_below HH.out hb)
                    replace HO9 := Aside0.mk (Kd.R_below HO9.out hb)
                    replace HBW := Aside0.mk (below_step HBW.out hb)
                    have HV2 : Aside0 (Kd.R (Kd.int .i64) 3 w9 w.heap.size oki (.slice none 0 0) []) := ⟨Kd.R_nil _ _ _ _ _⟩
                    clear hR9 hb hnx
                    go_wp2_with fail
                    go_loopw [138] (fun v138 wr => ∃ (j : Nat) (v2 : Value) (ns : List Int) (ok2 : Nat → Prop), v138 = .int .i64 (j : Int) ∧ j ≤ nx.length ∧ Aside0 (ns = (nx.take j).filter fun a => decide (0 ≤ placeI l0 a)) ∧ Aside0 (Below w.heap.size w wr) ∧ Aside0 (Kd.R Kd.bool 4 wr w.heap.size (fun _ => True) (.slice (some ⟨g4, 0, none⟩) l0.length c4) M) ∧ Aside0 (Kd.H k35 35 wr w.heap.size (fun _ => True) (.slice (some ⟨g9, 0, none⟩) (q + 1) cap9) o1 (q : Int) ok2 [.int .i64 (o1.getD q z35).f0, .int .i64 x.f0, v2]) ∧ Aside0 (Kd.R (Kd.int .i64) 3 wr w.heap.size ok2 v2 ns) ∧ Aside0 (Kd.R (Kd.int .i64) 3 wr w.heap.size (fun j => True ∧ some j ≠ v2.ownBlock) (.slice A96 nx.length c96) nx)) (fun v138 _ => ((nx.length : Int) - intOf v138).toNat)
                    case atStart => exact ⟨0, .slice none 0 0, [], oki, rfl, Nat.zero_le _, ⟨by simp⟩, HBW, HO9, ⟨HH.out⟩, HV2, HN⟩
                    case round =>
                      clear HBW HO9 HH HV2 HN
                      obtain ⟨j, v2, ns, ok2, rfl, hj, HNS, HBW, HO9, HH, HV2, HN⟩ := hrel
                      obtain ⟨A2, c2', e2'⟩ := Kd.R_slice HV2.out
                      subst e2'
                      by_cases d3 : j < nx.length
                      · have d3b : decide ((j : Int) < (nx.length : Int)) = true := decide_eq_true (by omega)
                        obtain ⟨ad2, em2, hc⟩ := Kd.at_int (Kd.R_reads' HN.out).2.2 (j : Int) (by omega) (by omega)
                        cases em2
                        simp only [Int.toNat_natCast] at hc
                        have q5 : (0 ≤ (j : Int)) = True := eq_true (by omega)
                        have q6 : ((j : Int) < (nx.length : Int)) = True := eq_true (by omega)
                        have HKA := Aside0.mk (HNP.out _ (rd_memI d3))
                        have HNT := Aside0.mk (filter_take (fun a => decide (0 ≤ placeI l0 a)) d3)
                        have HWJ := Aside0.mk (wrap_next (show j < 4398046511104 by omega))
                        generalize rd nx (j : Int) = a at hc HKA HNT
                        go_wp2_with fail
                        clear hc
                        refine (provisoref05_Place.calls k _ _ l0 a (placeI l0 a) _ (Kd.C_below HR.out HBW.out) HCC.out HKA.out).mono ?_
                        rintro e w10 ⟨rfl, hb⟩
                        replace HO9 := Aside0.mk (Kd.R_below HO9.out hb)
                        replace HH := Aside0.mk (Kd.H_below HH.out hb)
                        replace HV2 := Aside0.mk (Kd.R_below HV2.out hb)
                        replace HN := Aside0.mk (Kd.R_below HN.out hb)
                        replace HBW := Aside0.mk (below_step HBW.out hb)
                        clear hb
                        obtain ⟨pa, hpa⟩ : ∃ pa, pa = placeI l0 a := ⟨_, rfl⟩
                        rw [← hpa]
                        by_cases d4 : 0 ≤ pa
                        · have HNS2 : Aside0 (ns ++ [a] = (nx.take (j + 1)).filter fun a => decide (0 ≤ placeI l0 a)) := ⟨by rw [HNT.out, HNS.out, ← hpa, decide_eq_true d4]; simp⟩
                          have HNL : Aside0 (ns.length ≤ 2) := ⟨by rw [HNS.out]; exact Nat.le_trans (List.length_filter_le _ _) (by rw [List.length_take]; omega)⟩
                          have d4b : decide (pa ≥ 0) = true := decide_eq_true d4
                          have d4c : decide (0 ≤ pa) = true := decide_eq_true d4
                          obtain ⟨_, _, _, _, _, hcc, _⟩ := Kd.H_raw HH.out (Int.natCast_nonneg q) (show (q : Int) < ((q + 1 : Nat) : Int) from Int.ofNat_lt.2 (Nat.lt_succ_self q))
                          have hv : w10.cell? ⟨g9, q * 3 + 2, none⟩ = some (.slice A2 ns.length c2') := hcc 2 _ rfl
                          clear hcc hpa d4
                          go_wp2_with (first | ((with_reducible refine gate_dst (N := 152) rfl ?_); refine Kd.R_lit (Kd.int .i64) _ 3 ?hg (N := 152) ?hd (xs := ([a] : List Int)) (inner := [.int .i64 a]) (ok := fun _ => True) (okp := fun _ => True) ?hr ?hp (fun _ hk => hk) trivial HBW.out HBW.out.size (by simp) ?_; (case hd => rfl); (case hg => rfl); (case hr => first | (go_simp; done) | (go_simp; rfl)); (case hp => exact (Reps.one (show Kd.M (Kd.int .i64) _ _ _ a [.int .i64 a] from rfl) (Reps.none _ _))); intro v112 w3 ho1 hb1 hg1 _; have hbn := below_none hg1; obtain ⟨A3, c3', e3'⟩ := Kd.R_slice ho1; subst e3'; have HL1 := Aside0.mk (Kd.R_reads' ho1).2.2; replace HBW := Aside0.mk (below_step HBW.out hbn); replace HH := Aside0.mk (Kd.H_widen (Kd.H_below HH.out hbn)); replace HV2 := Aside0.mk (Kd.R_mono (Kd.R_below HV2.out hbn) (fun k hk => Or.inl hk) : Kd.R (Kd.int .i64) 3 w3 w.heap.size (fun k => ok2 k ∨ True ∧ w3.heap.size ≤ k) (.slice A2 ns.length c2') ns); replace HO9 := Aside0.mk (Kd.R_below HO9.out hbn); replace HN := Aside0.mk (Kd.R_below HN.out hbn); clear ho1 hb1 hg1 hbn hv) | (at_builtin; refine Kd.R_append_rows (Kd.int .i64) (w0 := w) w.heap.size rfl (.tmp 150) (.tmp 152) 27 3 (.int .i64 0) 8 rfl Try.underlying27 (by kernel_rfl) rfl (by decide) (by omega) _ ns [a] _ _ _ (fun k => ok2 k ∨ True ∧ w3.heap.size ≤ k) (fun _ => False) rfl rfl HV2.out HL1.out (fun _ _ h => h) (fun _ h => h.elim) (fun _ hk => Or.inr ⟨trivial, hk⟩) HBW.out HBW.out.size (by have := HNL.out; simp; omega) ?_; intro v5 w4 ho hb hg hat; replace HO9 := Aside0.mk (Kd.R_over' HO9.out (Kd.R_typed HV2.out) (by decide) hg); replace HN := Aside0.mk (Kd.R_after HN.out hg hat); replace HH := Aside0.mk (Kd.H_grown HH.out hg (fun k hk => HV2.out.1 k hk)); replace HBW := Aside0.mk hb; replace HV2 := Aside0.mk ho; clear ho hb hg hat; obtain ⟨A5, c5, e5⟩ := Kd.R_slice HV2.out; subst e5) | ((with_reducible refine gate_store (t := 27) (p := 155) rfl ?_); refine h_store (o' := q * 3 + 2) k35 w.heap.size rfl rfl 27 _ _ rfl 35 (q : Int) 2 _ (.slice A5 (ns.length + 1) c5) [.slice A5 (ns.length + 1) c5] _ (fun _ => True) _ ?had_ ?hof_ ?hx_ rfl (show (Try.prog.info? 27).map (·.size) = some 1 from by kernel_rfl) (fun q9 hq9 => (List.mem_singleton.1 hq9) ▸ rfl) HH.out (Int.natCast_nonneg q) (show (q : Int) < ((q + 1 : Nat) : Int) from Int.ofNat_lt.2 (Nat.lt_succ_self q)) (show 2 + 1 ≤ 3 by decide) HBW.out ?_; (case had_ => first | rfl | (go_simp; done) | (go_simp; rfl)); (case hof_ => first | rfl | omega); (case hx_ => first | rfl | (go_simp; done) | (go_simp; rfl)); intro w_ h1_ h2_ h3_; replace HO9 := Aside0.mk (Kd.R_over' HO9.out (h_typed HH.out) (by decide) (by have h9 := h3_; simpa [Value.ownBlock] using h9)); replace HV2 := Aside0.mk (Kd.R_over' HV2.out (h_typed HH.out) (by decide) (by have h9 := h3_; simpa [Value.ownBlock] using h9)); replace HN := Aside0.mk (Kd.R_over' HN.out (h_typed HH.out) (by decide) (by have h9 := h3_; simpa [Value.ownBlock] using h9)); replace HBW := Aside0.mk h2_; replace HH := Aside0.mk h1_; clear h1_ h2_ h3_))
                          go_roundw
                          case rel => exact ⟨j + 1, .slice A5 (ns ++ [a]).length c5, ns ++ [a], _, by have := HWJ.out; first | rfl | (simp; done), by omega, HNS2, HBW, HO9, ⟨by rw [show (ns ++ [a]).length = ns.length + 1 from by simp]; refine Eq.mp ?_ HH.out; kernel_rfl⟩, HV2, HN⟩
                          case measure => simp [intOf]; omega
                        · have HNS2 : Aside0 (ns = (nx.take (j + 1)).filter fun a => decide (0 ≤ placeI l0 a)) := ⟨by rw [HNT.out, HNS.out, ← hpa, decide_eq_false d4]; simp⟩
                          have d4b : decide (pa ≥ 0) = false := decide_eq_false d4
                          have d4c : decide (0 ≤ pa) = false := decide_eq_false d4
                          clear hpa d4
                          go_wp2
                          go_roundw
                          case rel => exact ⟨j + 1, .slice A2 ns.length c2', ns, ok2, by have := HWJ.out; first | rfl | (simp; done), by omega, HNS2, HBW, HO9, HH, HV2, HN⟩
                          case measure => simp [intOf]; omega
                      · have d3b : decide ((j : Int) < (nx.length : Int)) = false := decide_eq_false (by omega)
                        have d3c : decide (j < nx.length) = false := decide_eq_false (by omega)
                        have HNS2 : Aside0 (ns = nxR l0 M i) := ⟨by rw [HN0.out, ← HXN.out, HNS.out, List.take_of_length_le (by omega)]⟩
                        clear d3 hj
                        go_wp2_with fail
                        go_roundw
                        case rel =>
                          have h9 := Kd.H_back HH.out (x' := ⟨(o1.getD q z35).f0, x.f0, ns⟩) (okp := ok2) (blk_M HV2.out) (fun _ hk => hk)
                          rw [Int.toNat_natCast] at h9
                          exact ⟨i + 1, by have := HW.out; first | rfl | (simp; done), by omega, HBW, HO9, ⟨by rw [outR_step, ← HO1.out, HQ.out, show q + 1 - 1 = q from rfl, ← HX.out, ← HNS2.out]; exact h9⟩⟩
                        case measure => simp [intOf]; omega
                  | false =>
                    have HN0 : Aside0 (nxR l0 M i = []) := ⟨by unfold nxR; rw [if_neg (by rintro (h9 | h9); exact d1 h9; rw [h9] at hbn9; cases hbn9)]⟩
                    have HBN : Aside0 (rdOf false M ((i + 1 : Nat) : Int) = false) := ⟨by unfold rdOf; rw [Int.toNat_natCast]; exact hbn9⟩
                    have d1b : (((i : Int) + 1) == (l0.length : Int)) = false := by rw [beq_eq_false_iff_ne]; omega
                    have d1c : decide (((i : Int) + 1) = (l0.length : Int)) = false := decide_eq_false (by omega)
                    have p7 : (0 ≤ (i : Int) + 1) = True := eq_true (by omega)
                    have p8 : ((i : Int) + 1 < (l0.length : Int)) = True := eq_true (by omega)
                    have p9 : ((i : Int) + 1).toNat = i + 1 := by omega
                    have HD1 := Aside0.mk d1
                    clear d1 hbn9
                    go_wp2_with (first | (at_builtin; refine S_append1 k35 (w0 := w) w.heap.size rfl (.tmp 95) (.tmp 102) 29 35 (.agg #[.int .i64 0, .int .i64 0, .slice none 0 0]) 40 rfl Try.underlying29 (by kernel_rfl) rfl (by show (0 : Nat) < 3; decide) (by decide) (.slice A10 (outR l0 M i).length c10) (outR l0 M i) (⟨x.f0, 0, []⟩ : S35) [.int .i64 x.f0, .int .i64 0, .slice none 0 0] (fun _ => True) (fun _ => False) rfl rfl (blk_M (Kd.R_nil _ _ _ _ _)) (fun _ hk => hk.elim) (fun _ _ => trivial) (Kd.S_mono HS9.out (fun _ _ => ⟨trivial, fun h9 => h9⟩)) HBW.out HBW.out.size (by have := HOL.out; have := HL.out; unfold maxLen; omega) (blk_fits (by have := HOL.out; have := HL.out; omega)) ?_; intro v7 w7 ho hb hg hat; replace HO9 := Aside0.mk (Kd.R_over' HO9.out (Kd.S_typed HS9.out) (by decide) hg); replace HBW := Aside0.mk hb; rw [← HA.out] at ho; replace HS9 := Aside0.mk ho; clear ho hb hg hat hbm; obtain ⟨g9, cap9, e9, _, _, _⟩ := Kd.S_form HS9.out (Nat.lt_of_lt_of_eq (Nat.succ_pos q) HQ.out.symm); rw [HQ.out] at e9; subst e9; obtain ⟨oki, cl, hcl, hM, hcc, hok, hH⟩ := Kd.S_lend HS9.out z35 (q : Int) (by omega) (by omega); rw [Int.toNat_natCast] at hM; obtain ⟨v0, rfl, hv0⟩ := blk_parts hM; have HH := Aside0.mk hH; clear hcl hM hcc hok hH hv0; (try clear hx0 hx1 hx2 hx3); obtain ⟨ad', e1, hx0, hx1, hx2, hx3⟩ := at_I HR.out HBW.out HI.out HX.out; cases e1) | ((with_reducible refine gate_store (t := 3) (p := 116) rfl ?_); refine h_store (o' := q * 3 + 1) k35 w.heap.size rfl rfl 3 _ _ rfl 35 (q : Int) 1 _ (.int .i64 x.f0) [.int .i64 x.f0] _ (fun _ => True) oki ?had_ ?hof_ ?hx_ rfl (show (Try.prog.info? 3).map (·.size) = some 1 from by kernel_rfl) (fun q9 hq9 => (List.mem_singleton.1 hq9) ▸ rfl) HH.out (Int.natCast_nonneg q) (show (q : Int) < ((q + 1 : Nat) : Int) from Int.ofNat_lt.2 (Nat.lt_succ_self q)) (show 1 + 1 ≤ 3 by decide) HBW.out ?_; (case had_ => first | rfl | (go_simp; done) | (go_simp; rfl)); (case hof_ => first | rfl | omega); (case hx_ => first | rfl | (go_simp; done) | (go_simp; rfl)); intro w_ h1_ h2_ h3_; replace HO9 := Aside0.mk (Kd.R_over' HO9.out (h_typed HH.out) (by decide) (by have h9 := h3_; simpa [Value.ownBlock] using h9)); replace HBW := Aside0.mk h2_; replace HH := Aside0.mk h1_; clear h1_ h2_ h3_; (try clear hx0 hx1 hx2 hx3); obtain ⟨ad', e1, hx0, hx1, hx2, hx3⟩ := at_I HR.out HBW.out HI.out HX.out; cases e1) | ((with_reducible refine gate_store (t := 27) (p := 119) rfl ?_); refine h_store (o' := q * 3 + 2) k35 w.heap.size rfl rfl 27 _ _ rfl 35 (q : Int) 2 _ (.slice none 0 0) [.slice none 0 0] _ (fun _ => True) oki ?had_ ?hof_ ?hx_ rfl (show (Try.prog.info? 27).map (·.size) = some 1 from by kernel_rfl) (fun q9 hq9 => (List.mem_singleton.1 hq9) ▸ rfl) HH.out (Int.natCast_nonneg q) (show (q : Int) < ((q + 1 : Nat) : Int) from Int.ofNat_lt.2 (Nat.lt_succ_self q)) (show 2 + 1 ≤ 3 by decide) HBW.out ?_; (case had_ => first | rfl | (go_simp; done) | (go_simp; rfl)); (case hof_ => first | rfl | omega); (case hx_ => first | rfl | (go_simp; done) | (go_simp; rfl)); intro w_ h1_ h2_ h3_; replace HO9 := Aside0.mk (Kd.R_over' HO9.out (h_typed HH.out) (by decide) (by have h9 := h3_; simpa [Value.ownBlock] using h9)); replace HBW := Aside0.mk h2_; replace HH := Aside0.mk h1_; clear h1_ h2_ h3_; (try clear hx0 hx1 hx2 hx3); obtain ⟨ad', e1, hx0, hx1, hx2, hx3⟩ := at_I HR.out HBW.out HI.out HX.out; cases e1; obtain ⟨am, em, hbn⟩ := Kd.at_bool (Kd.R_reads' HO9.out).2.2 ((i + 1 : Nat) : Int) (by omega) (by have := HML.out; have := HD1.out; omega); cases em; rw [HBN.out, Int.toNat_natCast, add0] at hbn))
                    go_roundw
                    case rel =>
                      have h9 := Kd.H_back HH.out (x' := ⟨(o1.getD q z35).f0, x.f0, []⟩) (okp := fun _ => False) (blk_M (Kd.R_nil _ _ _ _ _)) (fun _ hk => hk.elim)
                      rw [Int.toNat_natCast] at h9
                      exact ⟨i + 1, by have := HW.out; first | rfl | (simp; done), by omega, HBW, HO9, ⟨by rw [outR_step, ← HO1.out, HQ.out, show q + 1 - 1 = q from rfl, ← HX.out, HN0.out]; exact h9⟩⟩
                    case measure => simp [intOf]; omega
              | false =>
                have ho9 : o1 = outR l0 M i := by rw [HO1.out]; unfold addR; rw [hm]; rfl
                rw [hm] at hbm
                rw [← ho9] at HS9 ⊢
                have hq9 := HQ.out
                rw [hq9] at HS9 ⊢
                clear hm ho9 hq9
                obtain ⟨g9, cap9, e9, _, _, _⟩ := Kd.S_form HS9.out (Nat.lt_of_lt_of_eq (Nat.succ_pos q) HQ.out.symm)
                rw [HQ.out] at e9
                injection e9 with e91 e92 e93
                subst e91
                have e94 := e93.symm
                subst e94
                obtain ⟨oki, cl, hcl, hM, hcc, hok, hH⟩ := Kd.S_lend HS9.out z35 (q : Int) (by omega) (by omega)
                rw [Int.toNat_natCast] at hM
                obtain ⟨v0, rfl, hv0⟩ := blk_parts hM
                have HH := Aside0.mk hH
                clear hcl hM hcc hok hH hv0
                by_cases d1 : i + 1 = l0.length
                · 
                  have HN0 : Aside0 (nxR l0 M i = (nextL x).filter (fun a => decide (0 ≤ placeI l0 a))) := ⟨by rw [HX.out]; unfold nxR; rw [if_pos (Or.inl d1)]⟩
                  have d1b : (((i : Int) + 1) == (l0.length : Int)) = true := by rw [beq_iff_eq]; omega
                  have d1c : decide (((i : Int) + 1) = (l0.length : Int)) = true := decide_eq_true (by omega)
                  clear d1
                  go_wp2_with (first | ((with_reducible refine gate_store (t := 3) (p := 116) rfl ?_); refine h_store (o' := q * 3 + 1) k35 w.heap.size rfl rfl 3 _ _ rfl 35 (q : Int) 1 _ (.int .i64 x.f0) [.int .i64 x.f0] _ (fun _ => True) oki ?had_ ?hof_ ?hx_ rfl (show (Try.prog.info? 3).map (·.size) = some 1 from by kernel_rfl) (fun q9 hq9 => (List.mem_singleton.1 hq9) ▸ rfl) HH.out (Int.natCast_nonneg q) (show (q : Int) < ((q + 1 : Nat) : Int) from Int.ofNat_lt.2 (Nat.lt_succ_self q)) (show 1 + 1 ≤ 3 by decide) HBW.out ?_; (case had_ => first | rfl | (go_simp; done) | (go_simp; rfl)); (case hof_ => first | rfl | omega); (case hx_ => first | rfl | (go_simp; done) | (go_simp; rfl)); intro w_ h1_ h2_ h3_; replace HO9 := Aside0.mk (Kd.R_over' HO9.out (h_typed HH.out) (by decide) (by have h9 := h3_; simpa [Value.ownBlock] using h9)); replace HBW := Aside0.mk h2_; replace HH := Aside0.mk h1_; clear h1_ h2_ h3_; (try clear hx0 hx1 hx2 hx3); obtain ⟨ad', e1, hx0, hx1, hx2, hx3⟩ := at_I HR.out HBW.out HI.out HX.out; cases e1) | ((with_reducible refine gate_store (t := 27) (p := 119) rfl ?_); refine h_store (o' := q * 3 + 2) k35 w.heap.size rfl rfl 27 _ _ rfl 35 (q : Int) 2 _ (.slice none 0 0) [.slice none 0 0] _ (fun _ => True) oki ?had_ ?hof_ ?hx_ rfl (show (Try.prog.info? 27).map (·.size) = some 1 from by kernel_rfl) (fun q9 hq9 => (List.mem_singleton.1 hq9) ▸ rfl) HH.out (Int.natCast_nonneg q) (show (q : Int) < ((q + 1 : Nat) : Int) from Int.ofNat_lt.2 (Nat.lt_succ_self q)) (show 2 + 1 ≤ 3 by decide) HBW.out ?_; (case had_ => first | rfl | (go_simp; done) | (go_simp; rfl)); (case hof_ => first | rfl | omega); (case hx_ => first | rfl | (go_simp; done) | (go_simp; rfl)); intro w_ h1_ h2_ h3_; replace HO9 := Aside0.mk (Kd.R_over' HO9.out (h_typed HH.out) (by decide) (by have h9 := h3_; simpa [Value.ownBlock] using h9)); replace HBW := Aside0.mk h2_; replace HH := Aside0.mk h1_; clear h1_ h2_ h3_; (try clear hx0 hx1 hx2 hx3); obtain ⟨ad', e1, hx0, hx1, hx2, hx3⟩ := at_I HR.out HBW.out HI.out HX.out; cases e1))
                  refine (provisoref05_Next.calls k x.f0 x.f1 x.f2 x.f3 (nextL x) _ HNX.out.1).mono ?_
                  rintro e w9 ⟨v136, rfl, hR9, hb⟩
                  obtain ⟨A96, c96, rfl⟩ := Kd.R_slice hR9
                  have HNP := Aside0.mk HNX.out.2.2
                  obtain ⟨nx, hnx⟩ : ∃ nx, nx = nextL x := ⟨_, rfl⟩
                  have hnl : nx.length ≤ 2 := by rw [hnx]; exact nextL_le2 x
                  have HXN := Aside0.mk hnx
                  rw [← hnx] at hR9 HNP ⊢
                  have HN : Aside0 (Kd.R (Kd.int .i64) 3 w9 w.heap.size (fun j => True ∧ some j ≠ (Value.slice none 0 0).ownBlock) (.slice A96 nx.length c96) nx) := ⟨Kd.R_apart_nil (Kd.R_lower hR9 HBW.out.size)⟩
                  replace HH := Aside0.mk (Kd.H_below HH.out hb)
                  replace HO9 := Aside0.mk (Kd.R_below HO9.out hb)
                  replace HBW := Aside0.mk (below_step HBW.out hb)
                  have HV2 : Aside0 (Kd.R (Kd.int .i64) 3 w9 w.heap.size oki (.slice none 0 0) []) := ⟨Kd.R_nil _ _ _ _ _⟩
                  clear hR9 hb hnx
                  go_wp2_with fail
                  go_loopw [138] (fun v138 wr => ∃ (j : Nat) (v2 : Value) (ns : List Int) (ok2 : Nat → Prop), v138 = .int .i64 (j : Int) ∧ j ≤ nx.length ∧ Aside0 (ns = (nx.take j).filter fun a => decide (0 ≤ placeI l0 a)) ∧ Aside0 (Below w.heap.size w wr) ∧ Aside0 (Kd.R Kd.bool 4 wr w.heap.size (fun _ => True) (.slice (some ⟨g4, 0, none⟩) l0.length c4) M) ∧ Aside0 (Kd.H k35 35 wr w.heap.size (fun _ => True) (.slice (some ⟨g9, 0, none⟩) (q + 1) cap9) o1 (q : Int) ok2 [.int .i64 (o1.getD q z35).f0, .int .i64 x.f0, v2]) ∧ Aside0 (Kd.R (Kd.int .i64) 3 wr w.heap.size ok2 v2 ns) ∧ Aside0 (Kd.R (Kd.int .i64) 3 wr w.heap.size (fun j => True ∧ some j ≠ v2.ownBlock) (.slice A96 nx.length c96) nx)) (fun v138 _ => ((nx.length : Int) - intOf v138).toNat)
                  case atStart => exact ⟨0, .slice none 0 0, [], oki, rfl, Nat.zero_le _, ⟨by simp⟩, HBW, HO9, ⟨HH.out⟩, HV2, HN⟩
                  case round =>
                    clear HBW HO9 HH HV2 HN
                    obtain ⟨j, v2, ns, ok2, rfl, hj, HNS, HBW, HO9, HH, HV2, HN⟩ := hrel
                    obtain ⟨A2, c2', e2'⟩ := Kd.R_slice HV2.out
                    subst e2'
                    by_cases d3 : j < nx.length
                    · have d3b : decide ((j : Int) < (nx.length : Int)) = true := decide_eq_true (by omega)
                      obtain ⟨ad2, em2, hc⟩ := Kd.at_int (Kd.R_reads' HN.out).2.2 (j : Int) (by omega) (by omega)
                      cases em2
                      simp only [Int.toNat_natCast] at hc
                      have q5 : (0 ≤ (j : Int)) = True := eq_true (by omega)
                      have q6 : ((j : Int) < (nx.length : Int)) = True := eq_true (by omega)
                      have HKA := Aside0.mk (HNP.out _ (rd_memI d3))
                      have HNT := Aside0.mk (filter_take (fun a => decide (0 ≤ placeI l0 a)) d3)
                      have HWJ := Aside0.mk (wrap_next (show j < 4398046511104 by omega))
                      generalize rd nx (j : Int) = a at hc HKA HNT
                      go_wp2_with fail
                      clear hc
                      refine (provisoref05_Place.calls k _ _ l0 a (placeI l0 a) _ (Kd.C_below HR.out HBW.out) HCC.out HKA.out).mono ?_
                      rintro e w10 ⟨rfl, hb⟩
                      replace HO9 := Aside0.mk (Kd.R_below HO9.out hb)
                      replace HH := Aside0.mk (Kd.H_below HH.out hb)
                      replace HV2 := Aside0.mk (Kd.R_below HV2.out hb)
                      replace HN := Aside0.mk (Kd.R_below HN.out hb)
                      replace HBW := Aside0.mk (below_step HBW.out hb)
                      clear hb
                      obtain ⟨pa, hpa⟩ : ∃ pa, pa = placeI l0 a := ⟨_, rfl⟩
                      rw [← hpa]
                      by_cases d4 : 0 ≤ pa
                      · have HNS2 : Aside0 (ns ++ [a] = (nx.take (j + 1)).filter fun a => decide (0 ≤ placeI l0 a)) := ⟨by rw [HNT.out, HNS.out, ← hpa, decide_eq_true d4]; simp⟩
                        have HNL : Aside0 (ns.length ≤ 2) := ⟨by rw [HNS.out]; exact Nat.le_trans (List.length_filter_le _ _) (by rw [List.length_take]; omega)⟩
                        have d4b : decide (pa ≥ 0) = true := decide_eq_true d4
                        have d4c : decide (0 ≤ pa) = true := decide_eq_true d4
                        obtain ⟨_, _, _, _, _, hcc, _⟩ := Kd.H_raw HH.out (Int.natCast_nonneg q) (show (q : Int) < ((q + 1 : Nat) : Int) from Int.ofNat_lt.2 (Nat.lt_succ_self q))
                        have hv : w10.cell? ⟨g9, q * 3 + 2, none⟩ = some (.slice A2 ns.length c2') := hcc 2 _ rfl
                        clear hcc hpa d4
                        go_wp2_with (first | ((with_reducible refine gate_dst (N := 152) rfl ?_); refine Kd.R_lit (Kd.int .i64) _ 3 ?hg (N := 152) ?hd (xs := ([a] : List Int)) (inner := [.int .i64 a]) (ok := fun _ => True) (okp := fun _ => True) ?hr ?hp (fun _ hk => hk) trivial HBW.out HBW.out.size (by simp) ?_; (case hd => rfl); (case hg => rfl); (case hr => first | (go_simp; done) | (go_simp; rfl)); (case hp => exact (Reps.one (show Kd.M (Kd.int .i64) _ _ _ a [.int .i64 a] from rfl) (Reps.none _ _))); intro v112 w3 ho1 hb1 hg1 _; have hbn := below_none hg1; obtain ⟨A3, c3', e3'⟩ := Kd.R_slice ho1; subst e3'; have HL1 := Aside0.mk (Kd.R_reads' ho1).2.2; replace HBW := Aside0.mk (below_step HBW.out hbn); replace HH := Aside0.mk (Kd.H_widen (Kd.H_below HH.out hbn)); replace HV2 := Aside0.mk (Kd.R_mono (Kd.R_below HV2.out hbn) (fun k hk => Or.inl hk) : Kd.R (Kd.int .i64) 3 w3 w.heap.size (fun k => ok2 k ∨ True ∧ w3.heap.size ≤ k) (.slice A2 ns.length c2') ns); replace HO9 := Aside0.mk (Kd.R_below HO9.out hbn); replace HN := Aside0.mk (Kd.R_below HN.out hbn); clear ho1 hb1 hg1 hbn hv) | (at_builtin; refine Kd.R_append_rows (Kd.int .i64) (w0 := w) w.heap.size rfl (.tmp 150) (.tmp 152) 27 3 (.int .i64 0) 8 rfl Try.underlying27 (by kernel_rfl) rfl (by decide) (by omega) _ ns [a] _ _ _ (fun k => ok2 k ∨ True ∧ w3.heap.size ≤ k) (fun _ => False) rfl rfl HV2.out HL1.out (fun _ _ h => h) (fun _ h => h.elim) (fun _ hk => Or.inr ⟨trivial, hk⟩) HBW.out HBW.out.size (by have := HNL.out; simp; omega) ?_; intro v5 w4 ho hb hg hat; replace HO9 := Aside0.mk (Kd.R_over' HO9.out (Kd.R_typed HV2.out) (by decide) hg); replace HN := Aside0.mk (Kd.R_after HN.out hg hat); replace HH := Aside0.mk (Kd.H_grown HH.out hg (fun k hk => HV2.out.1 k hk)); replace HBW := Aside0.mk hb; replace HV2 := Aside0.mk ho; clear ho hb hg hat; obtain ⟨A5, c5, e5⟩ := Kd.R_slice HV2.out; subst e5) | ((with_reducible refine gate_store (t := 27) (p := 155) rfl ?_); refine h_store (o' := q * 3 + 2) k35 w.heap.size rfl rfl 27 _ _ rfl 35 (q : Int) 2 _ (.slice A5 (ns.length + 1) c5) [.slice A5 (ns.length + 1) c5] _ (fun _ => True) _ ?had_ ?hof_ ?hx_ rfl (show (Try.prog.info? 27).map (·.size) = some 1 from by kernel_rfl) (fun q9 hq9 => (List.mem_singleton.1 hq9) ▸ rfl) HH.out (Int.natCast_nonneg q) (show (q : Int) < ((q + 1 : Nat) : Int) from Int.ofNat_lt.2 (Nat.lt_succ_self q)) (show 2 + 1 ≤ 3 by decide) HBW.out ?_; (case had_ => first | rfl | (go_simp; done) | (go_simp; rfl)); (case hof_ => first | rfl | omega); (case hx_ => first | rfl | (go_simp; done) | (go_simp; rfl)); intro w_ h1_ h2_ h3_; replace HO9 := Aside0.mk (Kd.R_over' HO9.out (h_typed HH.out) (by decide) (by have h9 := h3_; simpa [Value.ownBlock] using h9)); replace HV2 := Aside0.mk (Kd.R_over' HV2.out (h_typed HH.out) (by decide) (by have h9 := h3_; simpa [Value.ownBlock] using h9)); replace HN := Aside0.mk (Kd.R_over' HN.out (h_typed HH.out) (by decide) (by have h9 := h3_; simpa [Value.ownBlock] using h9)); replace HBW := Aside0.mk h2_; replace HH := Aside0.mk h1_; clear h1_ h2_ h3_))
                        go_roundw
                        case rel => exact ⟨j + 1, .slice A5 (ns ++ [a]).length c5, ns ++ [a], _, by have := HWJ.out; first | rfl | (simp; done), by omega, HNS2, HBW, HO9, ⟨by rw [show (ns ++ [a]).length = ns.length + 1 from by simp]; refine Eq.mp ?_ HH.out; kernel_rfl⟩, HV2, HN⟩
                        case measure => simp [intOf]; omega
                      · have HNS2 : Aside0 (ns = (nx.take (j + 1)).filter fun a => decide (0 ≤ placeI l0 a)) := ⟨by rw [HNT.out, HNS.out, ← hpa, decide_eq_false d4]; simp⟩
                        have d4b : decide (pa ≥ 0) = false := decide_eq_false d4
                        have d4c : decide (0 ≤ pa) = false := decide_eq_false d4
                        clear hpa d4
                        go_wp2
                        go_roundw
                        case rel => exact ⟨j + 1, .slice A2 ns.length c2', ns, ok2, by have := HWJ.out; first | rfl | (simp; done), by omega, HNS2, HBW, HO9, HH, HV2, HN⟩
                        case measure => simp [intOf]; omega
                    · have d3b : decide ((j : Int) < (nx.length : Int)) = false := decide_eq_false (by omega)
                      have d3c : decide (j < nx.length) = false := decide_eq_false (by omega)
                      have HNS2 : Aside0 (ns = nxR l0 M i) := ⟨by rw [HN0.out, ← HXN.out, HNS.out, List.take_of_length_le (by omega)]⟩
                      clear d3 hj
                      go_wp2_with fail
                      go_roundw
                      case rel =>
                        have h9 := Kd.H_back HH.out (x' := ⟨(o1.getD q z35).f0, x.f0, ns⟩) (okp := ok2) (blk_M HV2.out) (fun _ hk => hk)
                        rw [Int.toNat_natCast] at h9
                        exact ⟨i + 1, by have := HW.out; first | rfl | (simp; done), by omega, HBW, HO9, ⟨by rw [outR_step, ← HO1.out, HQ.out, show q + 1 - 1 = q from rfl, ← HX.out, ← HNS2.out]; exact h9⟩⟩
                      case measure => simp [intOf]; omega
                · cases hbn9 : M.getD (i + 1) false with
                  | true =>
                    have HN0 : Aside0 (nxR l0 M i = (nextL x).filter (fun a => decide (0 ≤ placeI l0 a))) := ⟨by rw [HX.out]; unfold nxR; rw [if_pos (Or.inr hbn9)]⟩
                    have HBN : Aside0 (rdOf false M ((i + 1 : Nat) : Int) = true) := ⟨by unfold rdOf; rw [Int.toNat_natCast]; exact hbn9⟩
                    have HC2 : Aside0 (i + 1 < l0.length) := ⟨by omega⟩
                    have d1b : (((i : Int) + 1) == (l0.length : Int)) = false := by rw [beq_eq_false_iff_ne]; omega
                    have d1c : decide (((i : Int) + 1) = (l0.length : Int)) = false := decide_eq_false (by omega)
                    have p7 : (0 ≤ (i : Int) + 1) = True := eq_true (by omega)
                    have p8 : ((i : Int) + 1 < (l0.length : Int)) = True := eq_true (by omega)
                    have p9 : ((i : Int) + 1).toNat = i + 1 := by omega
                    clear d1 hbn9
                    go_wp2_with (first | ((with_reducible refine gate_store (t := 3) (p := 116) rfl ?_); refine h_store (o' := q * 3 + 1) k35 w.heap.size rfl rfl 3 _ _ rfl 35 (q : Int) 1 _ (.int .i64 x.f0) [.int .i64 x.f0] _ (fun _ => True) oki ?had_ ?hof_ ?hx_ rfl (show (Try.prog.info? 3).map (·.size) = some 1 from by kernel_rfl) (fun q9 hq9 => (List.mem_singleton.1 hq9) ▸ rfl) HH.out (Int.natCast_nonneg q) (show (q : Int) < ((q + 1 : Nat) : Int) from Int.ofNat_lt.2 (Nat.lt_succ_self q)) (show 1 + 1 ≤ 3 by decide) HBW.out ?_; (case had_ => first | rfl | (go_simp; done) | (go_simp; rfl)); (case hof_ => first | rfl | omega); (case hx_ => first | rfl | (go_simp; done) | (go_simp; rfl)); intro w_ h1_ h2_ h3_; replace HO9 := Aside0.mk (Kd.R_over' HO9.out (h_typed HH.out) (by decide) (by have h9 := h3_; simpa [Value.ownBlock] using h9)); replace HBW := Aside0.mk h2_; replace HH := Aside0.mk h1_; clear h1_ h2_ h3_; (try clear hx0 hx1 hx2 hx3); obtain ⟨ad', e1, hx0, hx1, hx2, hx3⟩ := at_I HR.out HBW.out HI.out HX.out; cases e1) | ((with_reducible refine gate_store (t := 27) (p := 119) rfl ?_); refine h_store (o' := q * 3 + 2) k35 w.heap.size rfl rfl 27 _ _ rfl 35 (q : Int) 2 _ (.slice none 0 0) [.slice none 0 0] _ (fun _ => True) oki ?had_ ?hof_ ?hx_ rfl (show (Try.prog.info? 27).map (·.size) = some 1 from by kernel_rfl) (fun q9 hq9 => (List.mem_singleton.1 hq9) ▸ rfl) HH.out (Int.natCast_nonneg q) (show (q : Int) < ((q + 1 : Nat) : Int) from Int.ofNat_lt.2 (Nat.lt_succ_self q)) (show 2 + 1 ≤ 3 by decide) HBW.out ?_; (case had_ => first | rfl | (go_simp; done) | (go_simp; rfl)); (case hof_ => first | rfl | omega); (case hx_ => first | rfl | (go_simp; done) | (go_simp; rfl)); intro w_ h1_ h2_ h3_; replace HO9 := Aside0.mk (Kd.R_over' HO9.out (h_typed HH.out) (by decide) (by have h9 := h3_; simpa [Value.ownBlock] using h9)); replace HBW := Aside0.mk h2_; replace HH := Aside0.mk h1_; clear h1_ h2_ h3_; (try clear hx0 hx1 hx2 hx3); obtain ⟨ad', e1, hx0, hx1, hx2, hx3⟩ := at_I HR.out HBW.out HI.out HX.out; cases e1; obtain ⟨am, em, hbn⟩ := Kd.at_bool (Kd.R_reads' HO9.out).2.2 ((i + 1 : Nat) : Int) (by omega) (by have := HML.out; have := HC2.out; omega); cases em; rw [HBN.out, Int.toNat_natCast, add0] at hbn))
                    refine (provisoref05_Next.calls k x.f0 x.f1 x.f2 x.f3 (nextL x) _ HNX.out.1).mono ?_
                    rintro e w9 ⟨v136, rfl, hR9, hb⟩
                    obtain ⟨A96, c96, rfl⟩ := Kd.R_slice hR9
                    have HNP := Aside0.mk HNX.out.2.2
                    obtain ⟨nx, hnx⟩ : ∃ nx, nx = nextL x := ⟨_, rfl⟩
                    have hnl : nx.length ≤ 2 := by rw [hnx]; exact nextL_le2 x
                    have HXN := Aside0.mk hnx
                    rw [← hnx] at hR9 HNP ⊢
                    have HN : Aside0 (Kd.R (Kd.int .i64) 3 w9 w.heap.size (fun j => True ∧ some j ≠ (Value.slice none 0 0).ownBlock) (.slice A96 nx.length c96) nx) := ⟨Kd.R_apart_nil (Kd.R_lower hR9 HBW.out.size)⟩
                    replace HH := Aside0.mk (Kd.H_below HH.out hb)
                    replace HO9 := Aside0.mk (Kd.R_below HO9.out hb)
                    replace HBW := Aside0.mk (below_step HBW.out hb)
                    have HV2 : Aside0 (Kd.R (Kd.int .i64) 3 w9 w.heap.size oki (.slice none 0 0) []) := ⟨Kd.R_nil _ _ _ _ _⟩
                    clear hR9 hb hnx
                    go_wp2_with fail
                    go_loopw [138] (fun v138 wr => ∃ (j : Nat) (v2 : Value) (ns : List Int) (ok2 : Nat → Prop), v138 = .int .i64 (j : Int) ∧ j ≤ nx.length ∧ Aside0 (ns = (nx.take j).filter fun a => decide (0 ≤ placeI l0 a)) ∧ Aside0 (Below w.heap.size w wr) ∧ Aside0 (Kd.R Kd.bool 4 wr w.heap.size (fun _ => True) (.slice (some ⟨g4, 0, none⟩) l0.length c4) M) ∧ Aside0 (Kd.H k35 35 wr w.heap.size (fun _ => True) (.slice (some ⟨g9, 0, none⟩) (q + 1) cap9) o1 (q : Int) ok2 [.int .i64 (o1.getD q z35).f0, .int .i64 x.f0, v2]) ∧ Aside0 (Kd.R (Kd.int .i64) 3 wr w.heap.size ok2 v2 ns) ∧ Aside0 (Kd.R (Kd.int .i64) 3 wr w.heap.size (fun j => True ∧ some j ≠ v2.ownBlock) (.slice A96 nx.length c96) nx)) (fun v138 _ => ((nx.length : Int) - intOf v138).toNat)
                    case atStart => exact ⟨0, .slice none 0 0, [], oki, rfl, Nat.zero_le _, ⟨by simp⟩, HBW, HO9, ⟨HH.out⟩, HV2, HN⟩
                    case round =>
                      clear HBW HO9 HH HV2 HN
                      obtain ⟨j, v2, ns, ok2, rfl, hj, HNS, HBW, HO9, HH, HV2, HN⟩ := hrel
                      obtain ⟨A2, c2', e2'⟩ := Kd.R_slice HV2.out
                      subst e2'
                      by_cases d3 : j < nx.length
                      · have d3b : decide ((j : Int) < (nx.length : Int)) = true := decide_eq_true (by omega)
                        obtain ⟨ad2, em2, hc⟩ := Kd.at_int (Kd.R_reads' HN.out).2.2 (j : Int) (by omega) (by omega)
                        cases em2
                        simp only [Int.toNat_natCast] at hc
                        have q5 : (0 ≤ (j : Int)) = True := eq_true (by omega)
                        have q6 : ((j : Int) < (nx.length : Int)) = True := eq_true (by omega)
                        have HKA := Aside0.mk (HNP.out _ (rd_memI d3))
                        have HNT := Aside0.mk (filter_take (fun a => decide (0 ≤ placeI l0 a)) d3)
                        have HWJ := Aside0.mk (wrap_next (show j < 4398046511104 by omega))
                        generalize rd nx (j : Int) = a at hc HKA HNT
                        go_wp2_with fail
                        clear hc
                        refine (provisoref05_Place.calls k _ _ l0 a (placeI l0 a) _ (Kd.C_below HR.out HBW.out) HCC.out HKA.out).mono ?_
                        rintro e w10 ⟨rfl, hb⟩
                        replace HO9 := Aside0.mk (Kd.R_below HO9.out hb)
                        replace HH := Aside0.mk (Kd.H_below HH.out hb)
                        replace HV2 := Aside0.mk (Kd.R_below HV2.out hb)
                        replace HN := Aside0.mk (Kd.R_below HN.out hb)
                        replace HBW := Aside0.mk (below_step HBW.out hb)
                        clear hb
                        obtain ⟨pa, hpa⟩ : ∃ pa, pa = placeI l0 a := ⟨_, rfl⟩
                        rw [← hpa]
                        by_cases d4 : 0 ≤ pa
                        · have HNS2 : Aside0 (ns ++ [a] = (nx.take (j + 1)).filter fun a => decide (0 ≤ placeI l0 a)) := ⟨by rw [HNT.out, HNS.out, ← hpa, decide_eq_true d4]; simp⟩
                          have HNL : Aside0 (ns.length ≤ 2) := ⟨by rw [HNS.out]; exact Nat.le_trans (List.length_filter_le _ _) (by rw [List.length_take]; omega)⟩
                          have d4b : decide (pa ≥ 0) = true := decide_eq_true d4
                          have d4c : decide (0 ≤ pa) = true := decide_eq_true d4
                          obtain ⟨_, _, _, _, _, hcc, _⟩ := Kd.H_raw HH.out (Int.natCast_nonneg q) (show (q : Int) < ((q + 1 : Nat) : Int) from Int.ofNat_lt.2 (Nat.lt_succ_self q))
                          have hv : w10.cell? ⟨g9, q * 3 + 2, none⟩ = some (.slice A2 ns.length c2') := hcc 2 _ rfl
                          clear hcc hpa d4
                          go_wp2_with (first | ((with_reducible refine gate_dst (N := 152) rfl ?_); refine Kd.R_lit (Kd.int .i64) _ 3 ?hg (N := 152) ?hd (xs := ([a] : List Int)) (inner := [.int .i64 a]) (ok := fun _ => True) (okp := fun _ => True) ?hr ?hp (fun _ hk => hk) trivial HBW.out HBW.out.size (by simp) ?_; (case hd => rfl); (case hg => rfl); (case hr => first | (go_simp; done) | (go_simp; rfl)); (case hp => exact (Reps.one (show Kd.M (Kd.int .i64) _ _ _ a [.int .i64 a] from rfl) (Reps.none _ _))); intro v112 w3 ho1 hb1 hg1 _; have hbn := below_none hg1; obtain ⟨A3, c3', e3'⟩ := Kd.R_slice ho1; subst e3'; have HL1 := Aside0.mk (Kd.R_reads' ho1).2.2; replace HBW := Aside0.mk (below_step HBW.out hbn); replace HH := Aside0.mk (Kd.H_widen (Kd.H_below HH.out hbn)); replace HV2 := Aside0.mk (Kd.R_mono (Kd.R_below HV2.out hbn) (fun k hk => Or.inl hk) : Kd.R (Kd.int .i64) 3 w3 w.heap.size (fun k => ok2 k ∨ True ∧ w3.heap.size ≤ k) (.slice A2 ns.length c2') ns); replace HO9 := Aside0.mk (Kd.R_below HO9.out hbn); replace HN := Aside0.mk (Kd.R_below HN.out hbn); clear ho1 hb1 hg1 hbn hv) | (at_builtin; refine Kd.R_append_rows (Kd.int .i64) (w0 := w) w.heap.size rfl (.tmp 150) (.tmp 152) 27 3 (.int .i64 0) 8 rfl Try.underlying27 (by kernel_rfl) rfl (by decide) (by omega) _ ns [a] _ _ _ (fun k => ok2 k ∨ True ∧ w3.heap.size ≤ k) (fun _ => False) rfl rfl HV2.out HL1.out (fun _ _ h => h) (fun _ h => h.elim) (fun _ hk => Or.inr ⟨trivial, hk⟩) HBW.out HBW.out.size (by have := HNL.out; simp; omega) ?_; intro v5 w4 ho hb hg hat; replace HO9 := Aside0.mk (Kd.R_over' HO9.out (Kd.R_typed HV2.out) (by decide) hg); replace HN := Aside0.mk (Kd.R_after HN.out hg hat); replace HH := Aside0.mk (Kd.H_grown HH.out hg (fun k hk => HV2.out.1 k hk)); replace HBW := Aside0.mk hb; replace HV2 := Aside0.mk ho; clear ho hb hg hat; obtain ⟨A5, c5, e5⟩ := Kd.R_slice HV2.out; subst e5) | ((with_reducible refine gate_store (t := 27) (p := 155) rfl ?_); refine h_store (o' := q * 3 + 2) k35 w.heap.size rfl rfl 27 _ _ rfl 35 (q : Int) 2 _ (.slice A5 (ns.length + 1) c5) [.slice A5 (ns.length + 1) c5] _ (fun _ => True) _ ?had_ ?hof_ ?hx_ rfl (show (Try.prog.info? 27).map (·.size) = some 1 from by kernel_rfl) (fun q9 hq9 => (List.mem_singleton.1 hq9) ▸ rfl) HH.out (Int.natCast_nonneg q) (show (q : Int) < ((q + 1 : Nat) : Int) from Int.ofNat_lt.2 (Nat.lt_succ_self q)) (show 2 + 1 ≤ 3 by decide) HBW.out ?_; (case had_ => first | rfl | (go_simp; done) | (go_simp; rfl)); (case hof_ => first | rfl | omega); (case hx_ => first | rfl | (go_simp; done) | (go_simp; rfl)); intro w_ h1_ h2_ h3_; replace HO9 := Aside0.mk (Kd.R_over' HO9.out (h_typed HH.out) (by decide) (by have h9 := h3_; simpa [Value.ownBlock] using h9)); replace HV2 := Aside0.mk (Kd.R_over' HV2.out (h_typed HH.out) (by decide) (by have h9 := h3_; simpa [Value.ownBlock] using h9)); replace HN := Aside0.mk (Kd.R_over' HN.out (h_typed HH.out) (by decide) (by have h9 := h3_; simpa [Value.ownBlock] using h9)); replace HBW := Aside0.mk h2_; replace HH := Aside0.mk h1_; clear h1_ h2_ h3_))
                          go_roundw
                          case rel => exact ⟨j + 1, .slice A5 (ns ++ [a]).length c5, ns ++ [a], _, by have := HWJ.out; first | rfl | (simp; done), by omega, HNS2, HBW, HO9, ⟨by rw [show (ns ++ [a]).length = ns.length + 1 from by simp]; refine Eq.mp ?_ HH.out; kernel_rfl⟩, HV2, HN⟩
                          case measure => simp [intOf]; omega
                        · have HNS2 : Aside0 (ns = (nx.take (j + 1)).filter fun a => decide (0 ≤ placeI l0 a)) := ⟨by rw [HNT.out, HNS.out, ← hpa, decide_eq_false d4]; simp⟩
                          have d4b : decide (pa ≥ 0) = false := decide_eq_false d4
                          have d4c : decide (0 ≤ pa) = false := decide_eq_false d4
                          clear hpa d4
                          go_wp2
                          go_roundw
                          case rel => exact ⟨j + 1, .slice A2 ns.length c2', ns, ok2, by have := HWJ.out; first | rfl | (simp; done), by omega, HNS2, HBW, HO9, HH, HV2, HN⟩
                          case measure => simp [intOf]; omega
                      · have d3b : decide ((j : Int) < (nx.length : Int)) = false := decide_eq_false (by omega)
                        have d3c : decide (j < nx.length) = false := decide_eq_false (by omega)
                        have HNS2 : Aside0 (ns = nxR l0 M i) := ⟨by rw [HN0.out, ← HXN.out, HNS.out, List.take_of_length_le (by omega)]⟩
                        clear d3 hj
                        go_wp2_with fail
                        go_roundw
                        case rel =>
                          have h9 := Kd.H_back HH.out (x' := ⟨(o1.getD q z35).f0, x.f0, ns⟩) (okp := ok2) (blk_M HV2.out) (fun _ hk => hk)
                          rw [Int.toNat_natCast] at h9
                          exact ⟨i + 1, by have := HW.out; first | rfl | (simp; done), by omega, HBW, HO9, ⟨by rw [outR_step, ← HO1.out, HQ.out, show q + 1 - 1 = q from rfl, ← HX.out, ← HNS2.out]; exact h9⟩⟩
                        case measure => simp [intOf]; omega
                  | false =>
                    have HN0 : Aside0 (nxR l0 M i = []) := ⟨by unfold nxR; rw [if_neg (by rintro (h9 | h9); exact d1 h9; rw [h9] at hbn9; cases hbn9)]⟩
                    have HBN : Aside0 (rdOf false M ((i + 1 : Nat) : Int) = false) := ⟨by unfold rdOf; rw [Int.toNat_natCast]; exact hbn9⟩
                    have d1b : (((i : Int) + 1) == (l0.length : Int)) = false := by rw [beq_eq_false_iff_ne]; omega
                    have d1c : decide (((i : Int) + 1) = (l0.length : Int)) = false := decide_eq_false (by omega)
                    have p7 : (0 ≤ (i : Int) + 1) = True := eq_true (by omega)
                    have p8 : ((i : Int) + 1 < (l0.length : Int)) = True := eq_true (by omega)
                    have p9 : ((i : Int) + 1).toNat = i + 1 := by omega
                    have HD1 := Aside0.mk d1
                    clear d1 hbn9
                    go_wp2_with (first | ((with_reducible refine gate_store (t := 3) (p := 116) rfl ?_); refine h_store (o' := q * 3 + 1) k35 w.heap.size rfl rfl 3 _ _ rfl 35 (q : Int) 1 _ (.int .i64 x.f0) [.int .i64 x.f0] _ (fun _ => True) oki ?had_ ?hof_ ?hx_ rfl (show (Try.prog.info? 3).map (·.size) = some 1 from by kernel_rfl) (fun q9 hq9 => (List.mem_singleton.1 hq9) ▸ rfl) HH.out (Int.natCast_nonneg q) (show (q : Int) < ((q + 1 : Nat) : Int) from Int.ofNat_lt.2 (Nat.lt_succ_self q)) (show 1 + 1 ≤ 3 by decide) HBW.out ?_; (case had_ => first | rfl | (go_simp; done) | (go_simp; rfl)); (case hof_ => first | rfl | omega); (case hx_ => first | rfl | (go_simp; done) | (go_simp; rfl)); intro w_ h1_ h2_ h3_; replace HO9 := Aside0.mk (Kd.R_over' HO9.out (h_typed HH.out) (by decide) (by have h9 := h3_; simpa [Value.ownBlock] using h9)); replace HBW := Aside0.mk h2_; replace HH := Aside0.mk h1_; clear h1_ h2_ h3_; (try clear hx0 hx1 hx2 hx3); obtain ⟨ad', e1, hx0, hx1, hx2, hx3⟩ := at_I HR.out HBW.out HI.out HX.out; cases e1) | ((with_reducible refine gate_store (t := 27) (p := 119) rfl ?_); refine h_store (o' := q * 3 + 2) k35 w.heap.size rfl rfl 27 _ _ rfl 35 (q : Int) 2 _ (.slice none 0 0) [.slice none 0 0] _ (fun _ => True) oki ?had_ ?hof_ ?hx_ rfl (show (Try.prog.info? 27).map (·.size) = some 1 from by kernel_rfl) (fun q9 hq9 => (List.mem_singleton.1 hq9) ▸ rfl) HH.out (Int.natCast_nonneg q) (show (q : Int) < ((q + 1 : Nat) : Int) from Int.ofNat_lt.2 (Nat.lt_succ_self q)) (show 2 + 1 ≤ 3 by decide) HBW.out ?_; (case had_ => first | rfl | (go_simp; done) | (go_simp; rfl)); (case hof_ => first | rfl | omega); (case hx_ => first | rfl | (go_simp; done) | (go_simp; rfl)); intro w_ h1_ h2_ h3_; replace HO9 := Aside0.mk (Kd.R_over' HO9.out (h_typed HH.out) (by decide) (by have h9 := h3_; simpa [Value.ownBlock] using h9)); replace HBW := Aside0.mk h2_; replace HH := Aside0.mk h1_; clear h1_ h2_ h3_; (try clear hx0 hx1 hx2 hx3); obtain ⟨ad', e1, hx0, hx1, hx2, hx3⟩ := at_I HR.out HBW.out HI.out HX.out; cases e1; obtain ⟨am, em, hbn⟩ := Kd.at_bool (Kd.R_reads' HO9.out).2.2 ((i + 1 : Nat) : Int) (by omega) (by have := HML.out; have := HD1.out; omega); cases em; rw [HBN.out, Int.toNat_natCast, add0] at hbn))
                    go_roundw
                    case rel =>
                      have h9 := Kd.H_back HH.out (x' := ⟨(o1.getD q z35).f0, x.f0, []⟩) (okp := fun _ => False) (blk_M (Kd.R_nil _ _ _ _ _)) (fun _ hk => hk.elim)
                      rw [Int.toNat_natCast] at h9
                      exact ⟨i + 1, by have := HW.out; first | rfl | (simp; done), by omega, HBW, HO9, ⟨by rw [outR_step, ← HO1.out, HQ.out, show q + 1 - 1 = q from rfl, ← HX.out, HN0.out]; exact h9⟩⟩
                    case measure => simp [intOf]; omega
            · have c1b : decide ((i : Int) < (l0.length : Int)) = false := decide_eq_false (by omega)
              have c1c : decide (i < l0.length) = false := decide_eq_false (by omega)
              have h10 := HS9.out
              rw [show i = l0.length by omega] at h10
              have HS10 := Aside0.mk h10
              clear h10
              clear c1 hi HS9
              go_wp2
              go_ret
              exact ⟨_, rfl, by rw [HV.out]; exact HS10.out, HBW.out⟩

end Go.Proofs.Ytcffniaieegbgaa.P

end

section
namespace Go.Proofs.Ytcffniaieegbgaa.P
open Go.RowKit Go.Proofs.YtcffniaieegbgaaW.PrintWords Go.Proofs.YtcffniaieegbgaaW.PrintLast Go.Proofs.YtcffniaieegbgaaW.PrintMore
attribute [local go_sem] max2_int min2_int max_two min_two max_three min_three max_four min_four   -- for this text's walks alone
set_option linter.unusedVariables false
set_option linter.unusedSimpArgs false

mutual
def provisolaw05_FlowAhead.j0 : Nat → List (S46) → Bool → Option (Bool)
  | 0, _, _ => none
  | k + 1, x3, x28 => if x28 = true then ((flow_Order.f k ([] : List (S35))).bind fun t227 => (some ((t227.length : Int) == 0))) else ((provisoref05_Blocks.f k x3).bind fun t230 => ((provisoref05_Blocks.f k x3).bind fun t233 => ((flow_Order.f k t233).bind fun t236 => (if (t236.length : Int) = (t230.length : Int) then (if 0 < (t236.length : Int) then (provisolaw05_FlowAhead.j1 k x3 t230 t236 ((rd t236 0) != 0)) else (none)) else (provisolaw05_FlowAhead.j1 k x3 t230 t236 true)))))
def provisolaw05_FlowAhead.j1 : Nat → List (S46) → List (S35) → List Int → Bool → Option (Bool)
  | 0, _, _, _, _ => none
  | k + 1, x3, x6, x7, x47 => if x47 = true then (some false) else (if 0 ≤ (x6.length : Int) then (if ((x6.length : Int) : Int).toNat ≤ 35184372088832 then ((some (List.replicate ((x6.length : Int) : Int).toNat 0 : List Int)).bind fun y240 => (provisolaw05_FlowAhead.l0 k x3 x6 x7 y240 (y240.length : Int) 0)) else (none)) else (none))
def provisolaw05_FlowAhead.l0 : Nat → List (S46) → List (S35) → List Int → List Int → Int → Int → Option (Bool)
  | 0, _, _, _, _, _, _ => none
  | k + 1, x3, x6, x7, x8, x52, x53 => if x53 < x52 then ((slices_Index_int_int.f k x7 x53).bind fun t243 => (if 0 ≤ x53 then (if x53 < (x8.length : Int) then ((some (x8.set (x53 : Int).toNat t243 : List Int)).bind fun y244 => (if (rd y244 x53) < 0 then (some false) else (provisolaw05_FlowAhead.l0 k x3 x6 x7 y244 x52 (wrap64 (x53 + 1))))) else (none)) else (none))) else ((provisolaw05_ring.f k x6).bind fun t246 => (if t246 = true then (some true) else ((provisoref05_Reach.f k x3 0).bind fun t247 => (provisolaw05_FlowAhead.l1 k x6 x8 t247 x6 (x6.length : Int) 0))))
def provisolaw05_FlowAhead.l1 : Nat → List (S35) → List Int → List Int → List (S35) → Int → Int → Option (Bool)
  | 0, _, _, _, _, _, _ => none
  | k + 1, x6, x8, x10, x72, x73, x74 => if x74 < x73 then (if 0 ≤ x74 then (if x74 < (x72.length : Int) then (provisolaw05_FlowAhead.l2 k x6 x8 x10 x74 x72 x73 x74 ((rd_T35 x72 x74).f2) (((rd_T35 x72 x74).f2).length : Int) 0 ((rd_T35 x72 x74).f0) ((rd_T35 x72 x74).f1) ((rd_T35 x72 x74).f2)) else (none)) else (none)) else (some true)
def provisolaw05_FlowAhead.l2 : Nat → List (S35) → List Int → List Int → Int → List (S35) → Int → Int → List Int → Int → Int → Int → Int → List Int → Option (Bool)
  | 0, _, _, _, _, _, _, _, _, _, _, _, _, _ => none
  | k + 1, x6, x8, x10, x11, x72, x73, x74, x80, x81, x82, x252000, x252001, x252002 => if x82 < x81 then (if 0 ≤ x82 then (if x82 < (x80.length : Int) then ((provisolaw05_from.f k x6 (rd x80 x82)).bind fun t253 => ((slices_Contains_int_int.f k x10 x252000).bind fun t254 => (if t254 = true then (if t253 ≥ 0 then (if 0 ≤ t253 then (if t253 < (x8.length : Int) then (if 0 ≤ x11 then (if x11 < (x8.length : Int) then (if (rd x8 t253) < (rd x8 x11) then (some false) else (provisolaw05_FlowAhead.l2 k x6 x8 x10 x11 x72 x73 x74 x80 x81 (wrap64 (x82 + 1)) x252000 x252001 x252002)) else (none)) else (none)) else (none)) else (none)) else (provisolaw05_FlowAhead.l2 k x6 x8 x10 x11 x72 x73 x74 x80 x81 (wrap64 (x82 + 1)) x252000 x252001 x252002)) else (provisolaw05_FlowAhead.l2 k x6 x8 x10 x11 x72 x73 x74 x80 x81 (wrap64 (x82 + 1)) x252000 x252001 x252002)))) else (none)) else (none)) else (provisolaw05_FlowAhead.l1 k x6 x8 x10 x72 x73 (wrap64 (x74 + 1)))
end
def provisolaw05_FlowAhead.f (k : Nat) (l0 : List Int) : Option (Bool) := (provisoref05_Scan.f k l0).bind fun bt222 => (if bt222.2.2 = 0 then (provisolaw05_FlowAhead.j0 k bt222.1 ((bt222.1.length : Int) == 0)) else (provisolaw05_FlowAhead.j0 k bt222.1 true))
end Go.Proofs.Ytcffniaieegbgaa.P
end

