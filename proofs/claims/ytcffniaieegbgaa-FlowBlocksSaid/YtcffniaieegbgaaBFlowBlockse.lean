/- Proved: the law FlowBlocks holds for every input that the row lets in. No condition of ours. -/
import Derived.Test.YtcffniaieegbgaaBFlowBlocksd
import Derived.Test.YtcffniaieegbgaaRows
import Derived.ShutString
import Derived.ChangeOld
import Derived.Lib.SmallJoins
section
namespace Go.Proofs.Ytcffniaieegbgaa.P
open Go.RowKit Go.Proofs.YtcffniaieegbgaaW.PrintWords Go.Proofs.YtcffniaieegbgaaW.PrintLast Go.Proofs.YtcffniaieegbgaaW.PrintMore
attribute [local go_sem] max2_int min2_int max_two min_two max_three min_three max_four min_four   -- for this text's walks alone
set_option linter.unusedVariables false
set_option linter.unusedSimpArgs false

set_option maxHeartbeats 6400000 in
set_option maxRecDepth 100000 in
theorem provisoref05_Blocks.calls (k : Nat) (A0 : Option Addr) (c0 : Nat) (l0 : List S46) (r : List S35) (w : World) (hr0 : Kd.C k46 w A0 l0.length l0) (hc0 : l0.length ≤ c0) (h : provisoref05_Blocks.f k l0 = some r) :
    Calls Try.prog 15 #[.slice A0 l0.length c0] w fun e w' => ∃ v0_ : Value, e = .returned (v0_) ∧ Kd.S k35 35 w' w.heap.size (fun _ => True) v0_ r ∧ Below w.heap.size w w' := by
  unfold provisoref05_Blocks.f at h
  by_cases hok : l0.length < 4398046511104 ∧ okR k l0 = true
  case neg => rw [if_neg hok] at h; cases h
  rw [if_pos hok] at h
  have HR := Aside0.mk hr0
  have HCC := Aside0.mk hc0
  have HL := Aside0.mk hok.1
  have HOK := Aside0.mk hok.2
  have hlen : l0.length < 4398046511104 := hok.1
  have HRES := Aside0.mk h
  clear hr0 hc0 hok h
  go_enter Try.func15, Try.ntmps15
  go_wp2
  go_loopw [17] (fun v17 wr => ∃ i : Nat, v17 = .int .i64 (i : Int) ∧ i ≤ l0.length ∧ Aside0 (riseTo l0 i = true) ∧ Aside0 (Below w.heap.size w wr)) (fun v17 _ => ((l0.length : Int) - intOf v17).toNat)
  case atStart => exact ⟨0, rfl, Nat.zero_le _, ⟨rfl⟩, ⟨Below.refl _ _⟩⟩
  case round =>
    obtain ⟨i, rfl, hi, HT, HBW⟩ := hrel
    by_cases c1 : i < l0.length
    · obtain ⟨x, hx⟩ : ∃ x, x = rd_T46 l0 (i : Int) := ⟨_, rfl⟩
      obtain ⟨ad, e1, hx0, hx1, hx2, hx3⟩ := at_I HR.out HBW.out c1 hx
      cases e1
      have c1b : decide ((i : Int) < (l0.length : Int)) = true := decide_eq_true (by omega)
      have p5 : (0 ≤ (i : Int)) = True := eq_true (by omega)
      have p6 : ((i : Int) < (l0.length : Int)) = True := eq_true (by omega)
      have HW := Aside0.mk (wrap_next (show i < 4398046511104 by omega))
      by_cases c2 : 0 < i
      · obtain ⟨q, hq⟩ : ∃ q, q = i - 1 := ⟨_, rfl⟩
        have hw1 : (IntKind.i64.wrap ((i : Int) - 1)) = (q : Int) := (i64_w _).trans (by unfold wrap64; omega)
        obtain ⟨y, hy⟩ : ∃ y, y = rd_T46 l0 (q : Int) := ⟨_, rfl⟩
        obtain ⟨ad', e1, hy0, hy1, hy2, hy3⟩ := at_I HR.out HBW.out (show q < l0.length by omega) hy
        cases e1
        have c2b : decide ((i : Int) > 0) = true := decide_eq_true (by omega)
        have c2c : decide (0 < (i : Int)) = true := decide_eq_true (by omega)
        have c2d : decide (0 < i) = true := decide_eq_true c2
        have p7 : (0 ≤ (q : Int)) = True := eq_true (by omega)
        have p8 : ((q : Int) < (l0.length : Int)) = True := eq_true (by omega)
        clear hx1 hx2 hx3 hy1 hy2 hy3
        have HRT : Aside0 (riseTo l0 (i + 1) = !decide (x.f0 ≤ y.f0)) := ⟨by rw [riseTo, HT.out, decide_eq_true c2, ← hx, ← hq, ← hy]; simp⟩
        have HI : Aside0 (i < l0.length) := ⟨c1⟩
        clear hx hy c2 hq
        by_cases c3 : x.f0 ≤ y.f0
        · have c3b : decide (x.f0 ≤ y.f0) = true := decide_eq_true c3
          have HV : Aside0 (r = []) := ⟨by
            have h1 : riseTo l0 (i + 1) = false := by rw [HRT.out, c3b]; rfl
            have h2 := riseTo_no h1 (l0.length - (i + 1))
            have := HI.out
            rw [show i + 1 + (l0.length - (i + 1)) = l0.length by omega] at h2
            have h3 := HRES.out
            rw [h2, if_neg (by decide)] at h3
            exact (Option.some.inj h3).symm⟩
          clear c3
          go_wp2
          repeat (go_quiet (fail); try go_wp2)
          go_ret
          exact ⟨_, rfl, by rw [HV.out]; exact Kd.S_nil _ _ _ _ _, by first | exact HBW.out | exact pw_below_drewN HBW.out _⟩
        · have c3b : decide (x.f0 ≤ y.f0) = false := decide_eq_false c3
          have HT2 : Aside0 (riseTo l0 (i + 1) = true) := ⟨by rw [HRT.out, c3b]; rfl⟩
          clear c3
          go_wp2
          repeat (go_quiet (fail); try go_wp2)
          go_roundw
          case rel => exact ⟨i + 1, by have := HW.out; first | rfl | (simp; done), by omega, HT2, ⟨by first | exact HBW.out | exact pw_below_drewN HBW.out _ | exact below_drew HBW.out⟩⟩
          case measure => simp [intOf]; omega
      · obtain rfl : i = 0 := by omega
        have HT2 : Aside0 (riseTo l0 (0 + 1) = true) := ⟨rfl⟩
        clear hx0 hx1 hx2 hx3 hx c2
        have c2b : decide (((0 : Nat) : Int) > 0) = false := by decide
        have c2c : decide (0 < ((0 : Nat) : Int)) = false := by decide
        go_wp2
        repeat (go_quiet (fail); try go_wp2)
        go_roundw
        case rel => exact ⟨0 + 1, by have := HW.out; first | rfl | (simp; done), by omega, HT2, ⟨by first | exact HBW.out | exact pw_below_drewN HBW.out _ | exact below_drew HBW.out⟩⟩
        case measure => simp [intOf]; omega
    · have c1b : decide ((i : Int) < (l0.length : Int)) = false := decide_eq_false (by omega)
      have c1c : decide (i < l0.length) = false := decide_eq_false (by omega)
      have HV : Aside0 (r = outR l0 (markR l0 l0.length) l0.length) := ⟨by
        have h3 := HRES.out
        have h4 := HT.out
        rw [show i = l0.length by omega] at h4
        rw [if_pos h4] at h3
        exact (Option.some.inj h3).symm⟩
      clear HRES HT c1 hi
      go_wp2_with (first | ((with_reducible refine gate_dst (N := 39) rfl ?_); refine Kd.R_make Kd.bool _ 4 rfl (N := 39) rfl 71 _ _ rfl (l0.length : Int) rfl rfl Try.underlying71 (.bool false) 1 (by kernel_rfl) rfl (by decide) (by omega) false (ok := fun _ => True) (okp := fun _ => True) rfl (fun _ hk => hk) trivial (by omega) (by omega) (Below.refl _ _) (Nat.le_refl _) ?_; intro v39 w7 ho8 hb hg_ hnew_; clear hg_ hnew_; replace HO := Aside0.mk (Kd.R_lower ho8 (below_size HBW.out)); replace HBW := Aside0.mk (below_step HBW.out hb); clear ho8 hb))
      replace HO : Aside0 (Kd.R Kd.bool 4 _ w.heap.size (fun _ => True) v39 (markR l0 0)) := ⟨by have h9 := HO.out; rw [Int.toNat_natCast] at h9; exact h9⟩
      go_loopw [42] (fun v42 wr => ∃ i : Nat, v42 = .int .i64 (i : Int) ∧ i ≤ l0.length ∧ Aside0 (Below w.heap.size w wr) ∧ Aside0 (Kd.R Kd.bool 4 wr w.heap.size (fun _ => True) v39 (markR l0 i))) (fun v42 _ => ((l0.length : Int) - intOf v42).toNat)
      case atStart => exact ⟨0, rfl, Nat.zero_le _, HBW, HO⟩
      case round =>
        clear HBW HO
        obtain ⟨i, rfl, hi, HBW, HO⟩ := hrel
        by_cases c1 : i < l0.length
        · obtain ⟨x, hx⟩ : ∃ x, x = rd_T46 l0 (i : Int) := ⟨_, rfl⟩
          obtain ⟨ad, e1, hx0, hx1, hx2, hx3⟩ := at_I HR.out HBW.out c1 hx
          cases e1
          obtain ⟨g4, c4, e4, _, _, _⟩ := Kd.R_form HO.out (by rw [markR_len]; omega)
          rw [markR_len] at e4
          subst e4
          have HX := Aside0.mk hx
          have HI : Aside0 (i < l0.length) := ⟨c1⟩
          have HMS := Aside0.mk (markR_step hx)
          have c1b : decide ((i : Int) < (l0.length : Int)) = true := decide_eq_true (by omega)
          have p5 : (0 ≤ (i : Int)) = True := eq_true (by omega)
          have p6 : ((i : Int) < (l0.length : Int)) = True := eq_true (by omega)
          have HW := Aside0.mk (wrap_next (show i < 4398046511104 by omega))
          have HRW : Aside0 (Rws w [] wr) := ⟨⟨fun _ h => by simp at h, by simp, HBW.out⟩⟩
          have HPL := Aside0.mk (okR_at HOK.out c1).2.1
          rw [← hx] at HPL
          have HPT : Aside0 (0 ≤ placeI l0 x.f2 → placeI l0 x.f2 < (l0.length : Int)) := ⟨placeI_lt⟩
          generalize placeI l0 x.f2 = pl at HPL HMS HPT
          clear hx HBW
          by_cases d0 : i = 0
          · have d0b : ((i : Int) == 0) = true := by rw [beq_iff_eq]; omega
            have d0c : decide ((i : Int) = 0) = true := decide_eq_true (by omega)
            have d0d : decide (i = 0) = true := decide_eq_true d0
            have HD := Aside0.mk d0
            clear d0
            go_wp2_with (first | ((with_reducible refine gate_dst (N := 6) rfl ?_); refine rw_alloc rfl 46 rfl (cs := #[.int .i64 0, .int .u8 0, .int .i64 0, .int .i64 0]) (by kernel_rfl) HRW.out ?_; intro b6 w_ hg9 hX hb9; replace HO := Aside0.mk (Kd.R_below (Kd.R_elderB HO.out b6 (by omega)) hb9); replace HRW := Aside0.mk hX; clear hX hg9 hb9) | ((with_reducible refine gate_store (t := 46) (p := 6) rfl ?_); refine rw_store rfl 46 rfl rfl (cs' := #[.int .i64 x.f0, .int .u8 x.f1, .int .i64 x.f2, .int .i64 x.f3]) rfl [] HRW.out (by kernel_rfl) rfl (by show _ = _; kernel_rfl) ?_; intro w_ hX hk9; (try simp only [List.nil_append] at hX); replace HO := Aside0.mk (Kd.R_mono (Kd.R_step HO.out (fun j hj hlt => hk9.2 j hlt hj.2)) (fun _ _ => trivial) : Kd.R Kd.bool 4 w_ w.heap.size (fun _ => True) (.slice (some ⟨g4, 0, none⟩) l0.length c4) (markR l0 i)); replace HRW := Aside0.mk hX; clear hX hk9 hx0 hx1 hx2 hx3) | ((with_reducible refine gate_store (t := 4) (p := 51) rfl ?_); refine bool_store rfl rfl rfl i HO.out ?hi_ HRW.out.below ?had_ rfl ?_; (case hi_ => omega); (case had_ => first | rfl | (go_simp; done) | (go_simp; rfl)); intro w_ h1_ h2_ h3_; replace HRW := Aside0.mk (HRW.out.besides (Kd.R_typed HO.out) (by intro p hp; simp at hp; subst hp; show (46 : Nat) ≠ 4; decide) h3_ h2_); replace HO := Aside0.mk h1_; clear h1_ h2_ h3_))
            have g1 := blk_cell (HRW.out.mem List.mem_cons_self) 1
            go_quiet (first | (go_at_call 47; exact Calls.quiet_of ((provisoref04_Jumps.calls x.f1 (jumpsB x.f1) _ (jumps_is x.f1)).mono fun _ _ h => ⟨h.1, h.2.out⟩)) | (go_at_call 48; exact Calls.quiet_of ((provisoref04_Ends.calls x.f1 (endsB x.f1) _ (ends_is x.f1)).mono fun _ _ h => ⟨h.1, h.2.out⟩)))
            replace HO := Aside0.mk (Kd.R_drewN HO.out nq)
            replace HRW := Aside0.mk (HRW.out.drewN nq)
            clear g1
            cases qj : jumpsB x.f1 with
            | true =>
              by_cases c2 : i + 1 < l0.length
              · have hE : ((jumpsB x.f1 || endsB x.f1) && decide (i + 1 < l0.length)) = true := by rw [qj, decide_eq_true c2]; first | rfl | simp
                have HE := Aside0.mk hE
                have c2b : decide ((i : Int) + 1 < (l0.length : Int)) = true := decide_eq_true (by omega)
                have p7 : (0 ≤ (i : Int) + 1) = True := eq_true (by omega)
                have p8 : ((i : Int) + 1 < (l0.length : Int)) = True := eq_true (by omega)
                have p9 : ((i : Int) + 1).toNat = i + 1 := by omega
                have HC2 := Aside0.mk c2
                clear hE c2
                go_wp2_with (first | ((with_reducible refine gate_store (t := 4) (p := 72) rfl ?_); refine bool_store rfl rfl rfl (i + 1) HO.out ?hi_ HRW.out.below ?had_ rfl ?_; (case hi_ => exact HC2.out); (case had_ => first | rfl | (go_simp; done) | (go_simp; rfl)); intro w_ h1_ h2_ h3_; replace HRW := Aside0.mk (HRW.out.besides (Kd.R_typed HO.out) (by intro p hp; simp at hp; subst hp; show (46 : Nat) ≠ 4; decide) h3_ h2_); replace HO := Aside0.mk h1_; clear h1_ h2_ h3_; have g2 := blk_cell (HRW.out.mem List.mem_cons_self) 2))
                refine (provisoref05_Place.calls k _ _ l0 x.f2 pl _ (Kd.C_below HR.out HRW.out.below) HCC.out HPL.out).mono ?_
                rintro e w_ ⟨rfl, hb⟩
                replace HO := Aside0.mk (Kd.R_below HO.out hb)
                replace HRW := Aside0.mk (HRW.out.step hb)
                clear hb g2
                by_cases c4 : 0 ≤ pl
                · obtain ⟨j, rfl⟩ := Int.eq_ofNat_of_zero_le c4
                  have hjn : j < l0.length := by have := HPT.out c4; omega
                  have hJ : (jumpsB x.f1 && decide (0 ≤ (j : Int))) = true := by rw [qj, decide_eq_true c4]; rfl
                  have HJ := Aside0.mk hJ
                  clear hJ qj
                  have c4b : decide ((j : Int) ≥ 0) = true := decide_eq_true c4
                  have r5 : (0 ≤ (j : Int)) = True := eq_true (by omega)
                  have r6 : ((j : Int) < (l0.length : Int)) = True := eq_true (by omega)
                  clear c4
                  go_wp2_with (first | ((with_reducible refine gate_store (t := 4) (p := 84) rfl ?_); refine bool_store rfl rfl rfl j HO.out ?hi_ HRW.out.below ?had_ rfl ?_; (case hi_ => omega); (case had_ => first | rfl | (go_simp; done) | (go_simp; rfl)); intro w_ h1_ h2_ h3_; replace HRW := Aside0.mk (HRW.out.besides (Kd.R_typed HO.out) (by intro p hp; simp at hp; subst hp; show (46 : Nat) ≠ 4; decide) h3_ h2_); replace HO := Aside0.mk h1_; clear h1_ h2_ h3_))
                  go_roundw
                  case rel => exact ⟨i + 1, by have := HW.out; first | rfl | (simp; done), by omega, ⟨HRW.out.below⟩, ⟨by rw [HMS.out, if_pos HJ.out, if_pos HE.out, if_pos HD.out]; exact HO.out⟩⟩
                  case measure => simp [intOf]; omega
                · have hJ : ¬ (jumpsB x.f1 && decide (0 ≤ pl)) = true := by rw [decide_eq_false c4]; simp
                  have HJ := Aside0.mk hJ
                  clear hJ qj
                  have c4b : decide (pl ≥ 0) = false := decide_eq_false c4
                  have c4c : decide (0 ≤ pl) = false := decide_eq_false c4
                  clear c4
                  go_wp2
                  go_roundw
                  case rel => exact ⟨i + 1, by have := HW.out; first | rfl | (simp; done), by omega, ⟨HRW.out.below⟩, ⟨by rw [HMS.out, if_neg HJ.out, if_pos HE.out, if_pos HD.out]; exact HO.out⟩⟩
                  case measure => simp [intOf]; omega
              · have hE : ¬ ((jumpsB x.f1 || endsB x.f1) && decide (i + 1 < l0.length)) = true := by rw [decide_eq_false c2]; simp
                have HE := Aside0.mk hE
                have c2b : decide ((i : Int) + 1 < (l0.length : Int)) = false := decide_eq_false (by omega)
                clear hE c2
                have g2 := blk_cell (HRW.out.mem List.mem_cons_self) 2
                go_wp2_with fail
                refine (provisoref05_Place.calls k _ _ l0 x.f2 pl _ (Kd.C_below HR.out HRW.out.below) HCC.out HPL.out).mono ?_
                rintro e w_ ⟨rfl, hb⟩
                replace HO := Aside0.mk (Kd.R_below HO.out hb)
                replace HRW := Aside0.mk (HRW.out.step hb)
                clear hb g2
                by_cases c4 : 0 ≤ pl
                · obtain ⟨j, rfl⟩ := Int.eq_ofNat_of_zero_le c4
                  have hjn : j < l0.length := by have := HPT.out c4; omega
                  have hJ : (jumpsB x.f1 && decide (0 ≤ (j : Int))) = true := by rw [qj, decide_eq_true c4]; rfl
                  have HJ := Aside0.mk hJ
                  clear hJ qj
                  have c4b : decide ((j : Int) ≥ 0) = true := decide_eq_true c4
                  have r5 : (0 ≤ (j : Int)) = True := eq_true (by omega)
                  have r6 : ((j : Int) < (l0.length : Int)) = True := eq_true (by omega)
                  clear c4
                  go_wp2_with (first | ((with_reducible refine gate_store (t := 4) (p := 84) rfl ?_); refine bool_store rfl rfl rfl j HO.out ?hi_ HRW.out.below ?had_ rfl ?_; (case hi_ => omega); (case had_ => first | rfl | (go_simp; done) | (go_simp; rfl)); intro w_ h1_ h2_ h3_; replace HRW := Aside0.mk (HRW.out.besides (Kd.R_typed HO.out) (by intro p hp; simp at hp; subst hp; show (46 : Nat) ≠ 4; decide) h3_ h2_); replace HO := Aside0.mk h1_; clear h1_ h2_ h3_))
                  go_roundw
                  case rel => exact ⟨i + 1, by have := HW.out; first | rfl | (simp; done), by omega, ⟨HRW.out.below⟩, ⟨by rw [HMS.out, if_pos HJ.out, if_neg HE.out, if_pos HD.out]; exact HO.out⟩⟩
                  case measure => simp [intOf]; omega
                · have hJ : ¬ (jumpsB x.f1 && decide (0 ≤ pl)) = true := by rw [decide_eq_false c4]; simp
                  have HJ := Aside0.mk hJ
                  clear hJ qj
                  have c4b : decide (pl ≥ 0) = false := decide_eq_false c4
                  have c4c : decide (0 ≤ pl) = false := decide_eq_false c4
                  clear c4
                  go_wp2
                  go_roundw
                  case rel => exact ⟨i + 1, by have := HW.out; first | rfl | (simp; done), by omega, ⟨HRW.out.below⟩, ⟨by rw [HMS.out, if_neg HJ.out, if_neg HE.out, if_pos HD.out]; exact HO.out⟩⟩
                  case measure => simp [intOf]; omega
            | false =>
              cases qe : endsB x.f1 with
              | true =>
                by_cases c2 : i + 1 < l0.length
                · have hE : ((jumpsB x.f1 || endsB x.f1) && decide (i + 1 < l0.length)) = true := by rw [qj, qe, decide_eq_true c2]; first | rfl | simp
                  have HE := Aside0.mk hE
                  have c2b : decide ((i : Int) + 1 < (l0.length : Int)) = true := decide_eq_true (by omega)
                  have p7 : (0 ≤ (i : Int) + 1) = True := eq_true (by omega)
                  have p8 : ((i : Int) + 1 < (l0.length : Int)) = True := eq_true (by omega)
                  have p9 : ((i : Int) + 1).toNat = i + 1 := by omega
                  have HC2 := Aside0.mk c2
                  clear hE c2
                  go_wp2_with (first | ((with_reducible refine gate_store (t := 4) (p := 72) rfl ?_); refine bool_store rfl rfl rfl (i + 1) HO.out ?hi_ HRW.out.below ?had_ rfl ?_; (case hi_ => exact HC2.out); (case had_ => first | rfl | (go_simp; done) | (go_simp; rfl)); intro w_ h1_ h2_ h3_; replace HRW := Aside0.mk (HRW.out.besides (Kd.R_typed HO.out) (by intro p hp; simp at hp; subst hp; show (46 : Nat) ≠ 4; decide) h3_ h2_); replace HO := Aside0.mk h1_; clear h1_ h2_ h3_; have g2 := blk_cell (HRW.out.mem List.mem_cons_self) 2))
                  refine (provisoref05_Place.calls k _ _ l0 x.f2 pl _ (Kd.C_below HR.out HRW.out.below) HCC.out HPL.out).mono ?_
                  rintro e w_ ⟨rfl, hb⟩
                  replace HO := Aside0.mk (Kd.R_below HO.out hb)
                  replace HRW := Aside0.mk (HRW.out.step hb)
                  clear hb g2
                  have hJ : ¬ (jumpsB x.f1 && decide (0 ≤ pl)) = true := by rw [qj]; simp
                  have HJ := Aside0.mk hJ
                  clear hJ qj
                  go_wp2
                  go_roundw
                  case rel => exact ⟨i + 1, by have := HW.out; first | rfl | (simp; done), by omega, ⟨HRW.out.below⟩, ⟨by rw [HMS.out, if_neg HJ.out, if_pos HE.out, if_pos HD.out]; exact HO.out⟩⟩
                  case measure => simp [intOf]; omega
                · have hE : ¬ ((jumpsB x.f1 || endsB x.f1) && decide (i + 1 < l0.length)) = true := by rw [decide_eq_false c2]; simp
                  have HE := Aside0.mk hE
                  have c2b : decide ((i : Int) + 1 < (l0.length : Int)) = false := decide_eq_false (by omega)
                  clear hE c2
                  have g2 := blk_cell (HRW.out.mem List.mem_cons_self) 2
                  go_wp2_with fail
                  refine (provisoref05_Place.calls k _ _ l0 x.f2 pl _ (Kd.C_below HR.out HRW.out.below) HCC.out HPL.out).mono ?_
                  rintro e w_ ⟨rfl, hb⟩
                  replace HO := Aside0.mk (Kd.R_below HO.out hb)
                  replace HRW := Aside0.mk (HRW.out.step hb)
                  clear hb g2
                  have hJ : ¬ (jumpsB x.f1 && decide (0 ≤ pl)) = true := by rw [qj]; simp
                  have HJ := Aside0.mk hJ
                  clear hJ qj
                  go_wp2
                  go_roundw
                  case rel => exact ⟨i + 1, by have := HW.out; first | rfl | (simp; done), by omega, ⟨HRW.out.below⟩, ⟨by rw [HMS.out, if_neg HJ.out, if_neg HE.out, if_pos HD.out]; exact HO.out⟩⟩
                  case measure => simp [intOf]; omega
              | false =>
                have hE : ¬ ((jumpsB x.f1 || endsB x.f1) && decide (i + 1 < l0.length)) = true := by rw [qj, qe]; simp
                have HE := Aside0.mk hE
                clear hE
                have g2 := blk_cell (HRW.out.mem List.mem_cons_self) 2
                go_wp2_with fail
                refine (provisoref05_Place.calls k _ _ l0 x.f2 pl _ (Kd.C_below HR.out HRW.out.below) HCC.out HPL.out).mono ?_
                rintro e w_ ⟨rfl, hb⟩
                replace HO := Aside0.mk (Kd.R_below HO.out hb)
                replace HRW := Aside0.mk (HRW.out.step hb)
                clear hb g2
                have hJ : ¬ (jumpsB x.f1 && decide (0 ≤ pl)) = true := by rw [qj]; simp
                have HJ := Aside0.mk hJ
                clear hJ qj
                go_wp2
                go_roundw
                case rel => exact ⟨i + 1, by have := HW.out; first | rfl | (simp; done), by omega, ⟨HRW.out.below⟩, ⟨by rw [HMS.out, if_neg HJ.out, if_neg HE.out, if_pos HD.out]; exact HO.out⟩⟩
                case measure => simp [intOf]; omega
          · have d0b : ((i : Int) == 0) = false := by rw [beq_eq_false_iff_ne]; omega
            have d0c : decide ((i : Int) = 0) = false := decide_eq_false (by omega)
            have d0d : decide (i = 0) = false := decide_eq_false d0
            have HD := Aside0.mk d0
            clear d0
            go_wp2_with (first | ((with_reducible refine gate_dst (N := 6) rfl ?_); refine rw_alloc rfl 46 rfl (cs := #[.int .i64 0, .int .u8 0, .int .i64 0, .int .i64 0]) (by kernel_rfl) HRW.out ?_; intro b6 w_ hg9 hX hb9; replace HO := Aside0.mk (Kd.R_below (Kd.R_elderB HO.out b6 (by omega)) hb9); replace HRW := Aside0.mk hX; clear hX hg9 hb9) | ((with_reducible refine gate_store (t := 46) (p := 6) rfl ?_); refine rw_store rfl 46 rfl rfl (cs' := #[.int .i64 x.f0, .int .u8 x.f1, .int .i64 x.f2, .int .i64 x.f3]) rfl [] HRW.out (by kernel_rfl) rfl (by show _ = _; kernel_rfl) ?_; intro w_ hX hk9; (try simp only [List.nil_append] at hX); replace HO := Aside0.mk (Kd.R_mono (Kd.R_step HO.out (fun j hj hlt => hk9.2 j hlt hj.2)) (fun _ _ => trivial) : Kd.R Kd.bool 4 w_ w.heap.size (fun _ => True) (.slice (some ⟨g4, 0, none⟩) l0.length c4) (markR l0 i)); replace HRW := Aside0.mk hX; clear hX hk9 hx0 hx1 hx2 hx3))
            have g1 := blk_cell (HRW.out.mem List.mem_cons_self) 1
            go_quiet (first | (go_at_call 47; exact Calls.quiet_of ((provisoref04_Jumps.calls x.f1 (jumpsB x.f1) _ (jumps_is x.f1)).mono fun _ _ h => ⟨h.1, h.2.out⟩)) | (go_at_call 48; exact Calls.quiet_of ((provisoref04_Ends.calls x.f1 (endsB x.f1) _ (ends_is x.f1)).mono fun _ _ h => ⟨h.1, h.2.out⟩)))
            replace HO := Aside0.mk (Kd.R_drewN HO.out nq)
            replace HRW := Aside0.mk (HRW.out.drewN nq)
            clear g1
            cases qj : jumpsB x.f1 with
            | true =>
              by_cases c2 : i + 1 < l0.length
              · have hE : ((jumpsB x.f1 || endsB x.f1) && decide (i + 1 < l0.length)) = true := by rw [qj, decide_eq_true c2]; first | rfl | simp
                have HE := Aside0.mk hE
                have c2b : decide ((i : Int) + 1 < (l0.length : Int)) = true := decide_eq_true (by omega)
                have p7 : (0 ≤ (i : Int) + 1) = True := eq_true (by omega)
                have p8 : ((i : Int) + 1 < (l0.length : Int)) = True := eq_true (by omega)
                have p9 : ((i : Int) + 1).toNat = i + 1 := by omega
                have HC2 := Aside0.mk c2
                clear hE c2
                go_wp2_with (first | ((with_reducible refine gate_store (t := 4) (p := 72) rfl ?_); refine bool_store rfl rfl rfl (i + 1) HO.out ?hi_ HRW.out.below ?had_ rfl ?_; (case hi_ => exact HC2.out); (case had_ => first | rfl | (go_simp; done) | (go_simp; rfl)); intro w_ h1_ h2_ h3_; replace HRW := Aside0.mk (HRW.out.besides (Kd.R_typed HO.out) (by intro p hp; simp at hp; subst hp; show (46 : Nat) ≠ 4; decide) h3_ h2_); replace HO := Aside0.mk h1_; clear h1_ h2_ h3_; have g2 := blk_cell (HRW.out.mem List.mem_cons_self) 2))
                refine (provisoref05_Place.calls k _ _ l0 x.f2 pl _ (Kd.C_below HR.out HRW.out.below) HCC.out HPL.out).mono ?_
                rintro e w_ ⟨rfl, hb⟩
                replace HO := Aside0.mk (Kd.R_below HO.out hb)
                replace HRW := Aside0.mk (HRW.out.step hb)
                clear hb g2
                by_cases c4 : 0 ≤ pl
                · obtain ⟨j, rfl⟩ := Int.eq_ofNat_of_zero_le c4
                  have hjn : j < l0.length := by have := HPT.out c4; omega
                  have hJ : (jumpsB x.f1 && decide (0 ≤ (j : Int))) = true := by rw [qj, decide_eq_true c4]; rfl
                  have HJ := Aside0.mk hJ
                  clear hJ qj
                  have c4b : decide ((j : Int) ≥ 0) = true := decide_eq_true c4
                  have r5 : (0 ≤ (j : Int)) = True := eq_true (by omega)
                  have r6 : ((j : Int) < (l0.length : Int)) = True := eq_true (by omega)
                  clear c4
                  go_wp2_with (first | ((with_reducible refine gate_store (t := 4) (p := 84) rfl ?_); refine bool_store rfl rfl rfl j HO.out ?hi_ HRW.out.below ?had_ rfl ?_; (case hi_ => omega); (case had_ => first | rfl | (go_simp; done) | (go_simp; rfl)); intro w_ h1_ h2_ h3_; replace HRW := Aside0.mk (HRW.out.besides (Kd.R_typed HO.out) (by intro p hp; simp at hp; subst hp; show (46 : Nat) ≠ 4; decide) h3_ h2_); replace HO := Aside0.mk h1_; clear h1_ h2_ h3_))
                  go_roundw
                  case rel => exact ⟨i + 1, by have := HW.out; first | rfl | (simp; done), by omega, ⟨HRW.out.below⟩, ⟨by rw [HMS.out, if_pos HJ.out, if_pos HE.out, if_neg HD.out]; exact HO.out⟩⟩
                  case measure => simp [intOf]; omega
                · have hJ : ¬ (jumpsB x.f1 && decide (0 ≤ pl)) = true := by rw [decide_eq_false c4]; simp
                  have HJ := Aside0.mk hJ
                  clear hJ qj
                  have c4b : decide (pl ≥ 0) = false := decide_eq_false c4
                  have c4c : decide (0 ≤ pl) = false := decide_eq_false c4
                  clear c4
                  go_wp2
                  go_roundw
                  case rel => exact ⟨i + 1, by have := HW.out; first | rfl | (simp; done), by omega, ⟨HRW.out.below⟩, ⟨by rw [HMS.out, if_neg HJ.out, if_pos HE.out, if_neg HD.out]; exact HO.out⟩⟩
                  case measure => simp [intOf]; omega
              · have hE : ¬ ((jumpsB x.f1 || endsB x.f1) && decide (i + 1 < l0.length)) = true := by rw [decide_eq_false c2]; simp
                have HE := Aside0.mk hE
                have c2b : decide ((i : Int) + 1 < (l0.length : Int)) = false := decide_eq_false (by omega)
                clear hE c2
                have g2 := blk_cell (HRW.out.mem List.mem_cons_self) 2
                go_wp2_with fail
                refine (provisoref05_Place.calls k _ _ l0 x.f2 pl _ (Kd.C_below HR.out HRW.out.below) HCC.out HPL.out).mono ?_
                rintro e w_ ⟨rfl, hb⟩
                replace HO := Aside0.mk (Kd.R_below HO.out hb)
                replace HRW := Aside0.mk (HRW.out.step hb)
                clear hb g2
                by_cases c4 : 0 ≤ pl
                · obtain ⟨j, rfl⟩ := Int.eq_ofNat_of_zero_le c4
                  have hjn : j < l0.length := by have := HPT.out c4; omega
                  have hJ : (jumpsB x.f1 && decide (0 ≤ (j : Int))) = true := by rw [qj, decide_eq_true c4]; rfl
                  have HJ := Aside0.mk hJ
                  clear hJ qj
                  have c4b : decide ((j : Int) ≥ 0) = true := decide_eq_true c4
                  have r5 : (0 ≤ (j : Int)) = True := eq_true (by omega)
                  have r6 : ((j : Int) < (l0.length : Int)) = True := eq_true (by omega)
                  clear c4
                  go_wp2_with (first | ((with_reducible refine gate_store (t := 4) (p := 84) rfl ?_); refine bool_store rfl rfl rfl j HO.out ?hi_ HRW.out.below ?had_ rfl ?_; (case hi_ => omega); (case had_ => first | rfl | (go_simp; done) | (go_simp; rfl)); intro w_ h1_ h2_ h3_; replace HRW := Aside0.mk (HRW.out.besides (Kd.R_typed HO.out) (by intro p hp; simp at hp; subst hp; show (46 : Nat) ≠ 4; decide) h3_ h2_); replace HO := Aside0.mk h1_; clear h1_ h2_ h3_))
                  go_roundw
                  case rel => exact ⟨i + 1, by have := HW.out; first | rfl | (simp; done), by omega, ⟨HRW.out.below⟩, ⟨by rw [HMS.out, if_pos HJ.out, if_neg HE.out, if_neg HD.out]; exact HO.out⟩⟩
                  case measure => simp [intOf]; omega
                · have hJ : ¬ (jumpsB x.f1 && decide (0 ≤ pl)) = true := by rw [decide_eq_false c4]; simp
                  have HJ := Aside0.mk hJ
                  clear hJ qj
                  have c4b : decide (pl ≥ 0) = false := decide_eq_false c4
                  have c4c : decide (0 ≤ pl) = false := decide_eq_false c4
                  clear c4
                  go_wp2
                  go_roundw
                  case rel => exact ⟨i + 1, by have := HW.out; first | rfl | (simp; done), by omega, ⟨HRW.out.below⟩, ⟨by rw [HMS.out, if_neg HJ.out, if_neg HE.out, if_neg HD.out]; exact HO.out⟩⟩
                  case measure => simp [intOf]; omega
            | false =>
              cases qe : endsB x.f1 with
              | true =>
                by_cases c2 : i + 1 < l0.length
                · have hE : ((jumpsB x.f1 || endsB x.f1) && decide (i + 1 < l0.length)) = true := by rw [qj, qe, decide_eq_true c2]; first | rfl | simp
                  have HE := Aside0.mk hE
                  have c2b : decide ((i : Int) + 1 < (l0.length : Int)) = true := decide_eq_true (by omega)
                  have p7 : (0 ≤ (i : Int) + 1) = True := eq_true (by omega)
                  have p8 : ((i : Int) + 1 < (l0.length : Int)) = True := eq_true (by omega)
                  have p9 : ((i : Int) + 1).toNat = i + 1 := by omega
                  have HC2 := Aside0.mk c2
                  clear hE c2
                  go_wp2_with (first | ((with_reducible refine gate_store (t := 4) (p := 72) rfl ?_); refine bool_store rfl rfl rfl (i + 1) HO.out ?hi_ HRW.out.below ?had_ rfl ?_; (case hi_ => exact HC2.out); (case had_ => first | rfl | (go_simp; done) | (go_simp; rfl)); intro w_ h1_ h2_ h3_; replace HRW := Aside0.mk (HRW.out.besides (Kd.R_typed HO.out) (by intro p hp; simp at hp; subst hp; show (46 : Nat) ≠ 4; decide) h3_ h2_); replace HO := Aside0.mk h1_; clear h1_ h2_ h3_; have g2 := blk_cell (HRW.out.mem List.mem_cons_self) 2))
                  refine (provisoref05_Place.calls k _ _ l0 x.f2 pl _ (Kd.C_below HR.out HRW.out.below) HCC.out HPL.out).mono ?_
                  rintro e w_ ⟨rfl, hb⟩
                  replace HO := Aside0.mk (Kd.R_below HO.out hb)
                  replace HRW := Aside0.mk (HRW.out.step hb)
                  clear hb g2
                  have hJ : ¬ (jumpsB x.f1 && decide (0 ≤ pl)) = true := by rw [qj]; simp
                  have HJ := Aside0.mk hJ
                  clear hJ qj
                  go_wp2
                  go_roundw
                  case rel => exact ⟨i + 1, by have := HW.out; first | rfl | (simp; done), by omega, ⟨HRW.out.below⟩, ⟨by rw [HMS.out, if_neg HJ.out, if_pos HE.out, if_neg HD.out]; exact HO.out⟩⟩
                  case measure => simp [intOf]; omega
                · have hE : ¬ ((jumpsB x.f1 || endsB x.f1) && decide (i + 1 < l0.length)) = true := by rw [decide_eq_false c2]; simp
                  have HE := Aside0.mk hE
                  have c2b : decide ((i : Int) + 1 < (l0.length : Int)) = false := decide_eq_false (by omega)
                  clear hE c2
                  have g2 := blk_cell (HRW.out.mem List.mem_cons_self) 2
                  go_wp2_with fail
                  refine (provisoref05_Place.calls k _ _ l0 x.f2 pl _ (Kd.C_below HR.out HRW.out.below) HCC.out HPL.out).mono ?_
                  rintro e w_ ⟨rfl, hb⟩
                  replace HO := Aside0.mk (Kd.R_below HO.out hb)
                  replace HRW := Aside0.mk (HRW.out.step hb)
                  clear hb g2
                  have hJ : ¬ (jumpsB x.f1 && decide (0 ≤ pl)) = true := by rw [qj]; simp
                  have HJ := Aside0.mk hJ
                  clear hJ qj
                  go_wp2
                  go_roundw
                  case rel => exact ⟨i + 1, by have := HW.out; first | rfl | (simp; done), by omega, ⟨HRW.out.below⟩, ⟨by rw [HMS.out, if_neg HJ.out, if_neg HE.out, if_neg HD.out]; exact HO.out⟩⟩
                  case measure => simp [intOf]; omega
              | false =>
                have hE : ¬ ((jumpsB x.f1 || endsB x.f1) && decide (i + 1 < l0.length)) = true := by rw [qj, qe]; simp
                have HE := Aside0.mk hE
                clear hE
                have g2 := blk_cell (HRW.out.mem List.mem_cons_self) 2
                go_wp2_with fail
                refine (provisoref05_Place.calls k _ _ l0 x.f2 pl _ (Kd.C_below HR.out HRW.out.below) HCC.out HPL.out).mono ?_
                rintro e w_ ⟨rfl, hb⟩
                replace HO := Aside0.mk (Kd.R_below HO.out hb)
                replace HRW := Aside0.mk (HRW.out.step hb)
                clear hb g2
                have hJ : ¬ (jumpsB x.f1 && decide (0 ≤ pl)) = true := by rw [qj]; simp
                have HJ := Aside0.mk hJ
                clear hJ qj
                go_wp2
                go_roundw
                case rel => exact ⟨i + 1, by have := HW.out; first | rfl | (simp; done), by omega, ⟨HRW.out.below⟩, ⟨by rw [HMS.out, if_neg HJ.out, if_neg HE.out, if_neg HD.out]; exact HO.out⟩⟩
                case measure => simp [intOf]; omega
        · have c1b : decide ((i : Int) < (l0.length : Int)) = false := decide_eq_false (by omega)
          have c1c : decide (i < l0.length) = false := decide_eq_false (by omega)
          have HO9 : Aside0 (Kd.R Kd.bool 4 wr w.heap.size (fun _ => True) v39 (markR l0 l0.length)) := ⟨by have h9 := HO.out; rw [show i = l0.length by omega] at h9; exact h9⟩
          clear HO c1 hi
          go_wp2_with fail
          obtain ⟨M, hM⟩ : ∃ M, M = markR l0 l0.length := ⟨_, rfl⟩
          rw [← hM] at HO9 HV
          have HML : Aside0 (M.length = l0.length) := ⟨by rw [hM]; exact markR_len _ _⟩
          have HM0 : Aside0 (0 < l0.length → M.getD 0 false = true) := ⟨fun h9 => by rw [hM, show l0.length = (l0.length - 1) + 1 by omega]; exact markR_zero l0 h9 _⟩
          clear hM
          have HS9 : Aside0 (Kd.S k35 35 wr w.heap.size (fun _ => True) (.slice none 0 0) (outR l0 M 0)) := ⟨Kd.S_nil _ _ _ _ _⟩
          go_loopw [10, 88] (fun v10 v88 wr => ∃ i : Nat, v88 = .int .i64 (i : Int) ∧ i ≤ l0.length ∧ Aside0 (Below w.heap.size w wr) ∧ Aside0 (Kd.R Kd.bool 4 wr w.heap.size (fun _ => True) v39 M) ∧ Aside0 (Kd.S k35 35 wr w.heap.size (fun _ => True) v10 (outR l0 M i))) (fun _ v88 _ => ((l0.length : Int) - intOf v88).toNat)
          case atStart => exact ⟨0, rfl, Nat.zero_le _, HBW, HO9, HS9⟩
          case round =>
            clear HBW HO9 HS9
            obtain ⟨i, rfl, hi, HBW, HO9, HS9⟩ := hrel
            by_cases c1 : i < l0.length
            · obtain ⟨x, hx⟩ : ∃ x, x = rd_T46 l0 (i : Int) := ⟨_, rfl⟩
              obtain ⟨ad, e1, hx0, hx1, hx2, hx3⟩ := at_I HR.out HBW.out c1 hx
              cases e1
              obtain ⟨g4, c4, e4, _, _, _⟩ := Kd.R_form HO9.out (by rw [HML.out]; omega)
              rw [HML.out] at e4
              subst e4
              obtain ⟨am, em, hbm⟩ := Kd.at_bool (Kd.R_reads' HO9.out).2.2 (i : Int) (by omega) (by have := HML.out; omega)
              cases em
              have HX := Aside0.mk hx
              have HI : Aside0 (i < l0.length) := ⟨c1⟩
              have c1b : decide ((i : Int) < (l0.length : Int)) = true := decide_eq_true (by omega)
              have p5 : (0 ≤ (i : Int)) = True := eq_true (by omega)
              have p6 : ((i : Int) < (l0.length : Int)) = True := eq_true (by omega)
              have HW := Aside0.mk (wrap_next (show i < 4398046511104 by omega))
              have HNX := Aside0.mk (okR_at HOK.out c1)
              rw [← hx] at HNX
              obtain ⟨A10, c10, e10⟩ := Kd.S_slice HS9.out
              subst e10
              have HOL := Aside0.mk (outR_len l0 M i)
              obtain ⟨o1, ho1⟩ : ∃ o1, o1 = addR l0 M i := ⟨_, rfl⟩
              have HO1 := Aside0.mk ho1
              obtain ⟨q, hq⟩ : ∃ q, o1.length = q + 1 := ⟨o1.length - 1, by have := addR_pos l0 M (HM0.out (by omega)) i; rw [ho1]; omega⟩
              have HQ := Aside0.mk hq
              have hb9 : rdOf false M (i : Int) = M.getD i false := by unfold rdOf; rw [Int.toNat_natCast]
              rw [hb9, Int.toNat_natCast, add0] at hbm
              have hqn : q ≤ 4398046511104 := by have h1 := HOL.out; have h2 : o1.length ≤ i + 1 := (by rw [ho1]; unfold addR; split; (rw [List.length_append, List.length_singleton]; omega); omega); omega
              have hw1 : IntKind.i64.wrap (((q + 1 : Nat) : Int) - 1) = (q : Int) := (i64_w _).trans (by unfold wrap64; omega)
              have hw2 : IntKind.i64.wrap (q : Int) = (q : Int) := (i64_w _).trans (by unfold wrap64; omega)
              clear hb9 hq ho1 hx
              cases hm : M.getD i false with
              | true =>
                have HA : Aside0 (o1 = outR l0 M i ++ [(⟨x.f0, 0, []⟩ : S35)]) := ⟨by rw [HO1.out, HX.out]; unfold addR; rw [if_pos hm]⟩
                rw [hm] at hbm
                clear hm
                by_cases d1 : i + 1 = l0.length
                · 
                  have HN0 : Aside0 (nxR l0 M i = (nextL x).filter (fun a => decide (0 ≤ placeI l0 a))) := ⟨by rw [HX.out]; unfold nxR; rw [if_pos (Or.inl d1)]⟩
                  have d1b : (((i : Int) + 1) == (l0.length : Int)) = true := by rw [beq_iff_eq]; omega
                  have d1c : decide (((i : Int) + 1) = (l0.length : Int)) = true := decide_eq_true (by omega)
                  clear d1
                  go_wp2_with (first | (at_builtin; refine S_append1 k35 (w0 := w) w.heap.size rfl (.tmp 95) (.tmp 102) 29 35 (.agg #[.int .i64 0, .int .i64 0, .slice none 0 0]) 40 rfl Try.underlying29 (by kernel_rfl) rfl (by show (0 : Nat) < 3; decide) (by decide) (.slice A10 (outR l0 M i).length c10) (outR l0 M i) (⟨x.f0, 0, []⟩ : S35) [.int .i64 x.f0, .int .i64 0, .slice none 0 0] (fun _ => True) (fun _ => False) rfl rfl (blk_M (Kd.R_nil _ _ _ _ _)) (fun _ hk => hk.elim) (fun _ _ => trivial) (Kd.S_mono HS9.out (fun _ _ => ⟨trivial, fun h9 => h9⟩)) HBW.out HBW.out.size (by have := HOL.out; have := HL.out; unfold maxLen; omega) (blk_fits (by have := HOL.out; have := HL.out; omega)) ?_; intro v7 w7 ho hb hg hat; replace HO9 := Aside0.mk (Kd.R_over' HO9.out (Kd.S_typed HS9.out) (by decide) hg); replace HBW := Aside0.mk hb; rw [← HA.out] at ho; replace HS9 := Aside0.mk ho; clear ho hb hg hat hbm; obtain ⟨g9, cap9, e9, _, _, _⟩ := Kd.S_form HS9.out (Nat.lt_of_lt_of_eq (Nat.succ_pos q) HQ.out.symm); rw [HQ.out] at e9; subst e9; obtain ⟨oki, cl, hcl, hM, hcc, hok, hH⟩ := Kd.S_lend HS9.out z35 (q : Int) (by omega) (by omega); rw [Int.toNat_natCast] at hM; obtain ⟨v0, rfl, hv0⟩ := blk_parts hM; have HH := Aside0.mk hH; clear hcl hM hcc hok hH hv0; (try clear hx0 hx1 hx2 hx3); obtain ⟨ad', e1, hx0, hx1, hx2, hx3⟩ := at_I HR.out HBW.out HI.out HX.out; cases e1) | ((with_reducible refine gate_store (t := 3) (p := 116) rfl ?_); refine h_store (o' := q * 3 + 1) k35 w.heap.size rfl rfl 3 _ _ rfl 35 (q : Int) 1 _ (.int .i64 x.f0) [.int .i64 x.f0] _ (fun _ => True) oki ?had_ ?hof_ ?hx_ rfl (show (Try.prog.info? 3).map (·.size) = some 1 from by kernel_rfl) (fun q9 hq9 => (List.mem_singleton.1 hq9) ▸ rfl) HH.out (Int.natCast_nonneg q) (show (q : Int) < ((q + 1 : Nat) : Int) from Int.ofNat_lt.2 (Nat.lt_succ_self q)) (show 1 + 1 ≤ 3 by decide) HBW.out ?_; (case had_ => first | rfl | (go_simp; done) | (go_simp; rfl)); (case hof_ => first | rfl | omega); (case hx_ => first | rfl | (go_simp; done) | (go_simp; rfl)); intro w_ h1_ h2_ h3_; replace HO9 := Aside0.mk (Kd.R_over' HO9.out (h_typed HH.out) (by decide) (by have h9 := h3_; simpa [Value.ownBlock] using h9)); replace HBW := Aside0.mk h2_; replace HH := Aside0.mk h1_; clear h1_ h2_ h3_; (try clear hx0 hx1 hx2 hx3); obtain ⟨ad', e1, hx0, hx1, hx2, hx3⟩ := at_I HR.out HBW.out HI.out HX.out; cases e1) | ((with_reducible refine gate_store (t := 27) (p := 119) rfl ?_); refine h_store (o' := q * 3 + 2) k35 w.heap.size rfl rfl 27 _ _ rfl 35 (q : Int) 2 _ (.slice none 0 0) [.slice none 0 0] _ (fun _ => True) oki ?had_ ?hof_ ?hx_ rfl (show (Try.prog.info? 27).map (·.size) = some 1 from by kernel_rfl) (fun q9 hq9 => (List.mem_singleton.1 hq9) ▸ rfl) HH.out (Int.natCast_nonneg q) (show (q : Int) < ((q + 1 : Nat) : Int) from Int.ofNat_lt.2 (Nat.lt_succ_self q)) (show 2 + 1 ≤ 3 by decide) HBW.out ?_; (case had_ => first | rfl | (go_simp; done) | (go_simp; rfl)); (case hof_ => first | rfl | omega); (case hx_ => first | rfl | (go_simp; done) | (go_simp; rfl)); intro w_ h1_ h2_ h3_; replace HO9 := Aside0.mk (Kd.R_over' HO9.out (h_typed HH.out) (by decide) (by have h9 := h3_; simpa [Value.ownBlock] using h9)); replace HBW := Aside0.mk h2_; replace HH := Aside0.mk h1_; clear h1_ h2_ h3_; (try clear hx0 hx1 hx2 hx3); obtain ⟨ad', e1, hx0, hx1, hx2, hx3⟩ := at_I HR.out HBW.out HI.out HX.out; cases e1))
                  refine (provisoref05_Next.calls k x.f0 x.f1 x.f2 x.f3 (nextL x) _ HNX.out.1).mono ?_
                  rintro e w9 ⟨v136, rfl, hR9, hb⟩
                  obtain ⟨A96, c96, rfl⟩ := Kd.R_slice hR9
                  have HNP := Aside0.mk HNX.out.2.2
                  obtain ⟨nx, hnx⟩ : ∃ nx, nx = nextL x := ⟨_, rfl⟩
                  have hnl : nx.length ≤ 2 := by rw [hnx]; exact nextL_le2 x
                  have HXN := Aside0.mk hnx
                  rw [← hnx] at hR9 HNP ⊢
                  have HN : Aside0 (Kd.R (Kd.int .i64) 3 w9 w.heap.size (fun j => True ∧ some j ≠ (Value.slice none 0 0).ownBlock) (.slice A96 nx.length c96) nx) := ⟨Kd.R_apart_nil (Kd.R_lower hR9 HBW.out.size)⟩
                  replace HH := Aside0.mk (Kd.H_below HH.out hb)
                  replace HO9 := Aside0.mk (Kd.R_below HO9.out hb)
                  replace HBW := Aside0.mk (below_step HBW.out hb)
                  have HV2 : Aside0 (Kd.R (Kd.int .i64) 3 w9 w.heap.size oki (.slice none 0 0) []) := ⟨Kd.R_nil _ _ _ _ _⟩
                  clear hR9 hb hnx
                  go_wp2_with fail
                  go_loopw [138] (fun v138 wr => ∃ (j : Nat) (v2 : Value) (ns : List Int) (ok2 : Nat → Prop), v138 = .int .i64 (j : Int) ∧ j ≤ nx.length ∧ Aside0 (ns = (nx.take j).filter fun a => decide (0 ≤ placeI l0 a)) ∧ Aside0 (Below w.heap.size w wr) ∧ Aside0 (Kd.R Kd.bool 4 wr w.heap.size (fun _ => True) (.slice (some ⟨g4, 0, none⟩) l0.length c4) M) ∧ Aside0 (Kd.H k35 35 wr w.heap.size (fun _ => True) (.slice (some ⟨g9, 0, none⟩) (q + 1) cap9) o1 (q : Int) ok2 [.int .i64 (o1.getD q z35).f0, .int .i64 x.f0, v2]) ∧ Aside0 (Kd.R (Kd.int .i64) 3 wr w.heap.size ok2 v2 ns) ∧ Aside0 (Kd.R (Kd.int .i64) 3 wr w.heap.size (fun j => True ∧ some j ≠ v2.ownBlock) (.slice A96 nx.length c96) nx)) (fun v138 _ => ((nx.length : Int) - intOf v138).toNat)
                  case atStart => exact ⟨0, .slice none 0 0, [], oki, rfl, Nat.zero_le _, ⟨by simp⟩, HBW, HO9, ⟨HH.out⟩, HV2, HN⟩
                  case round =>
                    clear HBW HO9 HH HV2 HN
                    obtain ⟨j, v2, ns, ok2, rfl, hj, HNS, HBW, HO9, HH, HV2, HN⟩ := hrel
                    obtain ⟨A2, c2', e2'⟩ := Kd.R_slice HV2.out
                    subst e2'
                    by_cases d3 : j < nx.length
                    · have d3b : decide ((j : Int) < (nx.length : Int)) = true := decide_eq_true (by omega)
                      obtain ⟨ad2, em2, hc⟩ := Kd.at_int (Kd.R_reads' HN.out).2.2 (j : Int) (by omega) (by omega)
                      cases em2
                      simp only [Int.toNat_natCast] at hc
                      have q5 : (0 ≤ (j : Int)) = True := eq_true (by omega)
                      have q6 : ((j : Int) < (nx.length : Int)) = True := eq_true (by omega)
                      have HKA := Aside0.mk (HNP.out _ (rd_memI d3))
                      have HNT := Aside0.mk (filter_take (fun a => decide (0 ≤ placeI l0 a)) d3)
                      have HWJ := Aside0.mk (wrap_next (show j < 4398046511104 by omega))
                      generalize rd nx (j : Int) = a at hc HKA HNT
                      go_wp2_with fail
                      clear hc
                      refine (provisoref05_Place.calls k _ _ l0 a (placeI l0 a) _ (Kd.C_below HR.out HBW.out) HCC.out HKA.out).mono ?_
                      rintro e w10 ⟨rfl, hb⟩
                      replace HO9 := Aside0.mk (Kd.R_below HO9.out hb)
                      replace HH := Aside0.mk (Kd.H_below HH.out hb)
                      replace HV2 := Aside0.mk (Kd.R_below HV2.out hb)
                      replace HN := Aside0.mk (Kd.R_below HN.out hb)
                      replace HBW := Aside0.mk (below_step HBW.out hb)
                      clear hb
                      obtain ⟨pa, hpa⟩ : ∃ pa, pa = placeI l0 a := ⟨_, rfl⟩
                      rw [← hpa]
                      by_cases d4 : 0 ≤ pa
                      · have HNS2 : Aside0 (ns ++ [a] = (nx.take (j + 1)).filter fun a => decide (0 ≤ placeI l0 a)) := ⟨by rw [HNT.out, HNS.out, ← hpa, decide_eq_true d4]; simp⟩
                        have HNL : Aside0 (ns.length ≤ 2) := ⟨by rw [HNS.out]; exact Nat.le_trans (List.length_filter_le _ _) (by rw [List.length_take]; omega)⟩
                        have d4b : decide (pa ≥ 0) = true := decide_eq_true d4
                        have d4c : decide (0 ≤ pa) = true := decide_eq_true d4
                        obtain ⟨_, _, _, _, _, hcc, _⟩ := Kd.H_raw HH.out (Int.natCast_nonneg q) (show (q : Int) < ((q + 1 : Nat) : Int) from Int.ofNat_lt.2 (Nat.lt_succ_self q))
                        have hv : w10.cell? ⟨g9, q * 3 + 2, none⟩ = some (.slice A2 ns.length c2') := hcc 2 _ rfl
                        clear hcc hpa d4
                        go_wp2_with (first | ((with_reducible refine gate_dst (N := 152) rfl ?_); refine Kd.R_lit (Kd.int .i64) _ 3 ?hg (N := 152) ?hd (xs := ([a] : List Int)) (inner := [.int .i64 a]) (ok := fun _ => True) (okp := fun _ => True) ?hr ?hp (fun _ hk => hk) trivial HBW.out HBW.out.size (by simp) ?_; (case hd => rfl); (case hg => rfl); (case hr => first | (go_simp; done) | (go_simp; rfl)); (case hp => exact (Reps.one (show Kd.M (Kd.int .i64) _ _ _ a [.int .i64 a] from rfl) (Reps.none _ _))); intro v112 w3 ho1 hb1 hg1 _; have hbn := below_none hg1; obtain ⟨A3, c3', e3'⟩ := Kd.R_slice ho1; subst e3'; have HL1 := Aside0.mk (Kd.R_reads' ho1).2.2; replace HBW := Aside0.mk (below_step HBW.out hbn); replace HH := Aside0.mk (Kd.H_widen (Kd.H_below HH.out hbn)); replace HV2 := Aside0.mk (Kd.R_mono (Kd.R_below HV2.out hbn) (fun k hk => Or.inl hk) : Kd.R (Kd.int .i64) 3 w3 w.heap.size (fun k => ok2 k ∨ True ∧ w3.heap.size ≤ k) (.slice A2 ns.length c2') ns); replace HO9 := Aside0.mk (Kd.R_below HO9.out hbn); replace HN := Aside0.mk (Kd.R_below HN.out hbn); clear ho1 hb1 hg1 hbn hv) | (at_builtin; refine Kd.R_append_rows (Kd.int .i64) (w0 := w) w.heap.size rfl (.tmp 150) (.tmp 152) 27 3 (.int .i64 0) 8 rfl Try.underlying27 (by kernel_rfl) rfl (by decide) (by omega) _ ns [a] _ _ _ (fun k => ok2 k ∨ True ∧ w3.heap.size ≤ k) (fun _ => False) rfl rfl HV2.out HL1.out (fun _ _ h => h) (fun _ h => h.elim) (fun _ hk => Or.inr ⟨trivial, hk⟩) HBW.out HBW.out.size (by have := HNL.out; simp; omega) ?_; intro v5 w4 ho hb hg hat; replace HO9 := Aside0.mk (Kd.R_over' HO9.out (Kd.R_typed HV2.out) (by decide) hg); replace HN := Aside0.mk (Kd.R_after HN.out hg hat); replace HH := Aside0.mk (Kd.H_grown HH.out hg (fun k hk => HV2.out.1 k hk)); replace HBW := Aside0.mk hb; replace HV2 := Aside0.mk ho; clear ho hb hg hat; obtain ⟨A5, c5, e5⟩ := Kd.R_slice HV2.out; subst e5) | ((with_reducible refine gate_store (t := 27) (p := 155) rfl ?_); refine h_store (o' := q * 3 + 2) k35 w.heap.size rfl rfl 27 _ _ rfl 35 (q : Int) 2 _ (.slice A5 (ns.length + 1) c5) [.slice A5 (ns.length + 1) c5] _ (fun _ => True) _ ?had_ ?hof_ ?hx_ rfl (show (Try.prog.info? 27).map (·.size) = some 1 from by kernel_rfl) (fun q9 hq9 => (List.mem_singleton.1 hq9) ▸ rfl) HH.out (Int.natCast_nonneg q) (show (q : Int) < ((q + 1 : Nat) : Int) from Int.ofNat_lt.2 (Nat.lt_succ_self q)) (show 2 + 1 ≤ 3 by decide) HBW.out ?_; (case had_ => first | rfl | (go_simp; done) | (go_simp; rfl)); (case hof_ => first | rfl | omega); (case hx_ => first | rfl | (go_simp; done) | (go_simp; rfl)); intro w_ h1_ h2_ h3_; replace HO9 := Aside0.mk (Kd.R_over' HO9.out (h_typed HH.out) (by decide) (by have h9 := h3_; simpa [Value.ownBlock] using h9)); replace HV2 := Aside0.mk (Kd.R_over' HV2.out (h_typed HH.out) (by decide) (by have h9 := h3_; simpa [Value.ownBlock] using h9)); replace HN := Aside0.mk (Kd.R_over' HN.out (h_typed HH.out) (by decide) (by have h9 := h3_; simpa [Value.ownBlock] using h9)); replace HBW := Aside0.mk h2_; replace HH := Aside0.mk h1_; clear h1_ h2_ h3_))
                        go_roundw
                        case rel => exact ⟨j + 1, .slice A5 (ns ++ [a]).length c5, ns ++ [a], _, by have := HWJ.out; first | rfl | (simp; done), by omega, HNS2, HBW, HO9, ⟨by rw [show (ns ++ [a]).length = ns.length + 1 from by simp]; refine Eq.mp ?_ HH.out; kernel_rfl⟩, HV2, HN⟩
                        case measure => simp [intOf]; omega
                      · have HNS2 : Aside0 (ns = (nx.take (j + 1)).filter fun a => decide (0 ≤ placeI l0 a)) := ⟨by rw [HNT.out, HNS.out, ← hpa, decide_eq_false d4]; simp⟩
                        have d4b : decide (pa ≥ 0) = false := decide_eq_false d4
                        have d4c : decide (0 ≤ pa) = false := decide_eq_false d4
                        clear hpa d4
                        go_wp2
                        go_roundw
                        case rel => exact ⟨j + 1, .slice A2 ns.length c2', ns, ok2, by have := HWJ.out; first | rfl | (simp; done), by omega, HNS2, HBW, HO9, HH, HV2, HN⟩
                        case measure => simp [intOf]; omega
                    · have d3b : decide ((j : Int) < (nx.length : Int)) = false := decide_eq_false (by omega)
                      have d3c : decide (j < nx.length) = false := decide_eq_false (by omega)
                      have HNS2 : Aside0 (ns = nxR l0 M i) := ⟨by rw [HN0.out, ← HXN.out, HNS.out, List.take_of_length_le (by omega)]⟩
                      clear d3 hj
                      go_wp2_with fail
                      go_roundw
                      case rel =>
                        have h9 := Kd.H_back HH.out (x' := ⟨(o1.getD q z35).f0, x.f0, ns⟩) (okp := ok2) (blk_M HV2.out) (fun _ hk => hk)
                        rw [Int.toNat_natCast] at h9
                        exact ⟨i + 1, by have := HW.out; first | rfl | (simp; done), by omega, HBW, HO9, ⟨by rw [outR_step, ← HO1.out, HQ.out, show q + 1 - 1 = q from rfl, ← HX.out, ← HNS2.out]; exact h9⟩⟩
                      case measure => simp [intOf]; omega
                · cases hbn9 : M.getD (i + 1) false with
                  | true =>
                    have HN0 : Aside0 (nxR l0 M i = (nextL x).filter (fun a => decide (0 ≤ placeI l0 a))) := ⟨by rw [HX.out]; unfold nxR; rw [if_pos (Or.inr hbn9)]⟩
                    have HBN : Aside0 (rdOf false M ((i + 1 : Nat) : Int) = true) := ⟨by unfold rdOf; rw [Int.toNat_natCast]; exact hbn9⟩
                    have HC2 : Aside0 (i + 1 < l0.length) := ⟨by omega⟩
                    have d1b : (((i : Int) + 1) == (l0.length : Int)) = false := by rw [beq_eq_false_iff_ne]; omega
                    have d1c : decide (((i : Int) + 1) = (l0.length : Int)) = false := decide_eq_false (by omega)
                    have p7 : (0 ≤ (i : Int) + 1) = True := eq_true (by omega)
                    have p8 : ((i : Int) + 1 < (l0.length : Int)) = True := eq_true (by omega)
                    have p9 : ((i : Int) + 1).toNat = i + 1 := by omega
                    clear d1 hbn9
                    go_wp2_with (first | (at_builtin; refine S_append1 k35 (w0 := w) w.heap.size rfl (.tmp 95) (.tmp 102) 29 35 (.agg #[.int .i64 0, .int .i64 0, .slice none 0 0]) 40 rfl Try.underlying29 (by kernel_rfl) rfl (by show (0 : Nat) < 3; decide) (by decide) (.slice A10 (outR l0 M i).length c10) (outR l0 M i) (⟨x.f0, 0, []⟩ : S35) [.int .i64 x.f0, .int .i64 0, .slice none 0 0] (fun _ => True) (fun _ => False) rfl rfl (blk_M (Kd.R_nil _ _ _ _ _)) (fun _ hk => hk.elim) (fun _ _ => trivial) (Kd.S_mono HS9.out (fun _ _ => ⟨trivial, fun h9 => h9⟩)) HBW.out HBW.out.size (by have := HOL.out; have := HL.out; unfold maxLen; omega) (blk_fits (by have := HOL.out; have := HL.out; omega)) ?_; intro v7 w7 ho hb hg hat; replace HO9 := Aside0.mk (Kd.R_over' HO9.out (Kd.S_typed HS9.out) (by decide) hg); replace HBW := Aside0.mk hb; rw [← HA.out] at ho; replace HS9 := Aside0.mk ho; clear ho hb hg hat hbm; obtain ⟨g9, cap9, e9, _, _, _⟩ := Kd.S_form HS9.out (Nat.lt_of_lt_of_eq (Nat.succ_pos q) HQ.out.symm); rw [HQ.out] at e9; subst e9; obtain ⟨oki, cl, hcl, hM, hcc, hok, hH⟩ := Kd.S_lend HS9.out z35 (q : Int) (by omega) (by omega); rw [Int.toNat_natCast] at hM; obtain ⟨v0, rfl, hv0⟩ := blk_parts hM; have HH := Aside0.mk hH; clear hcl hM hcc hok hH hv0; (try clear hx0 hx1 hx2 hx3); obtain ⟨ad', e1, hx0, hx1, hx2, hx3⟩ := at_I HR.out HBW.out HI.out HX.out; cases e1) | ((with_reducible refine gate_store (t := 3) (p := 116) rfl ?_); refine h_store (o' := q * 3 + 1) k35 w.heap.size rfl rfl 3 _ _ rfl 35 (q : Int) 1 _ (.int .i64 x.f0) [.int .i64 x.f0] _ (fun _ => True) oki ?had_ ?hof_ ?hx_ rfl (show (Try.prog.info? 3).map (·.size) = some 1 from by kernel_rfl) (fun q9 hq9 => (List.mem_singleton.1 hq9) ▸ rfl) HH.out (Int.natCast_nonneg q) (show (q : Int) < ((q + 1 : Nat) : Int) from Int.ofNat_lt.2 (Nat.lt_succ_self q)) (show 1 + 1 ≤ 3 by decide) HBW.out ?_; (case had_ => first | rfl | (go_simp; done) | (go_simp; rfl)); (case hof_ => first | rfl | omega); (case hx_ => first | rfl | (go_simp; done) | (go_simp; rfl)); intro w_ h1_ h2_ h3_; replace HO9 := Aside0.mk (Kd.R_over' HO9.out (h_typed HH.out) (by decide) (by have h9 := h3_; simpa [Value.ownBlock] using h9)); replace HBW := Aside0.mk h2_; replace HH := Aside0.mk h1_; clear h1_ h2_ h3_; (try clear hx0 hx1 hx2 hx3); obtain ⟨ad', e1, hx0, hx1, hx2, hx3⟩ := at_I HR.out HBW.out HI.out HX.out; cases e1) | ((with_reducible refine gate_store (t := 27) (p := 119) rfl ?_); refine h_store (o' := q * 3 + 2) k35 w.heap.size rfl rfl 27 _ _ rfl 35 (q : Int) 2 _ (.slice none 0 0) [.slice none 0 0] _ (fun _ => True) oki ?had_ ?hof_ ?hx_ rfl (show (Try.prog.info? 27).map (·.size) = some 1 from by kernel_rfl) (fun q9 hq9 => (List.mem_singleton.1 hq9) ▸ rfl) HH.out (Int.natCast_nonneg q) (show (q : Int) < ((q + 1 : Nat) : Int) from Int.ofNat_lt.2 (Nat.lt_succ_self q)) (show 2 + 1 ≤ 3 by decide) HBW.out ?_; (case had_ => first | rfl | (go_simp; done) | (go_simp; rfl)); (case hof_ => first | rfl | omega); (case hx_ => first | rfl | (go_simp; done) | (go_simp; rfl)); intro w_ h1_ h2_ h3_; replace HO9 := Aside0.mk (Kd.R_over' HO9.out (h_typed HH.out) (by decide) (by have h9 := h3_; simpa [Value.ownBlock] using h9)); replace HBW := Aside0.mk h2_; replace HH := Aside0.mk h1_; clear h1_ h2_ h3_; (try clear hx0 hx1 hx2 hx3); obtain ⟨ad', e1, hx0, hx1, hx2, hx3⟩ := at_I HR.out HBW.out HI.out HX.out; cases e1; obtain ⟨am, em, hbn⟩ := Kd.at_bool (Kd.R_reads' HO9.out).2.2 ((i + 1 : Nat) : Int) (by omega) (by have := HML.out; have := HC2.out; omega); cases em; rw [HBN.out, Int.toNat_natCast, add0] at hbn))
                    refine (provisoref05_Next.calls k x.f0 x.f1 x.f2 x.f3 (nextL x) _ HNX.out.1).mono ?_
                    rintro e w9 ⟨v136, rfl, hR9, hb⟩
                    obtain ⟨A96, c96, rfl⟩ := Kd.R_slice hR9
                    have HNP := Aside0.mk HNX.out.2.2
                    obtain ⟨nx, hnx⟩ : ∃ nx, nx = nextL x := ⟨_, rfl⟩
                    have hnl : nx.length ≤ 2 := by rw [hnx]; exact nextL_le2 x
                    have HXN := Aside0.mk hnx
                    rw [← hnx] at hR9 HNP ⊢
                    have HN : Aside0 (Kd.R (Kd.int .i64) 3 w9 w.heap.size (fun j => True ∧ some j ≠ (Value.slice none 0 0).ownBlock) (.slice A96 nx.length c96) nx) := ⟨Kd.R_apart_nil (Kd.R_lower hR9 HBW.out.size)⟩
                    replace HH := Aside0.mk (Kd.H_below HH.out hb)
                    replace HO9 := Aside0.mk (Kd.R_below HO9.out hb)
                    replace HBW := Aside0.mk (below_step HBW.out hb)
                    have HV2 : Aside0 (Kd.R (Kd.int .i64) 3 w9 w.heap.size oki (.slice none 0 0) []) := ⟨Kd.R_nil _ _ _ _ _⟩
                    clear hR9 hb hnx
                    go_wp2_with fail
                    go_loopw [138] (fun v138 wr => ∃ (j : Nat) (v2 : Value) (ns : List Int) (ok2 : Nat → Prop), v138 = .int .i64 (j : Int) ∧ j ≤ nx.length ∧ Aside0 (ns = (nx.take j).filter fun a => decide (0 ≤ placeI l0 a)) ∧ Aside0 (Below w.heap.size w wr) ∧ Aside0 (Kd.R Kd.bool 4 wr w.heap.size (fun _ => True) (.slice (some ⟨g4, 0, none⟩) l0.length c4) M) ∧ Aside0 (Kd.H k35 35 wr w.heap.size (fun _ => True) (.slice (some ⟨g9, 0, none⟩) (q + 1) cap9) o1 (q : Int) ok2 [.int .i64 (o1.getD q z35).f0, .int .i64 x.f0, v2]) ∧ Aside0 (Kd.R (Kd.int .i64) 3 wr w.heap.size ok2 v2 ns) ∧ Aside0 (Kd.R (Kd.int .i64) 3 wr w.heap.size (fun j => True ∧ some j ≠ v2.ownBlock) (.slice A96 nx.length c96) nx)) (fun v138 _ => ((nx.length : Int) - intOf v138).toNat)
                    case atStart => exact ⟨0, .slice none 0 0, [], oki, rfl, Nat.zero_le _, ⟨by simp⟩, HBW, HO9, ⟨HH.out⟩, HV2, HN⟩
                    case round =>
                      clear HBW HO9 HH HV2 HN
                      obtain ⟨j, v2, ns, ok2, rfl, hj, HNS, HBW, HO9, HH, HV2, HN⟩ := hrel
                      obtain ⟨A2, c2', e2'⟩ := Kd.R_slice HV2.out
                      subst e2'
                      by_cases d3 : j < nx.length
                      · have d3b : decide ((j : Int) < (nx.length : Int)) = true := decide_eq_true (by omega)
                        obtain ⟨ad2, em2, hc⟩ := Kd.at_int (Kd.R_reads' HN.out).2.2 (j : Int) (by omega) (by omega)
                        cases em2
                        simp only [Int.toNat_natCast] at hc
                        have q5 : (0 ≤ (j : Int)) = True := eq_true (by omega)
                        have q6 : ((j : Int) < (nx.length : Int)) = True := eq_true (by omega)
                        have HKA := Aside0.mk (HNP.out _ (rd_memI d3))
                        have HNT := Aside0.mk (filter_take (fun a => decide (0 ≤ placeI l0 a)) d3)
                        have HWJ := Aside0.mk (wrap_next (show j < 4398046511104 by omega))
                        generalize rd nx (j : Int) = a at hc HKA HNT
                        go_wp2_with fail
                        clear hc
                        refine (provisoref05_Place.calls k _ _ l0 a (placeI l0 a) _ (Kd.C_below HR.out HBW.out) HCC.out HKA.out).mono ?_
                        rintro e w10 ⟨rfl, hb⟩
                        replace HO9 := Aside0.mk (Kd.R_below HO9.out hb)
                        replace HH := Aside0.mk (Kd.H_below HH.out hb)
                        replace HV2 := Aside0.mk (Kd.R_below HV2.out hb)
                        replace HN := Aside0.mk (Kd.R_below HN.out hb)
                        replace HBW := Aside0.mk (below_step HBW.out hb)
                        clear hb
                        obtain ⟨pa, hpa⟩ : ∃ pa, pa = placeI l0 a := ⟨_, rfl⟩
                        rw [← hpa]
                        by_cases d4 : 0 ≤ pa
                        · have HNS2 : Aside0 (ns ++ [a] = (nx.take (j + 1)).filter fun a => decide (0 ≤ placeI l0 a)) := ⟨by rw [HNT.out, HNS.out, ← hpa, decide_eq_true d4]; simp⟩
                          have HNL : Aside0 (ns.length ≤ 2) := ⟨by rw [HNS.out]; exact Nat.le_trans (List.length_filter_le _ _) (by rw [List.length_take]; omega)⟩
                          have d4b : decide (pa ≥ 0) = true := decide_eq_true d4
                          have d4c : decide (0 ≤ pa) = true := decide_eq_true d4
                          obtain ⟨_, _, _, _, _, hcc, _⟩ := Kd.H_raw HH.out (Int.natCast_nonneg q) (show (q : Int) < ((q + 1 : Nat) : Int) from Int.ofNat_lt.2 (Nat.lt_succ_self q))
                          have hv : w10.cell? ⟨g9, q * 3 + 2, none⟩ = some (.slice A2 ns.length c2') := hcc 2 _ rfl
                          clear hcc hpa d4
                          go_wp2_with (first | ((with_reducible refine gate_dst (N := 152) rfl ?_); refine Kd.R_lit (Kd.int .i64) _ 3 ?hg (N := 152) ?hd (xs := ([a] : List Int)) (inner := [.int .i64 a]) (ok := fun _ => True) (okp := fun _ => True) ?hr ?hp (fun _ hk => hk) trivial HBW.out HBW.out.size (by simp) ?_; (case hd => rfl); (case hg => rfl); (case hr => first | (go_simp; done) | (go_simp; rfl)); (case hp => exact (Reps.one (show Kd.M (Kd.int .i64) _ _ _ a [.int .i64 a] from rfl) (Reps.none _ _))); intro v112 w3 ho1 hb1 hg1 _; have hbn := below_none hg1; obtain ⟨A3, c3', e3'⟩ := Kd.R_slice ho1; subst e3'; have HL1 := Aside0.mk (Kd.R_reads' ho1).2.2; replace HBW := Aside0.mk (below_step HBW.out hbn); replace HH := Aside0.mk (Kd.H_widen (Kd.H_below HH.out hbn)); replace HV2 := Aside0.mk (Kd.R_mono (Kd.R_below HV2.out hbn) (fun k hk => Or.inl hk) : Kd.R (Kd.int .i64) 3 w3 w.heap.size (fun k => ok2 k ∨ True ∧ w3.heap.size ≤ k) (.slice A2 ns.length c2') ns); replace HO9 := Aside0.mk (Kd.R_below HO9.out hbn); replace HN := Aside0.mk (Kd.R_below HN.out hbn); clear ho1 hb1 hg1 hbn hv) | (at_builtin; refine Kd.R_append_rows (Kd.int .i64) (w0 := w) w.heap.size rfl (.tmp 150) (.tmp 152) 27 3 (.int .i64 0) 8 rfl Try.underlying27 (by kernel_rfl) rfl (by decide) (by omega) _ ns [a] _ _ _ (fun k => ok2 k ∨ True ∧ w3.heap.size ≤ k) (fun _ => False) rfl rfl HV2.out HL1.out (fun _ _ h => h) (fun _ h => h.elim) (fun _ hk => Or.inr ⟨trivial, hk⟩) HBW.out HBW.out.size (by have := HNL.out; simp; omega) ?_; intro v5 w4 ho hb hg hat; replace HO9 := Aside0.mk (Kd.R_over' HO9.out (Kd.R_typed HV2.out) (by decide) hg); replace HN := Aside0.mk (Kd.R_after HN.out hg hat); replace HH := Aside0.mk (Kd.H_grown HH.out hg (fun k hk => HV2.out.1 k hk)); replace HBW := Aside0.mk hb; replace HV2 := Aside0.mk ho; clear ho hb hg hat; obtain ⟨A5, c5, e5⟩ := Kd.R_slice HV2.out; subst e5) | ((with_reducible refine gate_store (t := 27) (p := 155) rfl ?_); refine h_store (o' := q * 3 + 2) k35 w.heap.size rfl rfl 27 _ _ rfl 35 (q : Int) 2 _ (.slice A5 (ns.length + 1) c5) [.slice A5 (ns.length + 1) c5] _ (fun _ => True) _ ?had_ ?hof_ ?hx_ rfl (show (Try.prog.info? 27).map (·.size) = some 1 from by kernel_rfl) (fun q9 hq9 => (List.mem_singleton.1 hq9) ▸ rfl) HH.out (Int.natCast_nonneg q) (show (q : Int) < ((q + 1 : Nat) : Int) from Int.ofNat_lt.2 (Nat.lt_succ_self q)) (show 2 + 1 ≤ 3 by decide) HBW.out ?_; (case had_ => first | rfl | (go_simp; done) | (go_simp; rfl)); (case hof_ => first | rfl | omega); (case hx_ => first | rfl | (go_simp; done) | (go_simp; rfl)); intro w_ h1_ h2_ h3_; replace HO9 := Aside0.mk (Kd.R_over' HO9.out (h_typed HH.out) (by decide) (by have h9 := h3_; simpa [Value.ownBlock] using h9)); replace HV2 := Aside0.mk (Kd.R_over' HV2.out (h_typed HH.out) (by decide) (by have h9 := h3_; simpa [Value.ownBlock] using h9)); replace HN := Aside0.mk (Kd.R_over' HN.out (h_typed HH.out) (by decide) (by have h9 := h3_; simpa [Value.ownBlock] using h9)); replace HBW := Aside0.mk h2_; replace HH := Aside0.mk h1_; clear h1_ h2_ h3_))
                          go_roundw
                          case rel => exact ⟨j + 1, .slice A5 (ns ++ [a]).length c5, ns ++ [a], _, by have := HWJ.out; first | rfl | (simp; done), by omega, HNS2, HBW, HO9, ⟨by rw [show (ns ++ [a]).length = ns.length + 1 from by simp]; refine Eq.mp ?_ HH.out; kernel_rfl⟩, HV2, HN⟩
                          case measure => simp [intOf]; omega
                        · have HNS2 : Aside0 (ns = (nx.take (j + 1)).filter fun a => decide (0 ≤ placeI l0 a)) := ⟨by rw [HNT.out, HNS.out, ← hpa, decide_eq_false d4]; simp⟩
                          have d4b : decide (pa ≥ 0) = false := decide_eq_false d4
                          have d4c : decide (0 ≤ pa) = false := decide_eq_false d4
                          clear hpa d4
                          go_wp2
                          go_roundw
                          case rel => exact ⟨j + 1, .slice A2 ns.length c2', ns, ok2, by have := HWJ.out; first | rfl | (simp; done), by omega, HNS2, HBW, HO9, HH, HV2, HN⟩
                          case measure => simp [intOf]; omega
                      · have d3b : decide ((j : Int) < (nx.length : Int)) = false := decide_eq_false (by omega)
                        have d3c : decide (j < nx.length) = false := decide_eq_false (by omega)
                        have HNS2 : Aside0 (ns = nxR l0 M i) := ⟨by rw [HN0.out, ← HXN.out, HNS.out, List.take_of_length_le (by omega)]⟩
                        clear d3 hj
                        go_wp2_with fail
                        go_roundw
                        case rel =>
                          have h9 := Kd.H_back HH.out (x' := ⟨(o1.getD q z35).f0, x.f0, ns⟩) (okp := ok2) (blk_M HV2.out) (fun _ hk => hk)
                          rw [Int.toNat_natCast] at h9
                          exact ⟨i + 1, by have := HW.out; first | rfl | (simp; done), by omega, HBW, HO9, ⟨by rw [outR_step, ← HO1.out, HQ.out, show q + 1 - 1 = q from rfl, ← HX.out, ← HNS2.out]; exact h9⟩⟩
                        case measure => simp [intOf]; omega
                  | false =>
                    have HN0 : Aside0 (nxR l0 M i = []) := ⟨by unfold nxR; rw [if_neg (by rintro (h9 | h9); exact d1 h9; rw [h9] at hbn9; cases hbn9)]⟩
                    have HBN : Aside0 (rdOf false M ((i + 1 : Nat) : Int) = false) := ⟨by unfold rdOf; rw [Int.toNat_natCast]; exact hbn9⟩
                    have d1b : (((i : Int) + 1) == (l0.length : Int)) = false := by rw [beq_eq_false_iff_ne]; omega
                    have d1c : decide (((i : Int) + 1) = (l0.length : Int)) = false := decide_eq_false (by omega)
                    have p7 : (0 ≤ (i : Int) + 1) = True := eq_true (by omega)
                    have p8 : ((i : Int) + 1 < (l0.length : Int)) = True := eq_true (by omega)
                    have p9 : ((i : Int) + 1).toNat = i + 1 := by omega
                    have HD1 := Aside0.mk d1
                    clear d1 hbn9
                    go_wp2_with (first | (at_builtin; refine S_append1 k35 (w0 := w) w.heap.size rfl (.tmp 95) (.tmp 102) 29 35 (.agg #[.int .i64 0, .int .i64 0, .slice none 0 0]) 40 rfl Try.underlying29 (by kernel_rfl) rfl (by show (0 : Nat) < 3; decide) (by decide) (.slice A10 (outR l0 M i).length c10) (outR l0 M i) (⟨x.f0, 0, []⟩ : S35) [.int .i64 x.f0, .int .i64 0, .slice none 0 0] (fun _ => True) (fun _ => False) rfl rfl (blk_M (Kd.R_nil _ _ _ _ _)) (fun _ hk => hk.elim) (fun _ _ => trivial) (Kd.S_mono HS9.out (fun _ _ => ⟨trivial, fun h9 => h9⟩)) HBW.out HBW.out.size (by have := HOL.out; have := HL.out; unfold maxLen; omega) (blk_fits (by have := HOL.out; have := HL.out; omega)) ?_; intro v7 w7 ho hb hg hat; replace HO9 := Aside0.mk (Kd.R_over' HO9.out (Kd.S_typed HS9.out) (by decide) hg); replace HBW := Aside0.mk hb; rw [← HA.out] at ho; replace HS9 := Aside0.mk ho; clear ho hb hg hat hbm; obtain ⟨g9, cap9, e9, _, _, _⟩ := Kd.S_form HS9.out (Nat.lt_of_lt_of_eq (Nat.succ_pos q) HQ.out.symm); rw [HQ.out] at e9; subst e9; obtain ⟨oki, cl, hcl, hM, hcc, hok, hH⟩ := Kd.S_lend HS9.out z35 (q : Int) (by omega) (by omega); rw [Int.toNat_natCast] at hM; obtain ⟨v0, rfl, hv0⟩ := blk_parts hM; have HH := Aside0.mk hH; clear hcl hM hcc hok hH hv0; (try clear hx0 hx1 hx2 hx3); obtain ⟨ad', e1, hx0, hx1, hx2, hx3⟩ := at_I HR.out HBW.out HI.out HX.out; cases e1) | ((with_reducible refine gate_store (t := 3) (p := 116) rfl ?_); refine h_store (o' := q * 3 + 1) k35 w.heap.size rfl rfl 3 _ _ rfl 35 (q : Int) 1 _ (.int .i64 x.f0) [.int .i64 x.f0] _ (fun _ => True) oki ?had_ ?hof_ ?hx_ rfl (show (Try.prog.info? 3).map (·.size) = some 1 from by kernel_rfl) (fun q9 hq9 => (List.mem_singleton.1 hq9) ▸ rfl) HH.out (Int.natCast_nonneg q) (show (q : Int) < ((q + 1 : Nat) : Int) from Int.ofNat_lt.2 (Nat.lt_succ_self q)) (show 1 + 1 ≤ 3 by decide) HBW.out ?_; (case had_ => first | rfl | (go_simp; done) | (go_simp; rfl)); (case hof_ => first | rfl | omega); (case hx_ => first | rfl | (go_simp; done) | (go_simp; rfl)); intro w_ h1_ h2_ h3_; replace HO9 := Aside0.mk (Kd.R_over' HO9.out (h_typed HH.out) (by decide) (by have h9 := h3_; simpa [Value.ownBlock] using h9)); replace HBW := Aside0.mk h2_; replace HH := Aside0.mk h1_; clear h1_ h2_ h3_; (try clear hx0 hx1 hx2 hx3); obtain ⟨ad', e1, hx0, hx1, hx2, hx3⟩ := at_I HR.out HBW.out HI.out HX.out; cases e1) | ((with_reducible refine gate_store (t := 27) (p := 119) rfl ?_); refine h_store (o' := q * 3 + 2) k35 w.heap.size rfl rfl 27 _ _ rfl 35 (q : Int) 2 _ (.slice none 0 0) [.slice none 0 0] _ (fun _ => True) oki ?had_ ?hof_ ?hx_ rfl (show (Try.prog.info? 27).map (·.size) = some 1 from by kernel_rfl) (fun q9 hq9 => (List.mem_singleton.1 hq9) ▸ rfl) HH.out (Int.natCast_nonneg q) (show (q : Int) < ((q + 1 : Nat) : Int) from Int.ofNat_lt.2 (Nat.lt_succ_self q)) (show 2 + 1 ≤ 3 by decide) HBW.out ?_; (case had_ => first | rfl | (go_simp; done) | (go_simp; rfl)); (case hof_ => first | rfl | omega); (case hx_ => first | rfl | (go_simp; done) | (go_simp; rfl)); intro w_ h1_ h2_ h3_; replace HO9 := Aside0.mk (Kd.R_over' HO9.out (h_typed HH.out) (by decide) (by have h9 := h3_; simpa [Value.ownBlock] using h9)); replace HBW := Aside0.mk h2_; replace HH := Aside0.mk h1_; clear h1_ h2_ h3_; (try clear hx0 hx1 hx2 hx3); obtain ⟨ad', e1, hx0, hx1, hx2, hx3⟩ := at_I HR.out HBW.out HI.out HX.out; cases e1; obtain ⟨am, em, hbn⟩ := Kd.at_bool (Kd.R_reads' HO9.out).2.2 ((i + 1 : Nat) : Int) (by omega) (by have := HML.out; have := HD1.out; omega); cases em; rw [HBN.out, Int.toNat_natCast, add0] at hbn))
                    go_roundw
                    case rel =>
                      have h9 := Kd.H_back HH.out (x' := ⟨(o1.getD q z35).f0, x.f0, []⟩) (okp := fun _ => False) (blk_M (Kd.R_nil _ _ _ _ _)) (fun _ hk => hk.elim)
                      rw [Int.toNat_natCast] at h9
                      exact ⟨i + 1, by have := HW.out; first | rfl | (simp; done), by omega, HBW, HO9, ⟨by rw [outR_step, ← HO1.out, HQ.out, show q + 1 - 1 = q from rfl, ← HX.out, HN0.out]; exact h9⟩⟩
                    case measure => simp [intOf]; omega
              | false =>
                have ho9 : o1 = outR l0 M i := by rw [HO1.out]; unfold addR; rw [hm]; rfl
                rw [hm] at hbm
                rw [← ho9] at HS9 ⊢
                have hq9 := HQ.out
                rw [hq9] at HS9 ⊢
                clear hm ho9 hq9
                obtain ⟨g9, cap9, e9, _, _, _⟩ := Kd.S_form HS9.out (Nat.lt_of_lt_of_eq (Nat.succ_pos q) HQ.out.symm)
                rw [HQ.out] at e9
                injection e9 with e91 e92 e93
                subst e91
                have e94 := e93.symm
                subst e94
                obtain ⟨oki, cl, hcl, hM, hcc, hok, hH⟩ := Kd.S_lend HS9.out z35 (q : Int) (by omega) (by omega)
                rw [Int.toNat_natCast] at hM
                obtain ⟨v0, rfl, hv0⟩ := blk_parts hM
                have HH := Aside0.mk hH
                clear hcl hM hcc hok hH hv0
                by_cases d1 : i + 1 = l0.length
                · 
                  have HN0 : Aside0 (nxR l0 M i = (nextL x).filter (fun a => decide (0 ≤ placeI l0 a))) := ⟨by rw [HX.out]; unfold nxR; rw [if_pos (Or.inl d1)]⟩
                  have d1b : (((i : Int) + 1) == (l0.length : Int)) = true := by rw [beq_iff_eq]; omega
                  have d1c : decide (((i : Int) + 1) = (l0.length : Int)) = true := decide_eq_true (by omega)
                  clear d1
                  go_wp2_with (first | ((with_reducible refine gate_store (t := 3) (p := 116) rfl ?_); refine h_store (o' := q * 3 + 1) k35 w.heap.size rfl rfl 3 _ _ rfl 35 (q : Int) 1 _ (.int .i64 x.f0) [.int .i64 x.f0] _ (fun _ => True) oki ?had_ ?hof_ ?hx_ rfl (show (Try.prog.info? 3).map (·.size) = some 1 from by kernel_rfl) (fun q9 hq9 => (List.mem_singleton.1 hq9) ▸ rfl) HH.out (Int.natCast_nonneg q) (show (q : Int) < ((q + 1 : Nat) : Int) from Int.ofNat_lt.2 (Nat.lt_succ_self q)) (show 1 + 1 ≤ 3 by decide) HBW.out ?_; (case had_ => first | rfl | (go_simp; done) | (go_simp; rfl)); (case hof_ => first | rfl | omega); (case hx_ => first | rfl | (go_simp; done) | (go_simp; rfl)); intro w_ h1_ h2_ h3_; replace HO9 := Aside0.mk (Kd.R_over' HO9.out (h_typed HH.out) (by decide) (by have h9 := h3_; simpa [Value.ownBlock] using h9)); replace HBW := Aside0.mk h2_; replace HH := Aside0.mk h1_; clear h1_ h2_ h3_; (try clear hx0 hx1 hx2 hx3); obtain ⟨ad', e1, hx0, hx1, hx2, hx3⟩ := at_I HR.out HBW.out HI.out HX.out; cases e1) | ((with_reducible refine gate_store (t := 27) (p := 119) rfl ?_); refine h_store (o' := q * 3 + 2) k35 w.heap.size rfl rfl 27 _ _ rfl 35 (q : Int) 2 _ (.slice none 0 0) [.slice none 0 0] _ (fun _ => True) oki ?had_ ?hof_ ?hx_ rfl (show (Try.prog.info? 27).map (·.size) = some 1 from by kernel_rfl) (fun q9 hq9 => (List.mem_singleton.1 hq9) ▸ rfl) HH.out (Int.natCast_nonneg q) (show (q : Int) < ((q + 1 : Nat) : Int) from Int.ofNat_lt.2 (Nat.lt_succ_self q)) (show 2 + 1 ≤ 3 by decide) HBW.out ?_; (case had_ => first | rfl | (go_simp; done) | (go_simp; rfl)); (case hof_ => first | rfl | omega); (case hx_ => first | rfl | (go_simp; done) | (go_simp; rfl)); intro w_ h1_ h2_ h3_; replace HO9 := Aside0.mk (Kd.R_over' HO9.out (h_typed HH.out) (by decide) (by have h9 := h3_; simpa [Value.ownBlock] using h9)); replace HBW := Aside0.mk h2_; replace HH := Aside0.mk h1_; clear h1_ h2_ h3_; (try clear hx0 hx1 hx2 hx3); obtain ⟨ad', e1, hx0, hx1, hx2, hx3⟩ := at_I HR.out HBW.out HI.out HX.out; cases e1))
                  refine (provisoref05_Next.calls k x.f0 x.f1 x.f2 x.f3 (nextL x) _ HNX.out.1).mono ?_
                  rintro e w9 ⟨v136, rfl, hR9, hb⟩
                  obtain ⟨A96, c96, rfl⟩ := Kd.R_slice hR9
                  have HNP := Aside0.mk HNX.out.2.2
                  obtain ⟨nx, hnx⟩ : ∃ nx, nx = nextL x := ⟨_, rfl⟩
                  have hnl : nx.length ≤ 2 := by rw [hnx]; exact nextL_le2 x
                  have HXN := Aside0.mk hnx
                  rw [← hnx] at hR9 HNP ⊢
                  have HN : Aside0 (Kd.R (Kd.int .i64) 3 w9 w.heap.size (fun j => True ∧ some j ≠ (Value.slice none 0 0).ownBlock) (.slice A96 nx.length c96) nx) := ⟨Kd.R_apart_nil (Kd.R_lower hR9 HBW.out.size)⟩
                  replace HH := Aside0.mk (Kd.H_below HH.out hb)
                  replace HO9 := Aside0.mk (Kd.R_below HO9.out hb)
                  replace HBW := Aside0.mk (below_step HBW.out hb)
                  have HV2 : Aside0 (Kd.R (Kd.int .i64) 3 w9 w.heap.size oki (.slice none 0 0) []) := ⟨Kd.R_nil _ _ _ _ _⟩
                  clear hR9 hb hnx
                  go_wp2_with fail
                  go_loopw [138] (fun v138 wr => ∃ (j : Nat) (v2 : Value) (ns : List Int) (ok2 : Nat → Prop), v138 = .int .i64 (j : Int) ∧ j ≤ nx.length ∧ Aside0 (ns = (nx.take j).filter fun a => decide (0 ≤ placeI l0 a)) ∧ Aside0 (Below w.heap.size w wr) ∧ Aside0 (Kd.R Kd.bool 4 wr w.heap.size (fun _ => True) (.slice (some ⟨g4, 0, none⟩) l0.length c4) M) ∧ Aside0 (Kd.H k35 35 wr w.heap.size (fun _ => True) (.slice (some ⟨g9, 0, none⟩) (q + 1) cap9) o1 (q : Int) ok2 [.int .i64 (o1.getD q z35).f0, .int .i64 x.f0, v2]) ∧ Aside0 (Kd.R (Kd.int .i64) 3 wr w.heap.size ok2 v2 ns) ∧ Aside0 (Kd.R (Kd.int .i64) 3 wr w.heap.size (fun j => True ∧ some j ≠ v2.ownBlock) (.slice A96 nx.length c96) nx)) (fun v138 _ => ((nx.length : Int) - intOf v138).toNat)
                  case atStart => exact ⟨0, .slice none 0 0, [], oki, rfl, Nat.zero_le _, ⟨by simp⟩, HBW, HO9, ⟨HH.out⟩, HV2, HN⟩
                  case round =>
                    clear HBW HO9 HH HV2 HN
                    obtain ⟨j, v2, ns, ok2, rfl, hj, HNS, HBW, HO9, HH, HV2, HN⟩ := hrel
                    obtain ⟨A2, c2', e2'⟩ := Kd.R_slice HV2.out
                    subst e2'
                    by_cases d3 : j < nx.length
                    · have d3b : decide ((j : Int) < (nx.length : Int)) = true := decide_eq_true (by omega)
                      obtain ⟨ad2, em2, hc⟩ := Kd.at_int (Kd.R_reads' HN.out).2.2 (j : Int) (by omega) (by omega)
                      cases em2
                      simp only [Int.toNat_natCast] at hc
                      have q5 : (0 ≤ (j : Int)) = True := eq_true (by omega)
                      have q6 : ((j : Int) < (nx.length : Int)) = True := eq_true (by omega)
                      have HKA := Aside0.mk (HNP.out _ (rd_memI d3))
                      have HNT := Aside0.mk (filter_take (fun a => decide (0 ≤ placeI l0 a)) d3)
                      have HWJ := Aside0.mk (wrap_next (show j < 4398046511104 by omega))
                      generalize rd nx (j : Int) = a at hc HKA HNT
                      go_wp2_with fail
                      clear hc
                      refine (provisoref05_Place.calls k _ _ l0 a (placeI l0 a) _ (Kd.C_below HR.out HBW.out) HCC.out HKA.out).mono ?_
                      rintro e w10 ⟨rfl, hb⟩
                      replace HO9 := Aside0.mk (Kd.R_below HO9.out hb)
                      replace HH := Aside0.mk (Kd.H_below HH.out hb)
                      replace HV2 := Aside0.mk (Kd.R_below HV2.out hb)
                      replace HN := Aside0.mk (Kd.R_below HN.out hb)
                      replace HBW := Aside0.mk (below_step HBW.out hb)
                      clear hb
                      obtain ⟨pa, hpa⟩ : ∃ pa, pa = placeI l0 a := ⟨_, rfl⟩
                      rw [← hpa]
                      by_cases d4 : 0 ≤ pa
                      · have HNS2 : Aside0 (ns ++ [a] = (nx.take (j + 1)).filter fun a => decide (0 ≤ placeI l0 a)) := ⟨by rw [HNT.out, HNS.out, ← hpa, decide_eq_true d4]; simp⟩
                        have HNL : Aside0 (ns.length ≤ 2) := ⟨by rw [HNS.out]; exact Nat.le_trans (List.length_filter_le _ _) (by rw [List.length_take]; omega)⟩
                        have d4b : decide (pa ≥ 0) = true := decide_eq_true d4
                        have d4c : decide (0 ≤ pa) = true := decide_eq_true d4
                        obtain ⟨_, _, _, _, _, hcc, _⟩ := Kd.H_raw HH.out (Int.natCast_nonneg q) (show (q : Int) < ((q + 1 : Nat) : Int) from Int.ofNat_lt.2 (Nat.lt_succ_self q))
                        have hv : w10.cell? ⟨g9, q * 3 + 2, none⟩ = some (.slice A2 ns.length c2') := hcc 2 _ rfl
                        clear hcc hpa d4
                        go_wp2_with (first | ((with_reducible refine gate_dst (N := 152) rfl ?_); refine Kd.R_lit (Kd.int .i64) _ 3 ?hg (N := 152) ?hd (xs := ([a] : List Int)) (inner := [.int .i64 a]) (ok := fun _ => True) (okp := fun _ => True) ?hr ?hp (fun _ hk => hk) trivial HBW.out HBW.out.size (by simp) ?_; (case hd => rfl); (case hg => rfl); (case hr => first | (go_simp; done) | (go_simp; rfl)); (case hp => exact (Reps.one (show Kd.M (Kd.int .i64) _ _ _ a [.int .i64 a] from rfl) (Reps.none _ _))); intro v112 w3 ho1 hb1 hg1 _; have hbn := below_none hg1; obtain ⟨A3, c3', e3'⟩ := Kd.R_slice ho1; subst e3'; have HL1 := Aside0.mk (Kd.R_reads' ho1).2.2; replace HBW := Aside0.mk (below_step HBW.out hbn); replace HH := Aside0.mk (Kd.H_widen (Kd.H_below HH.out hbn)); replace HV2 := Aside0.mk (Kd.R_mono (Kd.R_below HV2.out hbn) (fun k hk => Or.inl hk) : Kd.R (Kd.int .i64) 3 w3 w.heap.size (fun k => ok2 k ∨ True ∧ w3.heap.size ≤ k) (.slice A2 ns.length c2') ns); replace HO9 := Aside0.mk (Kd.R_below HO9.out hbn); replace HN := Aside0.mk (Kd.R_below HN.out hbn); clear ho1 hb1 hg1 hbn hv) | (at_builtin; refine Kd.R_append_rows (Kd.int .i64) (w0 := w) w.heap.size rfl (.tmp 150) (.tmp 152) 27 3 (.int .i64 0) 8 rfl Try.underlying27 (by kernel_rfl) rfl (by decide) (by omega) _ ns [a] _ _ _ (fun k => ok2 k ∨ True ∧ w3.heap.size ≤ k) (fun _ => False) rfl rfl HV2.out HL1.out (fun _ _ h => h) (fun _ h => h.elim) (fun _ hk => Or.inr ⟨trivial, hk⟩) HBW.out HBW.out.size (by have := HNL.out; simp; omega) ?_; intro v5 w4 ho hb hg hat; replace HO9 := Aside0.mk (Kd.R_over' HO9.out (Kd.R_typed HV2.out) (by decide) hg); replace HN := Aside0.mk (Kd.R_after HN.out hg hat); replace HH := Aside0.mk (Kd.H_grown HH.out hg (fun k hk => HV2.out.1 k hk)); replace HBW := Aside0.mk hb; replace HV2 := Aside0.mk ho; clear ho hb hg hat; obtain ⟨A5, c5, e5⟩ := Kd.R_slice HV2.out; subst e5) | ((with_reducible refine gate_store (t := 27) (p := 155) rfl ?_); refine h_store (o' := q * 3 + 2) k35 w.heap.size rfl rfl 27 _ _ rfl 35 (q : Int) 2 _ (.slice A5 (ns.length + 1) c5) [.slice A5 (ns.length + 1) c5] _ (fun _ => True) _ ?had_ ?hof_ ?hx_ rfl (show (Try.prog.info? 27).map (·.size) = some 1 from by kernel_rfl) (fun q9 hq9 => (List.mem_singleton.1 hq9) ▸ rfl) HH.out (Int.natCast_nonneg q) (show (q : Int) < ((q + 1 : Nat) : Int) from Int.ofNat_lt.2 (Nat.lt_succ_self q)) (show 2 + 1 ≤ 3 by decide) HBW.out ?_; (case had_ => first | rfl | (go_simp; done) | (go_simp; rfl)); (case hof_ => first | rfl | omega); (case hx_ => first | rfl | (go_simp; done) | (go_simp; rfl)); intro w_ h1_ h2_ h3_; replace HO9 := Aside0.mk (Kd.R_over' HO9.out (h_typed HH.out) (by decide) (by have h9 := h3_; simpa [Value.ownBlock] using h9)); replace HV2 := Aside0.mk (Kd.R_over' HV2.out (h_typed HH.out) (by decide) (by have h9 := h3_; simpa [Value.ownBlock] using h9)); replace HN := Aside0.mk (Kd.R_over' HN.out (h_typed HH.out) (by decide) (by have h9 := h3_; simpa [Value.ownBlock] using h9)); replace HBW := Aside0.mk h2_; replace HH := Aside0.mk h1_; clear h1_ h2_ h3_))
                        go_roundw
                        case rel => exact ⟨j + 1, .slice A5 (ns ++ [a]).length c5, ns ++ [a], _, by have := HWJ.out; first | rfl | (simp; done), by omega, HNS2, HBW, HO9, ⟨by rw [show (ns ++ [a]).length = ns.length + 1 from by simp]; refine Eq.mp ?_ HH.out; kernel_rfl⟩, HV2, HN⟩
                        case measure => simp [intOf]; omega
                      · have HNS2 : Aside0 (ns = (nx.take (j + 1)).filter fun a => decide (0 ≤ placeI l0 a)) := ⟨by rw [HNT.out, HNS.out, ← hpa, decide_eq_false d4]; simp⟩
                        have d4b : decide (pa ≥ 0) = false := decide_eq_false d4
                        have d4c : decide (0 ≤ pa) = false := decide_eq_false d4
                        clear hpa d4
                        go_wp2
                        go_roundw
                        case rel => exact ⟨j + 1, .slice A2 ns.length c2', ns, ok2, by have := HWJ.out; first | rfl | (simp; done), by omega, HNS2, HBW, HO9, HH, HV2, HN⟩
                        case measure => simp [intOf]; omega
                    · have d3b : decide ((j : Int) < (nx.length : Int)) = false := decide_eq_false (by omega)
                      have d3c : decide (j < nx.length) = false := decide_eq_false (by omega)
                      have HNS2 : Aside0 (ns = nxR l0 M i) := ⟨by rw [HN0.out, ← HXN.out, HNS.out, List.take_of_length_le (by omega)]⟩
                      clear d3 hj
                      go_wp2_with fail
                      go_roundw
                      case rel =>
                        have h9 := Kd.H_back HH.out (x' := ⟨(o1.getD q z35).f0, x.f0, ns⟩) (okp := ok2) (blk_M HV2.out) (fun _ hk => hk)
                        rw [Int.toNat_natCast] at h9
                        exact ⟨i + 1, by have := HW.out; first | rfl | (simp; done), by omega, HBW, HO9, ⟨by rw [outR_step, ← HO1.out, HQ.out, show q + 1 - 1 = q from rfl, ← HX.out, ← HNS2.out]; exact h9⟩⟩
                      case measure => simp [intOf]; omega
                · cases hbn9 : M.getD (i + 1) false with
                  | true =>
                    have HN0 : Aside0 (nxR l0 M i = (nextL x).filter (fun a => decide (0 ≤ placeI l0 a))) := ⟨by rw [HX.out]; unfold nxR; rw [if_pos (Or.inr hbn9)]⟩
                    have HBN : Aside0 (rdOf false M ((i + 1 : Nat) : Int) = true) := ⟨by unfold rdOf; rw [Int.toNat_natCast]; exact hbn9⟩
                    have HC2 : Aside0 (i + 1 < l0.length) := ⟨by omega⟩
                    have d1b : (((i : Int) + 1) == (l0.length : Int)) = false := by rw [beq_eq_false_iff_ne]; omega
                    have d1c : decide (((i : Int) + 1) = (l0.length : Int)) = false := decide_eq_false (by omega)
                    have p7 : (0 ≤ (i : Int) + 1) = True := eq_true (by omega)
                    have p8 : ((i : Int) + 1 < (l0.length : Int)) = True := eq_true (by omega)
                    have p9 : ((i : Int) + 1).toNat = i + 1 := by omega
                    clear d1 hbn9
                    go_wp2_with (first | ((with_reducible refine gate_store (t := 3) (p := 116) rfl ?_); refine h_store (o' := q * 3 + 1) k35 w.heap.size rfl rfl 3 _ _ rfl 35 (q : Int) 1 _ (.int .i64 x.f0) [.int .i64 x.f0] _ (fun _ => True) oki ?had_ ?hof_ ?hx_ rfl (show (Try.prog.info? 3).map (·.size) = some 1 from by kernel_rfl) (fun q9 hq9 => (List.mem_singleton.1 hq9) ▸ rfl) HH.out (Int.natCast_nonneg q) (show (q : Int) < ((q + 1 : Nat) : Int) from Int.ofNat_lt.2 (Nat.lt_succ_self q)) (show 1 + 1 ≤ 3 by decide) HBW.out ?_; (case had_ => first | rfl | (go_simp; done) | (go_simp; rfl)); (case hof_ => first | rfl | omega); (case hx_ => first | rfl | (go_simp; done) | (go_simp; rfl)); intro w_ h1_ h2_ h3_; replace HO9 := Aside0.mk (Kd.R_over' HO9.out (h_typed HH.out) (by decide) (by have h9 := h3_; simpa [Value.ownBlock] using h9)); replace HBW := Aside0.mk h2_; replace HH := Aside0.mk h1_; clear h1_ h2_ h3_; (try clear hx0 hx1 hx2 hx3); obtain ⟨ad', e1, hx0, hx1, hx2, hx3⟩ := at_I HR.out HBW.out HI.out HX.out; cases e1) | ((with_reducible refine gate_store (t := 27) (p := 119) rfl ?_); refine h_store (o' := q * 3 + 2) k35 w.heap.size rfl rfl 27 _ _ rfl 35 (q : Int) 2 _ (.slice none 0 0) [.slice none 0 0] _ (fun _ => True) oki ?had_ ?hof_ ?hx_ rfl (show (Try.prog.info? 27).map (·.size) = some 1 from by kernel_rfl) (fun q9 hq9 => (List.mem_singleton.1 hq9) ▸ rfl) HH.out (Int.natCast_nonneg q) (show (q : Int) < ((q + 1 : Nat) : Int) from Int.ofNat_lt.2 (Nat.lt_succ_self q)) (show 2 + 1 ≤ 3 by decide) HBW.out ?_; (case had_ => first | rfl | (go_simp; done) | (go_simp; rfl)); (case hof_ => first | rfl | omega); (case hx_ => first | rfl | (go_simp; done) | (go_simp; rfl)); intro w_ h1_ h2_ h3_; replace HO9 := Aside0.mk (Kd.R_over' HO9.out (h_typed HH.out) (by decide) (by have h9 := h3_; simpa [Value.ownBlock] using h9)); replace HBW := Aside0.mk h2_; replace HH := Aside0.mk h1_; clear h1_ h2_ h3_; (try clear hx0 hx1 hx2 hx3); obtain ⟨ad', e1, hx0, hx1, hx2, hx3⟩ := at_I HR.out HBW.out HI.out HX.out; cases e1; obtain ⟨am, em, hbn⟩ := Kd.at_bool (Kd.R_reads' HO9.out).2.2 ((i + 1 : Nat) : Int) (by omega) (by have := HML.out; have := HC2.out; omega); cases em; rw [HBN.out, Int.toNat_natCast, add0] at hbn))
                    refine (provisoref05_Next.calls k x.f0 x.f1 x.f2 x.f3 (nextL x) _ HNX.out.1).mono ?_
                    rintro e w9 ⟨v136, rfl, hR9, hb⟩
                    obtain ⟨A96, c96, rfl⟩ := Kd.R_slice hR9
                    have HNP := Aside0.mk HNX.out.2.2
                    obtain ⟨nx, hnx⟩ : ∃ nx, nx = nextL x := ⟨_, rfl⟩
                    have hnl : nx.length ≤ 2 := by rw [hnx]; exact nextL_le2 x
                    have HXN := Aside0.mk hnx
                    rw [← hnx] at hR9 HNP ⊢
                    have HN : Aside0 (Kd.R (Kd.int .i64) 3 w9 w.heap.size (fun j => True ∧ some j ≠ (Value.slice none 0 0).ownBlock) (.slice A96 nx.length c96) nx) := ⟨Kd.R_apart_nil (Kd.R_lower hR9 HBW.out.size)⟩
                    replace HH := Aside0.mk (Kd.H_below HH.out hb)
                    replace HO9 := Aside0.mk (Kd.R_below HO9.out hb)
                    replace HBW := Aside0.mk (below_step HBW.out hb)
                    have HV2 : Aside0 (Kd.R (Kd.int .i64) 3 w9 w.heap.size oki (.slice none 0 0) []) := ⟨Kd.R_nil _ _ _ _ _⟩
                    clear hR9 hb hnx
                    go_wp2_with fail
                    go_loopw [138] (fun v138 wr => ∃ (j : Nat) (v2 : Value) (ns : List Int) (ok2 : Nat → Prop), v138 = .int .i64 (j : Int) ∧ j ≤ nx.length ∧ Aside0 (ns = (nx.take j).filter fun a => decide (0 ≤ placeI l0 a)) ∧ Aside0 (Below w.heap.size w wr) ∧ Aside0 (Kd.R Kd.bool 4 wr w.heap.size (fun _ => True) (.slice (some ⟨g4, 0, none⟩) l0.length c4) M) ∧ Aside0 (Kd.H k35 35 wr w.heap.size (fun _ => True) (.slice (some ⟨g9, 0, none⟩) (q + 1) cap9) o1 (q : Int) ok2 [.int .i64 (o1.getD q z35).f0, .int .i64 x.f0, v2]) ∧ Aside0 (Kd.R (Kd.int .i64) 3 wr w.heap.size ok2 v2 ns) ∧ Aside0 (Kd.R (Kd.int .i64) 3 wr w.heap.size (fun j => True ∧ some j ≠ v2.ownBlock) (.slice A96 nx.length c96) nx)) (fun v138 _ => ((nx.length : Int) - intOf v138).toNat)
                    case atStart => exact ⟨0, .slice none 0 0, [], oki, rfl, Nat.zero_le _, ⟨by simp⟩, HBW, HO9, ⟨HH.out⟩, HV2, HN⟩
                    case round =>
                      clear HBW HO9 HH HV2 HN
                      obtain ⟨j, v2, ns, ok2, rfl, hj, HNS, HBW, HO9, HH, HV2, HN⟩ := hrel
                      obtain ⟨A2, c2', e2'⟩ := Kd.R_slice HV2.out
                      subst e2'
                      by_cases d3 : j < nx.length
                      · have d3b : decide ((j : Int) < (nx.length : Int)) = true := decide_eq_true (by omega)
                        obtain ⟨ad2, em2, hc⟩ := Kd.at_int (Kd.R_reads' HN.out).2.2 (j : Int) (by omega) (by omega)
                        cases em2
                        simp only [Int.toNat_natCast] at hc
                        have q5 : (0 ≤ (j : Int)) = True := eq_true (by omega)
                        have q6 : ((j : Int) < (nx.length : Int)) = True := eq_true (by omega)
                        have HKA := Aside0.mk (HNP.out _ (rd_memI d3))
                        have HNT := Aside0.mk (filter_take (fun a => decide (0 ≤ placeI l0 a)) d3)
                        have HWJ := Aside0.mk (wrap_next (show j < 4398046511104 by omega))
                        generalize rd nx (j : Int) = a at hc HKA HNT
                        go_wp2_with fail
                        clear hc
                        refine (provisoref05_Place.calls k _ _ l0 a (placeI l0 a) _ (Kd.C_below HR.out HBW.out) HCC.out HKA.out).mono ?_
                        rintro e w10 ⟨rfl, hb⟩
                        replace HO9 := Aside0.mk (Kd.R_below HO9.out hb)
                        replace HH := Aside0.mk (Kd.H_below HH.out hb)
                        replace HV2 := Aside0.mk (Kd.R_below HV2.out hb)
                        replace HN := Aside0.mk (Kd.R_below HN.out hb)
                        replace HBW := Aside0.mk (below_step HBW.out hb)
                        clear hb
                        obtain ⟨pa, hpa⟩ : ∃ pa, pa = placeI l0 a := ⟨_, rfl⟩
                        rw [← hpa]
                        by_cases d4 : 0 ≤ pa
                        · have HNS2 : Aside0 (ns ++ [a] = (nx.take (j + 1)).filter fun a => decide (0 ≤ placeI l0 a)) := ⟨by rw [HNT.out, HNS.out, ← hpa, decide_eq_true d4]; simp⟩
                          have HNL : Aside0 (ns.length ≤ 2) := ⟨by rw [HNS.out]; exact Nat.le_trans (List.length_filter_le _ _) (by rw [List.length_take]; omega)⟩
                          have d4b : decide (pa ≥ 0) = true := decide_eq_true d4
                          have d4c : decide (0 ≤ pa) = true := decide_eq_true d4
                          obtain ⟨_, _, _, _, _, hcc, _⟩ := Kd.H_raw HH.out (Int.natCast_nonneg q) (show (q : Int) < ((q + 1 : Nat) : Int) from Int.ofNat_lt.2 (Nat.lt_succ_self q))
                          have hv : w10.cell? ⟨g9, q * 3 + 2, none⟩ = some (.slice A2 ns.length c2') := hcc 2 _ rfl
                          clear hcc hpa d4
                          go_wp2_with (first | ((with_reducible refine gate_dst (N := 152) rfl ?_); refine Kd.R_lit (Kd.int .i64) _ 3 ?hg (N := 152) ?hd (xs := ([a] : List Int)) (inner := [.int .i64 a]) (ok := fun _ => True) (okp := fun _ => True) ?hr ?hp (fun _ hk => hk) trivial HBW.out HBW.out.size (by simp) ?_; (case hd => rfl); (case hg => rfl); (case hr => first | (go_simp; done) | (go_simp; rfl)); (case hp => exact (Reps.one (show Kd.M (Kd.int .i64) _ _ _ a [.int .i64 a] from rfl) (Reps.none _ _))); intro v112 w3 ho1 hb1 hg1 _; have hbn := below_none hg1; obtain ⟨A3, c3', e3'⟩ := Kd.R_slice ho1; subst e3'; have HL1 := Aside0.mk (Kd.R_reads' ho1).2.2; replace HBW := Aside0.mk (below_step HBW.out hbn); replace HH := Aside0.mk (Kd.H_widen (Kd.H_below HH.out hbn)); replace HV2 := Aside0.mk (Kd.R_mono (Kd.R_below HV2.out hbn) (fun k hk => Or.inl hk) : Kd.R (Kd.int .i64) 3 w3 w.heap.size (fun k => ok2 k ∨ True ∧ w3.heap.size ≤ k) (.slice A2 ns.length c2') ns); replace HO9 := Aside0.mk (Kd.R_below HO9.out hbn); replace HN := Aside0.mk (Kd.R_below HN.out hbn); clear ho1 hb1 hg1 hbn hv) | (at_builtin; refine Kd.R_append_rows (Kd.int .i64) (w0 := w) w.heap.size rfl (.tmp 150) (.tmp 152) 27 3 (.int .i64 0) 8 rfl Try.underlying27 (by kernel_rfl) rfl (by decide) (by omega) _ ns [a] _ _ _ (fun k => ok2 k ∨ True ∧ w3.heap.size ≤ k) (fun _ => False) rfl rfl HV2.out HL1.out (fun _ _ h => h) (fun _ h => h.elim) (fun _ hk => Or.inr ⟨trivial, hk⟩) HBW.out HBW.out.size (by have := HNL.out; simp; omega) ?_; intro v5 w4 ho hb hg hat; replace HO9 := Aside0.mk (Kd.R_over' HO9.out (Kd.R_typed HV2.out) (by decide) hg); replace HN := Aside0.mk (Kd.R_after HN.out hg hat); replace HH := Aside0.mk (Kd.H_grown HH.out hg (fun k hk => HV2.out.1 k hk)); replace HBW := Aside0.mk hb; replace HV2 := Aside0.mk ho; clear ho hb hg hat; obtain ⟨A5, c5, e5⟩ := Kd.R_slice HV2.out; subst e5) | ((with_reducible refine gate_store (t := 27) (p := 155) rfl ?_); refine h_store (o' := q * 3 + 2) k35 w.heap.size rfl rfl 27 _ _ rfl 35 (q : Int) 2 _ (.slice A5 (ns.length + 1) c5) [.slice A5 (ns.length + 1) c5] _ (fun _ => True) _ ?had_ ?hof_ ?hx_ rfl (show (Try.prog.info? 27).map (·.size) = some 1 from by kernel_rfl) (fun q9 hq9 => (List.mem_singleton.1 hq9) ▸ rfl) HH.out (Int.natCast_nonneg q) (show (q : Int) < ((q + 1 : Nat) : Int) from Int.ofNat_lt.2 (Nat.lt_succ_self q)) (show 2 + 1 ≤ 3 by decide) HBW.out ?_; (case had_ => first | rfl | (go_simp; done) | (go_simp; rfl)); (case hof_ => first | rfl | omega); (case hx_ => first | rfl | (go_simp; done) | (go_simp; rfl)); intro w_ h1_ h2_ h3_; replace HO9 := Aside0.mk (Kd.R_over' HO9.out (h_typed HH.out) (by decide) (by have h9 := h3_; simpa [Value.ownBlock] using h9)); replace HV2 := Aside0.mk (Kd.R_over' HV2.out (h_typed HH.out) (by decide) (by have h9 := h3_; simpa [Value.ownBlock] using h9)); replace HN := Aside0.mk (Kd.R_over' HN.out (h_typed HH.out) (by decide) (by have h9 := h3_; simpa [Value.ownBlock] using h9)); replace HBW := Aside0.mk h2_; replace HH := Aside0.mk h1_; clear h1_ h2_ h3_))
                          go_roundw
                          case rel => exact ⟨j + 1, .slice A5 (ns ++ [a]).length c5, ns ++ [a], _, by have := HWJ.out; first | rfl | (simp; done), by omega, HNS2, HBW, HO9, ⟨by rw [show (ns ++ [a]).length = ns.length + 1 from by simp]; refine Eq.mp ?_ HH.out; kernel_rfl⟩, HV2, HN⟩
                          case measure => simp [intOf]; omega
                        · have HNS2 : Aside0 (ns = (nx.take (j + 1)).filter fun a => decide (0 ≤ placeI l0 a)) := ⟨by rw [HNT.out, HNS.out, ← hpa, decide_eq_false d4]; simp⟩
                          have d4b : decide (pa ≥ 0) = false := decide_eq_false d4
                          have d4c : decide (0 ≤ pa) = false := decide_eq_false d4
                          clear hpa d4
                          go_wp2
                          go_roundw
                          case rel => exact ⟨j + 1, .slice A2 ns.length c2', ns, ok2, by have := HWJ.out; first | rfl | (simp; done), by omega, HNS2, HBW, HO9, HH, HV2, HN⟩
                          case measure => simp [intOf]; omega
                      · have d3b : decide ((j : Int) < (nx.length : Int)) = false := decide_eq_false (by omega)
                        have d3c : decide (j < nx.length) = false := decide_eq_false (by omega)
                        have HNS2 : Aside0 (ns = nxR l0 M i) := ⟨by rw [HN0.out, ← HXN.out, HNS.out, List.take_of_length_le (by omega)]⟩
                        clear d3 hj
                        go_wp2_with fail
                        go_roundw
                        case rel =>
                          have h9 := Kd.H_back HH.out (x' := ⟨(o1.getD q z35).f0, x.f0, ns⟩) (okp := ok2) (blk_M HV2.out) (fun _ hk => hk)
                          rw [Int.toNat_natCast] at h9
                          exact ⟨i + 1, by have := HW.out; first | rfl | (simp; done), by omega, HBW, HO9, ⟨by rw [outR_step, ← HO1.out, HQ.out, show q + 1 - 1 = q from rfl, ← HX.out, ← HNS2.out]; exact h9⟩⟩
                        case measure => simp [intOf]; omega
                  | false =>
                    have HN0 : Aside0 (nxR l0 M i = []) := ⟨by unfold nxR; rw [if_neg (by rintro (h9 | h9); exact d1 h9; rw [h9] at hbn9; cases hbn9)]⟩
                    have HBN : Aside0 (rdOf false M ((i + 1 : Nat) : Int) = false) := ⟨by unfold rdOf; rw [Int.toNat_natCast]; exact hbn9⟩
                    have d1b : (((i : Int) + 1) == (l0.length : Int)) = false := by rw [beq_eq_false_iff_ne]; omega
                    have d1c : decide (((i : Int) + 1) = (l0.length : Int)) = false := decide_eq_false (by omega)
                    have p7 : (0 ≤ (i : Int) + 1) = True := eq_true (by omega)
                    have p8 : ((i : Int) + 1 < (l0.length : Int)) = True := eq_true (by omega)
                    have p9 : ((i : Int) + 1).toNat = i + 1 := by omega
                    have HD1 := Aside0.mk d1
                    clear d1 hbn9
                    go_wp2_with (first | ((with_reducible refine gate_store (t := 3) (p := 116) rfl ?_); refine h_store (o' := q * 3 + 1) k35 w.heap.size rfl rfl 3 _ _ rfl 35 (q : Int) 1 _ (.int .i64 x.f0) [.int .i64 x.f0] _ (fun _ => True) oki ?had_ ?hof_ ?hx_ rfl (show (Try.prog.info? 3).map (·.size) = some 1 from by kernel_rfl) (fun q9 hq9 => (List.mem_singleton.1 hq9) ▸ rfl) HH.out (Int.natCast_nonneg q) (show (q : Int) < ((q + 1 : Nat) : Int) from Int.ofNat_lt.2 (Nat.lt_succ_self q)) (show 1 + 1 ≤ 3 by decide) HBW.out ?_; (case had_ => first | rfl | (go_simp; done) | (go_simp; rfl)); (case hof_ => first | rfl | omega); (case hx_ => first | rfl | (go_simp; done) | (go_simp; rfl)); intro w_ h1_ h2_ h3_; replace HO9 := Aside0.mk (Kd.R_over' HO9.out (h_typed HH.out) (by decide) (by have h9 := h3_; simpa [Value.ownBlock] using h9)); replace HBW := Aside0.mk h2_; replace HH := Aside0.mk h1_; clear h1_ h2_ h3_; (try clear hx0 hx1 hx2 hx3); obtain ⟨ad', e1, hx0, hx1, hx2, hx3⟩ := at_I HR.out HBW.out HI.out HX.out; cases e1) | ((with_reducible refine gate_store (t := 27) (p := 119) rfl ?_); refine h_store (o' := q * 3 + 2) k35 w.heap.size rfl rfl 27 _ _ rfl 35 (q : Int) 2 _ (.slice none 0 0) [.slice none 0 0] _ (fun _ => True) oki ?had_ ?hof_ ?hx_ rfl (show (Try.prog.info? 27).map (·.size) = some 1 from by kernel_rfl) (fun q9 hq9 => (List.mem_singleton.1 hq9) ▸ rfl) HH.out (Int.natCast_nonneg q) (show (q : Int) < ((q + 1 : Nat) : Int) from Int.ofNat_lt.2 (Nat.lt_succ_self q)) (show 2 + 1 ≤ 3 by decide) HBW.out ?_; (case had_ => first | rfl | (go_simp; done) | (go_simp; rfl)); (case hof_ => first | rfl | omega); (case hx_ => first | rfl | (go_simp; done) | (go_simp; rfl)); intro w_ h1_ h2_ h3_; replace HO9 := Aside0.mk (Kd.R_over' HO9.out (h_typed HH.out) (by decide) (by have h9 := h3_; simpa [Value.ownBlock] using h9)); replace HBW := Aside0.mk h2_; replace HH := Aside0.mk h1_; clear h1_ h2_ h3_; (try clear hx0 hx1 hx2 hx3); obtain ⟨ad', e1, hx0, hx1, hx2, hx3⟩ := at_I HR.out HBW.out HI.out HX.out; cases e1; obtain ⟨am, em, hbn⟩ := Kd.at_bool (Kd.R_reads' HO9.out).2.2 ((i + 1 : Nat) : Int) (by omega) (by have := HML.out; have := HD1.out; omega); cases em; rw [HBN.out, Int.toNat_natCast, add0] at hbn))
                    go_roundw
                    case rel =>
                      have h9 := Kd.H_back HH.out (x' := ⟨(o1.getD q z35).f0, x.f0, []⟩) (okp := fun _ => False) (blk_M (Kd.R_nil _ _ _ _ _)) (fun _ hk => hk.elim)
                      rw [Int.toNat_natCast] at h9
                      exact ⟨i + 1, by have := HW.out; first | rfl | (simp; done), by omega, HBW, HO9, ⟨by rw [outR_step, ← HO1.out, HQ.out, show q + 1 - 1 = q from rfl, ← HX.out, HN0.out]; exact h9⟩⟩
                    case measure => simp [intOf]; omega
            · have c1b : decide ((i : Int) < (l0.length : Int)) = false := decide_eq_false (by omega)
              have c1c : decide (i < l0.length) = false := decide_eq_false (by omega)
              have h10 := HS9.out
              rw [show i = l0.length by omega] at h10
              have HS10 := Aside0.mk h10
              clear h10
              clear c1 hi HS9
              go_wp2
              go_ret
              exact ⟨_, rfl, by rw [HV.out]; exact HS10.out, HBW.out⟩

end Go.Proofs.Ytcffniaieegbgaa.P

end

section
namespace Go.Proofs.Ytcffniaieegbgaa.P
open Go.RowKit Go.Proofs.YtcffniaieegbgaaW.PrintWords Go.Proofs.YtcffniaieegbgaaW.PrintLast Go.Proofs.YtcffniaieegbgaaW.PrintMore
attribute [local go_sem] max2_int min2_int max_two min_two max_three min_three max_four min_four   -- for this text's walks alone
set_option linter.unusedVariables false
set_option linter.unusedSimpArgs false

def provisolaw05_FlowBlocks.f (k : Nat) (l0 : List (S46)) : Option (Bool) := (api_Instr_33.f l0).bind fun t415 => ((flow_Blocks.f k t415).bind fun t418 => ((provisoref05_Blocks.f k l0).bind fun t421 => ((provisoplain_SameBlocks.f k t418 t421).bind fun t424 => (if t424 = true then ((api_Instr_27.f k t415 l0).bind fun t425 => (some t425)) else (some false)))))
set_option maxHeartbeats 8000000 in
set_option maxRecDepth 100000 in
theorem provisolaw05_FlowBlocks.calls (k : Nat) (A0 : Option Addr) (c0 : Nat) (l0 : List (S46)) (r : Bool) (w : World) (hr0 : Kd.C k46 w A0 l0.length l0) (hc0 : l0.length ≤ c0) (h : provisolaw05_FlowBlocks.f k l0 = some r) :
    Calls Try.prog 10 #[.slice A0 l0.length c0] w fun e w' => e = .returned (.bool r) ∧ Below w.heap.size w w' := by
  have HR0 := Aside0.mk hr0
  have HC0 := Aside0.mk hc0
  clear hr0 hc0
  have HB := Aside0.mk (Below.refl w.heap.size w)
  have H : ((api_Instr_33.f l0).bind fun t415 => ((flow_Blocks.f k t415).bind fun t418 => ((provisoref05_Blocks.f k l0).bind fun t421 => ((provisoplain_SameBlocks.f k t418 t421).bind fun t424 => (if t424 = true then ((api_Instr_27.f k t415 l0).bind fun t425 => (some t425)) else (some false)))))) = some r := h
  clear h
  replace H := Option.bind_eq_some_iff.mp H
  obtain ⟨t415, A20, H⟩ := H
  replace H : ((flow_Blocks.f k t415).bind fun t418 => ((provisoref05_Blocks.f k l0).bind fun t421 => ((provisoplain_SameBlocks.f k t418 t421).bind fun t424 => (if t424 = true then ((api_Instr_27.f k t415 l0).bind fun t425 => (some t425)) else (some false))))) = some r := H
  have A2 := Aside0.mk A20
  clear A20
  replace H := Option.bind_eq_some_iff.mp H
  obtain ⟨t418, A30, H⟩ := H
  replace H : ((provisoref05_Blocks.f k l0).bind fun t421 => ((provisoplain_SameBlocks.f k t418 t421).bind fun t424 => (if t424 = true then ((api_Instr_27.f k t415 l0).bind fun t425 => (some t425)) else (some false)))) = some r := H
  have A3 := Aside0.mk A30
  clear A30
  replace H := Option.bind_eq_some_iff.mp H
  obtain ⟨t421, A40, H⟩ := H
  replace H : ((provisoplain_SameBlocks.f k t418 t421).bind fun t424 => (if t424 = true then ((api_Instr_27.f k t415 l0).bind fun t425 => (some t425)) else (some false))) = some r := H
  have A4 := Aside0.mk A40
  clear A40
  replace H := Option.bind_eq_some_iff.mp H
  obtain ⟨t424, A50, H⟩ := H
  replace H : (if t424 = true then ((api_Instr_27.f k t415 l0).bind fun t425 => (some t425)) else (some false)) = some r := H
  have A5 := Aside0.mk A50
  clear A50
  by_cases c6 : t424 = true
  · subst c6
    have H1 : ((api_Instr_27.f k t415 l0).bind fun t425 => (some t425)) = some r := by rw [if_pos rfl] at H; exact H
    clear H
    have H := H1
    clear H1
    replace H := Option.bind_eq_some_iff.mp H
    obtain ⟨t425, A70, H⟩ := H
    replace H : (some t425) = some r := H
    have A7 := Aside0.mk A70
    clear A70
    obtain rfl := Option.some.inj H
    go_enter Try.func10, Try.ntmps10
    go_wp2_with (first | ((with_reducible refine gate_callee (f := 33) rfl ?_); refine goesL_ (some 5) rfl rfl Try.func33 (by kernel_rfl) rfl #[.slice A0 l0.length c0] rfl (by (try simp only [List.map_toArray, List.map_cons, List.map_nil]); first | done | rfl | (simp only [List.length_drop, List.length_take]; rfl)) ?_; (with_reducible refine (api_Instr_33.calls _ _ l0 t415 _ ?side1 ?side2 A2.out).mono ?_); (case side1 => repeat (first | exact HR0.out | (with_reducible refine Kd.C_alloc ?_ _) | (with_reducible refine Kd.C_drewN ?_ _) | (with_reducible refine Kd.C_drew ?_))); (case side2 => exact HC0.out); rintro e w8 ⟨v416, rfl, ho0, hb⟩; refine ⟨_, rfl, ?_⟩; have n0_ := Aside0.mk (Kd.R_lower ho0 (below_size (by repeat (first | (with_reducible first | exact HB.out | apply below_alloc | apply pw_below_drewN | apply below_drew1) | exact HB.out)))); have n1_ := Aside0.mk (below_step (by repeat (first | (with_reducible first | exact HB.out | apply below_alloc | apply pw_below_drewN | apply below_drew1) | exact HB.out)) hb); clear HB; have HO417 := n0_; have HB := n1_; clear n0_ n1_; (try clear hb); (try clear hb2); (try clear hk); (try clear hi); (try clear ho0); obtain ⟨Ao9, co9, eo9⟩ := Kd.R_slice HO417.out; subst eo9) | ((with_reducible refine gate_callee (f := 39) rfl ?_); refine goesL_ (some 7) rfl rfl Try.func39 (by kernel_rfl) rfl #[.slice Ao9 t415.length co9] rfl (by (try simp only [List.map_toArray, List.map_cons, List.map_nil]); first | done | rfl | (simp only [List.length_drop, List.length_take]; rfl)) ?_; (with_reducible refine (flow_Blocks.calls k _ _ t415 t418 _ ?side1 ?side2 A3.out).mono ?_); (case side1 => repeat (first | exact (Kd.R_reads' HO417.out).2.2 | (with_reducible refine Kd.C_alloc ?_ _) | (with_reducible refine Kd.C_drewN ?_ _) | (with_reducible refine Kd.C_drew ?_))); (case side2 => exact (Kd.R_reads' HO417.out).2.1); rintro e w10 ⟨v419, rfl, ho0, hb⟩; refine ⟨_, rfl, ?_⟩; have n0_ := Aside0.mk (Kd.R_below (by (with_reducible repeat (first | apply Kd.R_alloc | apply Kd.R_drewN | apply Kd.R_drew)); exact HO417.out) hb); have n1_ := Aside0.mk (Kd.S_lower ho0 (below_size (by repeat (first | (with_reducible first | exact HB.out | apply below_alloc | apply pw_below_drewN | apply below_drew1) | exact HB.out)))); have n2_ := Aside0.mk (below_step (by repeat (first | (with_reducible first | exact HB.out | apply below_alloc | apply pw_below_drewN | apply below_drew1) | exact HB.out)) hb); clear HO417; clear HB; have HO417 := n0_; have HO420 := n1_; have HB := n2_; clear n0_ n1_ n2_; (try clear hb); (try clear hb2); (try clear hk); (try clear hi); (try clear ho0)) | ((with_reducible refine gate_callee (f := 15) rfl ?_); refine goesL_ (some 9) rfl rfl Try.func15 (by kernel_rfl) rfl #[.slice A0 l0.length c0] rfl (by (try simp only [List.map_toArray, List.map_cons, List.map_nil]); first | done | rfl | (simp only [List.length_drop, List.length_take]; rfl)) ?_; (with_reducible refine (provisoref05_Blocks.calls k _ _ l0 t421 _ ?side1 ?side2 A4.out).mono ?_); (case side1 => repeat (first | exact (Kd.C_below HR0.out HB.out) | (with_reducible refine Kd.C_alloc ?_ _) | (with_reducible refine Kd.C_drewN ?_ _) | (with_reducible refine Kd.C_drew ?_))); (case side2 => exact HC0.out); rintro e w11 ⟨v422, rfl, ho0, hb⟩; refine ⟨_, rfl, ?_⟩; have n0_ := Aside0.mk (Kd.R_below (by (with_reducible repeat (first | apply Kd.R_alloc | apply Kd.R_drewN | apply Kd.R_drew)); exact HO417.out) hb); have n1_ := Aside0.mk (Kd.S_elder' (by (with_reducible repeat (first | apply Kd.S_alloc | apply Kd.S_drewN | apply Kd.S_drew)); exact HO420.out) (Kd.S_base ho0) hb); have n2_ := Aside0.mk (Kd.S_lower (Kd.S_new' ho0 (Kd.S_lt (by (with_reducible repeat (first | apply Kd.S_alloc | apply Kd.S_drewN | apply Kd.S_drew)); exact HO420.out))) (below_size (by repeat (first | (with_reducible first | exact HB.out | apply below_alloc | apply pw_below_drewN | apply below_drew1) | exact HB.out)))); have n3_ := Aside0.mk (below_step (by repeat (first | (with_reducible first | exact HB.out | apply below_alloc | apply pw_below_drewN | apply below_drew1) | exact HB.out)) hb); clear HO417; clear HO420; clear HB; have HO417 := n0_; have HO420 := n1_; have HO423 := n2_; have HB := n3_; clear n0_ n1_ n2_ n3_; (try clear hb); (try clear hb2); (try clear hk); (try clear hi); (try clear ho0); obtain ⟨Ao12, co12, eo12⟩ := Kd.S_slice HO420.out; subst eo12; obtain ⟨Ao13, co13, eo13⟩ := Kd.S_slice HO423.out; subst eo13) | ((with_reducible refine gate_callee (f := 24) rfl ?_); refine goesL_ (some 10) rfl rfl Try.func24 (by kernel_rfl) rfl #[.slice Ao12 t418.length co12, .slice Ao13 t421.length co13] rfl (by (try simp only [List.map_toArray, List.map_cons, List.map_nil]); first | done | rfl | (simp only [List.length_drop, List.length_take]; rfl)) ?_; (with_reducible refine (provisoplain_SameBlocks.calls k _ _ t418 _ _ t421 true _ ?side1 ?side2 ?side3 ?side4 A5.out).mono ?_); (case side1 => repeat (first | exact (Kd.S_reads' HO420.out).2.2 | (with_reducible refine Kd.C_alloc ?_ _) | (with_reducible refine Kd.C_drewN ?_ _) | (with_reducible refine Kd.C_drew ?_))); (case side2 => exact (Kd.S_reads' HO420.out).2.1); (case side3 => repeat (first | exact (Kd.S_reads' HO423.out).2.2 | (with_reducible refine Kd.C_alloc ?_ _) | (with_reducible refine Kd.C_drewN ?_ _) | (with_reducible refine Kd.C_drew ?_))); (case side4 => exact (Kd.S_reads' HO423.out).2.1); rintro e w14 ⟨rfl, hb⟩; refine ⟨_, rfl, ?_⟩; have n0_ := Aside0.mk (Kd.R_below (by (with_reducible repeat (first | apply Kd.R_alloc | apply Kd.R_drewN | apply Kd.R_drew)); exact HO417.out) hb); have n1_ := Aside0.mk (Kd.S_below (by (with_reducible repeat (first | apply Kd.S_alloc | apply Kd.S_drewN | apply Kd.S_drew)); exact HO420.out) hb); have n2_ := Aside0.mk (Kd.S_below (by (with_reducible repeat (first | apply Kd.S_alloc | apply Kd.S_drewN | apply Kd.S_drew)); exact HO423.out) hb); have n3_ := Aside0.mk (below_step (by repeat (first | (with_reducible first | exact HB.out | apply below_alloc | apply pw_below_drewN | apply below_drew1) | exact HB.out)) hb); clear HO417; clear HO420; clear HO423; clear HB; have HO417 := n0_; have HO420 := n1_; have HO423 := n2_; have HB := n3_; clear n0_ n1_ n2_ n3_; (try clear hb); (try clear hb2); (try clear hk); (try clear hi)) | (go_at_call 27; (with_reducible refine (api_Instr_27.calls k _ _ t415 _ _ l0 t425 _ ?side1 ?side2 ?side3 ?side4 A7.out).mono ?_); (case side1 => repeat (first | exact (Kd.R_reads' HO417.out).2.2 | (with_reducible refine Kd.C_alloc ?_ _) | (with_reducible refine Kd.C_drewN ?_ _) | (with_reducible refine Kd.C_drew ?_))); (case side2 => exact (Kd.R_reads' HO417.out).2.1); (case side3 => repeat (first | exact (Kd.C_below HR0.out HB.out) | (with_reducible refine Kd.C_alloc ?_ _) | (with_reducible refine Kd.C_drewN ?_ _) | (with_reducible refine Kd.C_drew ?_))); (case side4 => exact HC0.out); rintro e w' ⟨rfl, ⟨nd, rfl⟩⟩))
    go_ret
    exact ⟨by first | rfl | (simp [errW_none, errW_some] <;> rfl) | (simp [*, errW_none, errW_some] <;> rfl), by repeat (first | (with_reducible first | exact HB.out | apply below_alloc | apply pw_below_drewN | apply below_drew1) | exact HB.out)⟩
  · replace c6 := Bool.eq_false_iff.mpr c6
    subst c6
    have H1 : (some false) = some r := by rw [if_neg (show ¬ (false = true) by decide)] at H; exact H
    clear H
    have H := H1
    clear H1
    obtain rfl := Option.some.inj H
    go_enter Try.func10, Try.ntmps10
    go_wp2_with (first | ((with_reducible refine gate_callee (f := 33) rfl ?_); refine goesL_ (some 5) rfl rfl Try.func33 (by kernel_rfl) rfl #[.slice A0 l0.length c0] rfl (by (try simp only [List.map_toArray, List.map_cons, List.map_nil]); first | done | rfl | (simp only [List.length_drop, List.length_take]; rfl)) ?_; (with_reducible refine (api_Instr_33.calls _ _ l0 t415 _ ?side1 ?side2 A2.out).mono ?_); (case side1 => repeat (first | exact HR0.out | (with_reducible refine Kd.C_alloc ?_ _) | (with_reducible refine Kd.C_drewN ?_ _) | (with_reducible refine Kd.C_drew ?_))); (case side2 => exact HC0.out); rintro e w15 ⟨v416, rfl, ho0, hb⟩; refine ⟨_, rfl, ?_⟩; have n0_ := Aside0.mk (Kd.R_lower ho0 (below_size (by repeat (first | (with_reducible first | exact HB.out | apply below_alloc | apply pw_below_drewN | apply below_drew1) | exact HB.out)))); have n1_ := Aside0.mk (below_step (by repeat (first | (with_reducible first | exact HB.out | apply below_alloc | apply pw_below_drewN | apply below_drew1) | exact HB.out)) hb); clear HB; have HO417 := n0_; have HB := n1_; clear n0_ n1_; (try clear hb); (try clear hb2); (try clear hk); (try clear hi); (try clear ho0); obtain ⟨Ao16, co16, eo16⟩ := Kd.R_slice HO417.out; subst eo16) | ((with_reducible refine gate_callee (f := 39) rfl ?_); refine goesL_ (some 7) rfl rfl Try.func39 (by kernel_rfl) rfl #[.slice Ao16 t415.length co16] rfl (by (try simp only [List.map_toArray, List.map_cons, List.map_nil]); first | done | rfl | (simp only [List.length_drop, List.length_take]; rfl)) ?_; (with_reducible refine (flow_Blocks.calls k _ _ t415 t418 _ ?side1 ?side2 A3.out).mono ?_); (case side1 => repeat (first | exact (Kd.R_reads' HO417.out).2.2 | (with_reducible refine Kd.C_alloc ?_ _) | (with_reducible refine Kd.C_drewN ?_ _) | (with_reducible refine Kd.C_drew ?_))); (case side2 => exact (Kd.R_reads' HO417.out).2.1); rintro e w17 ⟨v419, rfl, ho0, hb⟩; refine ⟨_, rfl, ?_⟩; have n0_ := Aside0.mk (Kd.R_below (by (with_reducible repeat (first | apply Kd.R_alloc | apply Kd.R_drewN | apply Kd.R_drew)); exact HO417.out) hb); have n1_ := Aside0.mk (Kd.S_lower ho0 (below_size (by repeat (first | (with_reducible first | exact HB.out | apply below_alloc | apply pw_below_drewN | apply below_drew1) | exact HB.out)))); have n2_ := Aside0.mk (below_step (by repeat (first | (with_reducible first | exact HB.out | apply below_alloc | apply pw_below_drewN | apply below_drew1) | exact HB.out)) hb); clear HO417; clear HB; have HO417 := n0_; have HO420 := n1_; have HB := n2_; clear n0_ n1_ n2_; (try clear hb); (try clear hb2); (try clear hk); (try clear hi); (try clear ho0)) | ((with_reducible refine gate_callee (f := 15) rfl ?_); refine goesL_ (some 9) rfl rfl Try.func15 (by kernel_rfl) rfl #[.slice A0 l0.length c0] rfl (by (try simp only [List.map_toArray, List.map_cons, List.map_nil]); first | done | rfl | (simp only [List.length_drop, List.length_take]; rfl)) ?_; (with_reducible refine (provisoref05_Blocks.calls k _ _ l0 t421 _ ?side1 ?side2 A4.out).mono ?_); (case side1 => repeat (first | exact (Kd.C_below HR0.out HB.out) | (with_reducible refine Kd.C_alloc ?_ _) | (with_reducible refine Kd.C_drewN ?_ _) | (with_reducible refine Kd.C_drew ?_))); (case side2 => exact HC0.out); rintro e w18 ⟨v422, rfl, ho0, hb⟩; refine ⟨_, rfl, ?_⟩; have n0_ := Aside0.mk (Kd.R_below (by (with_reducible repeat (first | apply Kd.R_alloc | apply Kd.R_drewN | apply Kd.R_drew)); exact HO417.out) hb); have n1_ := Aside0.mk (Kd.S_elder' (by (with_reducible repeat (first | apply Kd.S_alloc | apply Kd.S_drewN | apply Kd.S_drew)); exact HO420.out) (Kd.S_base ho0) hb); have n2_ := Aside0.mk (Kd.S_lower (Kd.S_new' ho0 (Kd.S_lt (by (with_reducible repeat (first | apply Kd.S_alloc | apply Kd.S_drewN | apply Kd.S_drew)); exact HO420.out))) (below_size (by repeat (first | (with_reducible first | exact HB.out | apply below_alloc | apply pw_below_drewN | apply below_drew1) | exact HB.out)))); have n3_ := Aside0.mk (below_step (by repeat (first | (with_reducible first | exact HB.out | apply below_alloc | apply pw_below_drewN | apply below_drew1) | exact HB.out)) hb); clear HO417; clear HO420; clear HB; have HO417 := n0_; have HO420 := n1_; have HO423 := n2_; have HB := n3_; clear n0_ n1_ n2_ n3_; (try clear hb); (try clear hb2); (try clear hk); (try clear hi); (try clear ho0); obtain ⟨Ao19, co19, eo19⟩ := Kd.S_slice HO420.out; subst eo19; obtain ⟨Ao20, co20, eo20⟩ := Kd.S_slice HO423.out; subst eo20) | ((with_reducible refine gate_callee (f := 24) rfl ?_); refine goesL_ (some 10) rfl rfl Try.func24 (by kernel_rfl) rfl #[.slice Ao19 t418.length co19, .slice Ao20 t421.length co20] rfl (by (try simp only [List.map_toArray, List.map_cons, List.map_nil]); first | done | rfl | (simp only [List.length_drop, List.length_take]; rfl)) ?_; (with_reducible refine (provisoplain_SameBlocks.calls k _ _ t418 _ _ t421 false _ ?side1 ?side2 ?side3 ?side4 A5.out).mono ?_); (case side1 => repeat (first | exact (Kd.S_reads' HO420.out).2.2 | (with_reducible refine Kd.C_alloc ?_ _) | (with_reducible refine Kd.C_drewN ?_ _) | (with_reducible refine Kd.C_drew ?_))); (case side2 => exact (Kd.S_reads' HO420.out).2.1); (case side3 => repeat (first | exact (Kd.S_reads' HO423.out).2.2 | (with_reducible refine Kd.C_alloc ?_ _) | (with_reducible refine Kd.C_drewN ?_ _) | (with_reducible refine Kd.C_drew ?_))); (case side4 => exact (Kd.S_reads' HO423.out).2.1); rintro e w21 ⟨rfl, hb⟩; refine ⟨_, rfl, ?_⟩; have n0_ := Aside0.mk (Kd.R_below (by (with_reducible repeat (first | apply Kd.R_alloc | apply Kd.R_drewN | apply Kd.R_drew)); exact HO417.out) hb); have n1_ := Aside0.mk (Kd.S_below (by (with_reducible repeat (first | apply Kd.S_alloc | apply Kd.S_drewN | apply Kd.S_drew)); exact HO420.out) hb); have n2_ := Aside0.mk (Kd.S_below (by (with_reducible repeat (first | apply Kd.S_alloc | apply Kd.S_drewN | apply Kd.S_drew)); exact HO423.out) hb); have n3_ := Aside0.mk (below_step (by repeat (first | (with_reducible first | exact HB.out | apply below_alloc | apply pw_below_drewN | apply below_drew1) | exact HB.out)) hb); clear HO417; clear HO420; clear HO423; clear HB; have HO417 := n0_; have HO420 := n1_; have HO423 := n2_; have HB := n3_; clear n0_ n1_ n2_ n3_; (try clear hb); (try clear hb2); (try clear hk); (try clear hi)))
    go_ret
    exact ⟨by first | rfl | (simp [errW_none, errW_some] <;> rfl) | (simp [*, errW_none, errW_some] <;> rfl), by repeat (first | (with_reducible first | exact HB.out | apply below_alloc | apply pw_below_drewN | apply below_drew1) | exact HB.out)⟩

end Go.Proofs.Ytcffniaieegbgaa.P

end

section
namespace Go.Proofs.Ytcffniaieegbgaa.P
open Go.RowKit Go.Proofs.YtcffniaieegbgaaW.PrintWords
def provisolaw05_FlowBlocks.Pure : Prop := ∀ (l0 : List (S46)), (fun l : List (S46) => l.length ≤ 9223372036854775807 ∧ l.length * 32 ≤ 140737488351232 ∧ ∀ x ∈ l, Ok46 x) l0 → ∃ k, provisolaw05_FlowBlocks.f k l0 = some true
end Go.Proofs.Ytcffniaieegbgaa.P

end

section
namespace Go.Proofs.Ytcffniaieegbgaa.Pure
open Go.RowKit Go.Proofs.Ytcffniaieegbgaa.P Go.Proofs.YtcffniaieegbgaaW.PrintWords
set_option linter.unusedSimpArgs false
set_option linter.unusedVariables false
theorem wrap_one {i n : Nat} (h : i < n) (hn : n ≤ 9223372036854775807) : wrap64 ((i : Int) + 1) = ((i + 1 : Nat) : Int) := by unfold wrap64; omega
theorem wide_is (k : Nat) (op : Int) : provisoref04_wide.f (k + 2) op = code_widths.f 3 op := by
  by_cases h1 : op = 1
  · subst h1; rfl
  by_cases h2 : op = 19
  · subst h2; rfl
  by_cases h3 : op = 20
  · subst h3; rfl
  by_cases h4 : op = 24
  · subst h4; rfl
  by_cases h5 : op = 25
  · subst h5; rfl
  by_cases h6 : op = 2
  · subst h6; rfl
  by_cases h7 : op = 4
  · subst h7; rfl
  by_cases h8 : op = 5
  · subst h8; rfl
  have e20 : (op == 20) = false := by rw [beq_eq_false_iff_ne]; exact h3
  have e25 : (op == 25) = false := by rw [beq_eq_false_iff_ne]; exact h5
  have e5 : (op == 5) = false := by rw [beq_eq_false_iff_ne]; exact h8
  simp only [provisoref04_wide.f, provisoref04_wide.j0, provisoref04_wide.j1, code_widths.f, code_widths.j0, code_widths.j1, code_widths.j2, if_neg h1, if_neg h2, if_neg h4, if_neg h6, if_neg h7, if_neg h8, e20, e25, e5, Bool.false_eq_true, if_false]
theorem rsize_is (k : Nat) (op : Int) : provisoref04_Size.f (k + 2) op = some (szOf op) := by
  have h := size_is 0 op
  rw [← h]
  unfold provisoref04_Size.f code_Size.f
  rw [wide_is k op]
theorem rsize_ev (op : Int) : Ev (fun k => provisoref04_Size.f k op) (szOf op) := ⟨2, fun k hk => by
  obtain ⟨m, rfl⟩ : ∃ m, k = m + 2 := ⟨k - 2, by omega⟩
  exact rsize_is m op⟩
theorem rjumps_is (op : Int) : provisoref04_Jumps.f op = some (jumpsB op) := jumps_is op
theorem rends_is (op : Int) : provisoref04_Ends.f op = some (endsB op) := ends_is op
theorem rplaced_is (a b c d : Int) : provisoref05_placed.f a b c d = some (placedB a) := placed_is a b c d
theorem drop_at {l : List Int} {i : Nat} (h : i < l.length) : l.drop i = rd l (i : Int) :: l.drop (i + 1) := by
  rw [List.drop_eq_getElem_cons h]
  congr 1
  show l[i] = l.getD (i : Int).toNat 0
  rw [Int.toNat_natCast, List.getD_eq_getElem?_getD, List.getElem?_eq_getElem h]
  rfl
theorem drop_atI {l : List S46} {i : Nat} (h : i < l.length) : l.drop i = rd_T46 l (i : Int) :: l.drop (i + 1) := by
  rw [List.drop_eq_getElem_cons h]
  congr 1
  show l[i] = l.getD (i : Int).toNat z46
  rw [Int.toNat_natCast, List.getD_eq_getElem?_getD, List.getElem?_eq_getElem h]
  rfl
theorem put_done (n : Int) (l : List Int) (hl : l.length ≤ 9223372036854775807) : ∀ (d i : Nat) (out : List Int), l.length - i = d → i ≤ l.length → out.length + d + 2 ≤ 17592186044416 → Ev (fun k => provisoref05_put.l0 k n out true l (l.length : Int) (i : Int)) (out ++ l.drop i)
  | 0, i, out, hd, hi, ho => by
    obtain rfl : i = l.length := by omega
    refine Ev.step (f := fun _ => some out) (fun k => ?_) (by rw [List.drop_length, List.append_nil]; exact Ev.now _)
    simp only [provisoref05_put.l0]
    rw [if_neg (by omega), if_pos True.intro]
  | d + 1, i, out, hd, hi, ho => by
    have h1 : i < l.length := by omega
    have ih := put_done n l hl d (i + 1) (out ++ [rd l (i : Int)]) (by omega) (by omega) (by simp; omega)
    rw [drop_at h1]
    rw [List.append_assoc, List.singleton_append] at ih
    refine Ev.step (f := fun k => provisoref05_put.j1 k n out true (rd l (i : Int)) l (l.length : Int) (i : Int) false) (fun k => ?_) (Ev.step (f := fun k => provisoref05_put.l0 k n (out ++ [rd l (i : Int)]) true l (l.length : Int) ((i + 1 : Nat) : Int)) (fun k => ?_) ih)
    · simp only [provisoref05_put.l0]
      rw [if_pos (by omega), if_pos (by omega), if_pos (by omega), if_pos True.intro]
    · simp only [provisoref05_put.j1]
      rw [if_neg (by decide), if_pos (by omega), wrap_one h1 hl]
theorem put_go (n : Int) (l : List Int) (hl : l.length ≤ 9223372036854775807) : ∀ (d i : Nat) (out : List Int), l.length - i = d → i ≤ l.length → out.length + d + 3 ≤ 17592186044416 → Ev (fun k => provisoref05_put.l0 k n out false l (l.length : Int) (i : Int)) (out ++ ins n (l.drop i))
  | 0, i, out, hd, hi, ho => by
    obtain rfl : i = l.length := by omega
    refine Ev.step (f := fun _ => some (out ++ [n])) (fun k => ?_) (by rw [List.drop_length]; exact Ev.now _)
    simp only [provisoref05_put.l0]
    rw [if_neg (by omega), if_neg (by decide), if_pos (by omega)]
  | d + 1, i, out, hd, hi, ho => by
    have h1 : i < l.length := by omega
    rw [drop_at h1]
    refine Ev.step (f := fun k => provisoref05_put.j1 k n out false (rd l (i : Int)) l (l.length : Int) (i : Int) (decide (n ≤ rd l (i : Int)))) (fun k => ?_) ?_
    · simp only [provisoref05_put.l0]
      rw [if_pos (by omega), if_pos (by omega), if_pos (by omega), if_neg (by decide)]
    by_cases h2 : n < rd l (i : Int)
    · have ih := put_done n l hl d (i + 1) (out ++ [n] ++ [rd l (i : Int)]) (by omega) (by omega) (by simp; omega)
      unfold ins
      rw [if_pos h2]
      rw [show (out ++ [n] ++ [rd l (i : Int)]) ++ l.drop (i + 1) = out ++ n :: rd l (i : Int) :: l.drop (i + 1) by simp] at ih
      refine Ev.step (f := fun k => provisoref05_put.l0 k n (out ++ [n] ++ [rd l (i : Int)]) true l (l.length : Int) ((i + 1 : Nat) : Int)) (fun k => ?_) ih
      simp only [provisoref05_put.j1]
      rw [if_pos (decide_eq_true (by omega)), if_pos h2, if_pos (by omega)]
      simp only [Option.bind_some]
      rw [if_pos (by simp; omega), wrap_one h1 hl]
    · unfold ins
      rw [if_neg h2]
      by_cases h3 : n = rd l (i : Int)
      · have ih := put_done n l hl d (i + 1) (out ++ [rd l (i : Int)]) (by omega) (by omega) (by simp; omega)
        rw [if_pos h3]
        rw [List.append_assoc, List.singleton_append] at ih
        refine Ev.step (f := fun k => provisoref05_put.l0 k n (out ++ [rd l (i : Int)]) true l (l.length : Int) ((i + 1 : Nat) : Int)) (fun k => ?_) ih
        simp only [provisoref05_put.j1]
        rw [if_pos (decide_eq_true (by omega)), if_neg h2, if_pos (by omega), wrap_one h1 hl]
      · have ih := put_go n l hl d (i + 1) (out ++ [rd l (i : Int)]) (by omega) (by omega) (by simp; omega)
        rw [if_neg h3]
        rw [List.append_assoc, List.singleton_append] at ih
        refine Ev.step (f := fun k => provisoref05_put.l0 k n (out ++ [rd l (i : Int)]) false l (l.length : Int) ((i + 1 : Nat) : Int)) (fun k => ?_) ih
        simp only [provisoref05_put.j1]
        rw [if_neg (fun h => by have := of_decide_eq_true h; omega), if_pos (by omega), wrap_one h1 hl]
theorem put_ev (n : Int) (l : List Int) (hl : l.length + 3 ≤ 17592186044416) : Ev (fun k => provisoref05_put.f k l n) (ins n l) := by
  have h := put_go n l (by omega) l.length 0 [] (by omega) (by omega) (by simp; omega)
  rw [List.drop_zero, List.nil_append] at h
  exact h
theorem ins_len (n : Int) : ∀ l : List Int, (ins n l).length ≤ l.length + 1
  | [] => by simp [ins]
  | x :: r => by
    unfold ins
    split
    · simp
    · split
      · simp
      · have := ins_len n r
        simp
        omega
theorem next_ev (x : S46) : Ev (fun k => provisoref05_Next.f k x.f0 x.f1 x.f2 x.f3) (nextL x) := by
  unfold nextL
  refine Ev.congr (f := fun k => (provisoref04_Size.f k x.f1).bind (fun t => if t = 0 then (provisoref05_Next.j0 k ([] : List Int) t true x.f0 x.f1 x.f2 x.f3) else ((provisoref05_placed.f x.f0 x.f1 x.f2 x.f3).bind fun t148 => (provisoref05_Next.j0 k ([] : List Int) t (!t148) x.f0 x.f1 x.f2 x.f3)))) (fun k => rfl) (Ev.bind (rsize_ev x.f1) ?_)
  by_cases h0 : szOf x.f1 = 0
  · simp only [h0, if_true]
    refine Ev.step (f := fun _ => some []) (fun k => ?_) (Ev.now _)
    simp only [provisoref05_Next.j0, if_true]
  · simp only [if_neg h0, rplaced_is, Option.bind_some]
    by_cases hp : placedB x.f0 = true
    · simp only [hp, if_true, Bool.not_true]
      have hz := szOf_range x.f1
      have hpl : 0 ≤ x.f0 ∧ x.f0 < 4096 := by unfold placedB at hp; simpa using hp
      have hw : wrap64 (x.f0 + szOf x.f1) = x.f0 + szOf x.f1 := by unfold wrap64; omega
      have hj : ∀ acc : List Int, acc.length ≤ 5 → Ev (fun k => provisoref05_Next.j1 k acc x.f0 x.f1 x.f2 x.f3) (if jumpsB x.f1 = true then ins x.f2 acc else acc) := fun acc ha => by
        by_cases hj : jumpsB x.f1 = true
        · rw [if_pos hj]
          refine Ev.step (f := fun k => (provisoref05_put.f k acc x.f2).bind (fun t => some t)) (fun k => ?_) (Ev.bind (put_ev x.f2 acc (by omega)) (Ev.now _))
          simp only [provisoref05_Next.j1, rjumps_is, Option.bind_some]
          rw [if_pos hj]
        · rw [if_neg hj]
          refine Ev.step (f := fun _ => some acc) (fun k => ?_) (Ev.now _)
          simp only [provisoref05_Next.j1, rjumps_is, Option.bind_some]
          rw [if_neg hj]
      by_cases he : endsB x.f1 = true
      · refine Ev.step (f := fun k => provisoref05_Next.j1 k [] x.f0 x.f1 x.f2 x.f3) (fun k => ?_) ?_
        · simp only [provisoref05_Next.j0, rends_is, Option.bind_some, Bool.false_eq_true, if_false]
          rw [if_pos he]
        · have h := hj [] (by simp)
          unfold nextKeys
          rw [if_pos he]
          split at h
          · rename_i hjj; rw [if_pos hjj]; exact h
          · rename_i hjj; rw [if_neg hjj]; exact h
      · refine Ev.step (f := fun k => (provisoref05_put.f k [] (x.f0 + szOf x.f1)).bind (fun t => provisoref05_Next.j1 k t x.f0 x.f1 x.f2 x.f3)) (fun k => ?_) ?_
        · simp only [provisoref05_Next.j0, rends_is, Option.bind_some, Bool.false_eq_true, if_false]
          rw [if_neg he, hw]
        · refine Ev.bind (put_ev _ [] (by simp)) ?_
          have h := hj (ins (x.f0 + szOf x.f1) []) (by simp [ins])
          unfold nextKeys
          rw [if_neg he]
          split at h
          · rename_i hjj; rw [if_pos hjj]; exact h
          · rename_i hjj; rw [if_neg hjj]; exact h
    · have hp' : placedB x.f0 = false := by simpa using hp
      simp only [hp', Bool.not_false, Bool.false_eq_true, if_false]
      refine Ev.step (f := fun _ => some []) (fun k => ?_) (Ev.now _)
      simp only [provisoref05_Next.j0, if_true]
theorem eq_ints (l : List Int) (hl : l.length ≤ 9223372036854775807) : ∀ (d i : Nat), l.length - i = d → i ≤ l.length → Ev (fun k => slices_Equal_int_int.l0 k l l (l.length : Int) (i : Int)) true
  | 0, i, hd, hi => by
    refine Ev.step (f := fun _ => some true) (fun k => ?_) (Ev.now _)
    simp only [slices_Equal_int_int.l0]
    rw [if_neg (by omega)]
  | d + 1, i, hd, hi => by
    have ih := eq_ints l hl d (i + 1) (by omega) (by omega)
    refine Ev.step (fun k => ?_) ih
    simp only [slices_Equal_int_int.l0]
    rw [if_pos (by omega), if_pos (by omega), if_pos (by omega), if_pos (by omega), if_pos True.intro, wrap_one (n := l.length) (by omega) hl]
theorem ints_ev (l : List Int) (hl : l.length ≤ 9223372036854775807) : Ev (fun k => slices_Equal_int_int.f k l l) true := by
  refine Ev.congr (fun k => ?_) (eq_ints l hl l.length 0 (by omega) (by omega))
  unfold slices_Equal_int_int.f
  rw [if_pos rfl]
  rfl
theorem eq_instrs (l : List S46) (hl : l.length ≤ 9223372036854775807) : ∀ (d i : Nat), l.length - i = d → i ≤ l.length → Ev (fun k => api_Instr_27.l0 k l l (l.length : Int) (i : Int)) true
  | 0, i, hd, hi => by
    refine Ev.step (f := fun _ => some true) (fun k => ?_) (Ev.now _)
    simp only [api_Instr_27.l0]
    rw [if_neg (by omega)]
  | d + 1, i, hd, hi => by
    have ih := eq_instrs l hl d (i + 1) (by omega) (by omega)
    refine Ev.step (fun k => ?_) ih
    simp only [api_Instr_27.l0]
    rw [if_pos (by omega), if_pos (by omega), if_pos (by omega), if_pos (by omega), if_neg (by simp), wrap_one (n := l.length) (by omega) hl]
theorem instrs_ev (l : List S46) (hl : l.length ≤ 9223372036854775807) : Ev (fun k => api_Instr_27.f k l l) true := by
  refine Ev.congr (fun k => ?_) (eq_instrs l hl l.length 0 (by omega) (by omega))
  unfold api_Instr_27.f
  rw [if_pos rfl]
  rfl
theorem i64_okB {x : Int} (h : (Lit.int .i64 x).wf = true) : okB x = true := by
  simp [Lit.wf, IntKind.min, IntKind.max, IntKind.signed, IntKind.bits] at h
  unfold okB
  rw [decide_eq_true (by omega), decide_eq_true (by omega)]
  rfl
theorem nextL_len (x : S46) : (nextL x).length ≤ 2 := by
  unfold nextL
  split
  · simp
  · split
    · unfold nextKeys srt
      have h1 := ins_len (x.f0 + szOf x.f1) []
      have h2 := ins_len x.f2 []
      have h3 := ins_len x.f2 (ins (x.f0 + szOf x.f1) [])
      split <;> split <;> simp at * <;> omega
    · simp
theorem asOk_of {l : List S46} (h : ∀ x ∈ l, Ok46 x) : asOk l = true ∧ atsOk l = true := by
  have hb : ∀ x ∈ l, okB x.f0 = true ∧ okB x.f2 = true := fun x hx => by
    obtain ⟨h0, h1, h2, h3⟩ := h x hx
    exact ⟨i64_okB h0, i64_okB h2⟩
  exact ⟨List.all_eq_true.2 (fun x hx => (hb x hx).2), List.all_eq_true.2 (fun x hx => (hb x hx).1)⟩
end Go.Proofs.Ytcffniaieegbgaa.Pure

end

section
namespace Go.Proofs.Ytcffniaieegbgaa.Pure
open Go.RowKit Go.Proofs.Ytcffniaieegbgaa.P Go.Proofs.YtcffniaieegbgaaW.PrintWords
set_option linter.unusedSimpArgs false
set_option linter.unusedVariables false
theorem firstAt_at : ∀ (l : List S46) (j i : Nat) (x : Int), firstAt l j x = some ((j + i : Nat) : Int) → i < l.length → (l.getD i z46).f0 = x
  | [], j, i, x, h, _ => by cases h
  | y :: r, j, i, x, h, hi => by
    unfold firstAt at h
    split at h
    · rename_i e
      have h9 := Option.some.inj h
      have : i = 0 := by omega
      subst this
      exact e
    · cases i with
      | zero =>
        obtain ⟨i', h1, h2⟩ := firstAt_lt r (j + 1) x _ h
        omega
      | succ i =>
        have h9 := firstAt_at r (j + 1) i x (by rw [h]; congr 2; omega) (by simpa using hi)
        simpa using h9
theorem firstAt_idx {l : List S46} {x v : Int} (h : firstAt l 0 x = some v) : ∃ i : Nat, v = (i : Int) ∧ i < l.length ∧ (rd_T46 l v).f0 = x := by
  obtain ⟨i, h1, h2⟩ := firstAt_lt l 0 x v h
  rw [Nat.zero_add] at h1
  subst h1
  refine ⟨i, rfl, h2, ?_⟩
  unfold rd_T46
  rw [Int.toNat_natCast]
  exact firstAt_at l 0 i x (by rw [Nat.zero_add]; exact h) h2
def nxA (l : List S46) (a : Int) : List Int := match firstAt l 0 a with | some i => nextL (rd_T46 l i) | none => []
inductive Rch (l : List S46) (a0 : Int) : Int → Prop
  | base : (firstAt l 0 a0).isSome = true → Rch l a0 a0
  | step {a b : Int} : Rch l a0 a → b ∈ nxA l a → (firstAt l 0 b).isSome = true → Rch l a0 b
theorem Rch.closed {l : List S46} {a0 : Int} {s : List Int} (h0 : (firstAt l 0 a0).isSome = true → a0 ∈ s) (hc : ∀ a ∈ s, ∀ b ∈ nxA l a, (firstAt l 0 b).isSome = true → b ∈ s) {a : Int} (h : Rch l a0 a) : a ∈ s := by
  induction h with
  | base h => exact h0 h
  | step _ hb hs ih => exact hc _ ih _ hb hs
end Go.Proofs.Ytcffniaieegbgaa.Pure

end

section
namespace Go.Proofs.Ytcffniaieegbgaa.Pure
open Go.RowKit Go.Proofs.Ytcffniaieegbgaa.P Go.Proofs.YtcffniaieegbgaaW.PrintWords
set_option linter.unusedSimpArgs false
set_option linter.unusedVariables false
def plc (l : List S46) (a : Int) : Int := (firstAt l 0 a).getD (-1)
theorem place_go (l : List S46) (hl : l.length ≤ 9223372036854775807) (a : Int) : ∀ (d i : Nat), l.length - i = d → i ≤ l.length → Ev (fun k => provisoref05_Place.l0 k a l (l.length : Int) (i : Int)) ((firstAt (l.drop i) i a).getD (-1))
  | 0, i, hd, hi => by
    obtain rfl : i = l.length := by omega
    refine Ev.step (f := fun _ => some (-1)) (fun k => ?_) (by rw [List.drop_length]; exact Ev.now _)
    simp only [provisoref05_Place.l0]
    rw [if_neg (by omega)]
  | d + 1, i, hd, hi => by
    have h1 : i < l.length := by omega
    rw [drop_atI h1]
    unfold firstAt
    by_cases h2 : (rd_T46 l (i : Int)).f0 = a
    · rw [if_pos h2]
      refine Ev.step (f := fun _ => some (i : Int)) (fun k => ?_) (Ev.now _)
      simp only [provisoref05_Place.l0]
      rw [if_pos (by omega), if_pos (by omega), if_pos (by omega), if_pos h2]
    · rw [if_neg h2]
      have ih := place_go l hl a d (i + 1) (by omega) (by omega)
      refine Ev.step (fun k => ?_) ih
      simp only [provisoref05_Place.l0]
      rw [if_pos (by omega), if_pos (by omega), if_pos (by omega), if_neg h2, wrap_one h1 hl]
theorem place_ev (l : List S46) (hl : l.length ≤ 9223372036854775807) (a : Int) : Ev (fun k => provisoref05_Place.f k l a) (plc l a) := by
  have h := place_go l hl a l.length 0 (by omega) (by omega)
  rw [List.drop_zero] at h
  exact h
end Go.Proofs.Ytcffniaieegbgaa.Pure

end

section
namespace Go.Proofs.Ytcffniaieegbgaa.Pure
open Go.RowKit Go.Proofs.Ytcffniaieegbgaa.P Go.Proofs.YtcffniaieegbgaaW.PrintWords
set_option linter.unusedSimpArgs false
set_option linter.unusedVariables false
inductive Seq (l : List Int) : List S46 → Nat → Prop
  | nil : Seq l [] 0
  | snoc {acc : List S46} {i : Nat} {op a b : Int} : Seq l acc i → i < l.length → decL l i = ((i : Int), op, a, b, 0) → 1 ≤ szOf op → (i : Int) + szOf op ≤ (l.length : Int) → I64 a → Seq l (acc ++ [⟨(i : Int), op, a, b⟩]) (i + (szOf op).toNat)
theorem Seq.all {l : List Int} {acc : List S46} {i : Nat} (h : Seq l acc i) : ∀ x ∈ acc, 0 ≤ x.f0 ∧ x.f0 + szOf x.f1 ≤ (i : Int) ∧ 1 ≤ szOf x.f1 ∧ I64 x.f2 := by
  induction h with
  | nil => intro x hx; cases hx
  | @snoc acc i op a b h0 h1 hd h2 h3 h4 ih =>
    intro x hx
    rcases List.mem_append.1 hx with hx | hx
    · have := ih x hx
      exact ⟨this.1, by omega, this.2.2⟩
    · rw [List.mem_singleton.1 hx]
      exact ⟨(show (0 : Int) ≤ (i : Int) by omega), (show (i : Int) + szOf op ≤ ((i + (szOf op).toNat : Nat) : Int) by omega), h2, h4⟩
theorem Seq.ok {l : List Int} {acc : List S46} {i : Nat} (h : Seq l acc i) (hi : i ≤ 4096) : asOk acc = true ∧ atsOk acc = true := by
  constructor
  · refine List.all_eq_true.2 fun x hx => ?_
    obtain ⟨h1, h2, h3, h4⟩ := h.all x hx
    unfold I64 at h4
    simp [h4.1, h4.2]
  · refine List.all_eq_true.2 fun x hx => ?_
    obtain ⟨h1, h2, h3, h4⟩ := h.all x hx
    have hz := szOf_range x.f1
    simp
    omega
theorem Seq.next {l : List Int} {acc : List S46} {i : Nat} (h : Seq l acc i) : ∀ j : Nat, j < acc.length → (acc.getD j z46).f0 + szOf (acc.getD j z46).f1 = if j + 1 < acc.length then (acc.getD (j + 1) z46).f0 else (i : Int) := by
  induction h with
  | nil => intro j hj; simp at hj
  | @snoc acc i op a b h0 h1 _ h2 h3 h4 ih =>
    intro j hj
    rw [List.length_append, List.length_singleton] at hj ⊢
    have hz := szOf_range op
    simp only [List.getD_eq_getElem?_getD] at ih ⊢
    by_cases e : j = acc.length
    · subst e
      rw [if_neg (by omega)]
      simp
      omega
    · have hj' : j < acc.length := by omega
      rw [if_pos (by omega), List.getElem?_append_left hj', ih j hj']
      by_cases e2 : j + 1 < acc.length
      · rw [if_pos e2, List.getElem?_append_left e2]
      · have : j + 1 = acc.length := by omega
        rw [if_neg e2, this]
        simp
theorem Seq.zero {l : List Int} {acc : List S46} {i : Nat} (h : Seq l acc i) (h0 : acc = []) : i = 0 := by
  induction h with
  | nil => rfl
  | snoc => simp at h0
theorem Seq.first {l : List Int} {acc : List S46} {i : Nat} (h : Seq l acc i) (h0 : acc ≠ []) : (acc.getD 0 z46).f0 = 0 := by
  induction h with
  | nil => exact absurd rfl h0
  | @snoc acc i op a b h1 _ _ _ _ _ ih =>
    cases acc with
    | nil =>
      have hle := h1.zero rfl
      subst hle
      rfl
    | cons y r => exact ih (by simp)
end Go.Proofs.Ytcffniaieegbgaa.Pure

end

section
namespace Go.Proofs.Ytcffniaieegbgaa.Pure
open Go.RowKit Go.Proofs.Ytcffniaieegbgaa.P Go.Proofs.YtcffniaieegbgaaW.PrintWords
set_option linter.unusedSimpArgs false
set_option linter.unusedVariables false
theorem firstAt_some : ∀ (l : List S46) (j : Nat) (x : Int), x ∈ l.map (·.f0) → (firstAt l j x).isSome = true
  | [], j, x, h => by cases h
  | y :: r, j, x, h => by
    unfold firstAt
    split
    · rfl
    · rename_i hne
      simp only [List.map_cons, List.mem_cons] at h
      exact firstAt_some r (j + 1) x (h.resolve_left (fun e => hne e.symm))
theorem getD_mem {l : List S46} {i : Nat} (h : i < l.length) : l.getD i z46 ∈ l := by
  rw [List.getD_eq_getElem?_getD, List.getElem?_eq_getElem h]
  exact List.getElem_mem h
theorem Seq.lt {l : List Int} {acc : List S46} {n : Nat} (h : Seq l acc n) : ∀ (d i : Nat), i + d + 1 < acc.length → (acc.getD i z46).f0 < (acc.getD (i + d + 1) z46).f0
  | 0, i, hi => by
    have h1 := h.next i (by omega)
    rw [if_pos (by omega)] at h1
    have h2 := (h.all _ (getD_mem (show i < acc.length by omega))).2.2.1
    show _ < (acc.getD (i + 1) z46).f0
    omega
  | d + 1, i, hi => by
    have ih := Seq.lt h d i (by omega)
    have h1 := h.next (i + d + 1) (by omega)
    rw [if_pos (by omega)] at h1
    have h2 := (h.all _ (getD_mem (show i + d + 1 < acc.length by omega))).2.2.1
    show _ < (acc.getD (i + d + 1 + 1) z46).f0
    omega
theorem Seq.inj {l : List Int} {acc : List S46} {n : Nat} (h : Seq l acc n) {i j : Nat} (hi : i < acc.length) (hj : j < acc.length) (he : (acc.getD i z46).f0 = (acc.getD j z46).f0) : i = j := by
  rcases Nat.lt_trichotomy i j with h1 | h1 | h1
  · have := h.lt (j - i - 1) i (by omega)
    rw [show i + (j - i - 1) + 1 = j by omega] at this
    omega
  · exact h1
  · have := h.lt (i - j - 1) j (by omega)
    rw [show j + (i - j - 1) + 1 = i by omega] at this
    omega
theorem Seq.place {l : List Int} {acc : List S46} {n : Nat} (h : Seq l acc n) {i : Nat} (hi : i < acc.length) : firstAt acc 0 (acc.getD i z46).f0 = some (i : Int) := by
  have h1 := firstAt_some acc 0 (acc.getD i z46).f0 (List.mem_map.2 ⟨_, getD_mem hi, rfl⟩)
  cases hf : firstAt acc 0 (acc.getD i z46).f0 with
  | none => rw [hf] at h1; cases h1
  | some v =>
    obtain ⟨j, rfl, hj, he⟩ := firstAt_idx hf
    unfold rd_T46 at he
    rw [Int.toNat_natCast] at he
    rw [h.inj hj hi he]
end Go.Proofs.Ytcffniaieegbgaa.Pure

end

section
namespace Go.Proofs.Ytcffniaieegbgaa.Pure
open Go.RowKit Go.Proofs.Ytcffniaieegbgaa.P Go.Proofs.YtcffniaieegbgaaW.PrintWords
set_option linter.unusedSimpArgs false
set_option linter.unusedVariables false
theorem blocks_len (l : List S46) : ∀ (d i fr : Nat), (blocksL l fr i d).length ≤ d
  | 0, i, fr => by simp [blocksL]
  | d + 1, i, fr => by
    unfold blocksL
    split
    · exact Nat.le_succ_of_le (blocks_len l d (i + 1) fr)
    · rw [List.length_cons]
      exact Nat.succ_le_succ (blocks_len l d (i + 1) (i + 1))
end Go.Proofs.Ytcffniaieegbgaa.Pure

end

section
namespace Go.Proofs.Ytcffniaieegbgaa.Pure
open Go.RowKit Go.Proofs.Ytcffniaieegbgaa.P Go.Proofs.YtcffniaieegbgaaW.PrintWords
set_option linter.unusedSimpArgs false
set_option linter.unusedVariables false
abbrev atD (l : List S46) (i : Nat) : S46 := l.getD i z46
theorem rdN (l : List S46) (i : Nat) : rd_T46 l (i : Int) = atD l i := by unfold rd_T46; rw [Int.toNat_natCast]
def Rise (l : List S46) : Prop := ∀ i j : Nat, i < j → j < l.length → (atD l i).f0 < (atD l j).f0
theorem riseTo_step {l : List S46} : ∀ n, riseTo l n = true → ∀ i, i + 1 < n → (atD l i).f0 < (atD l (i + 1)).f0
  | 0, h, i, hi => by omega
  | n + 1, h, i, hi => by
    rw [riseTo, Bool.and_eq_true] at h
    by_cases hn : i + 1 = n
    · have h2 := h.2
      rw [← hn, rdN, rdN, decide_eq_true (show 0 < i + 1 by omega), Bool.true_and, Bool.not_eq_true', decide_eq_false_iff_not, show i + 1 - 1 = i by omega] at h2
      omega
    · exact riseTo_step n h.1 i (by omega)
theorem riseTo_rise {l : List S46} (h : riseTo l l.length = true) : Rise l := by
  have h1 : ∀ d i : Nat, i + d + 1 < l.length → (atD l i).f0 < (atD l (i + d + 1)).f0 := by
    intro d
    induction d with
    | zero => intro i hi; exact riseTo_step _ h i hi
    | succ d ih =>
      intro i hi
      have h2 := ih i (by omega)
      have h3 := riseTo_step _ h (i + d + 1) hi
      show _ < (atD l (i + d + 1 + 1)).f0
      omega
  intro i j hij hj
  have := h1 (j - i - 1) i (by omega)
  rw [show i + (j - i - 1) + 1 = j by omega] at this
  exact this
theorem Rise.inj {l : List S46} (h : Rise l) {i j : Nat} (hi : i < l.length) (hj : j < l.length) (he : (atD l i).f0 = (atD l j).f0) : i = j := by
  rcases Nat.lt_trichotomy i j with h1 | h1 | h1
  · have := h i j h1 hj; omega
  · exact h1
  · have := h j i h1 hi; omega
theorem Rise.place {l : List S46} (h : Rise l) {j : Nat} (hj : j < l.length) (a : Int) : firstAt l 0 a = some (j : Int) ↔ (atD l j).f0 = a := by
  constructor
  · intro h1
    obtain ⟨i, h2, h3, h4⟩ := firstAt_idx h1
    rw [h2, rdN] at h4
    obtain rfl : j = i := by omega
    exact h4
  · intro h1
    have h2 := firstAt_some l 0 a (List.mem_map.2 ⟨_, getD_mem hj, h1⟩)
    cases hf : firstAt l 0 a with
    | none => rw [hf] at h2; cases h2
    | some v =>
      obtain ⟨i, rfl, h3, h4⟩ := firstAt_idx hf
      rw [rdN] at h4
      rw [h.inj h3 hj (h4.trans h1.symm)]
theorem placeI_nat {l : List S46} {a : Int} : (0 ≤ placeI l a ↔ (firstAt l 0 a).isSome = true) ∧ ∀ j : Nat, placeI l a = (j : Int) ↔ firstAt l 0 a = some (j : Int) := by
  unfold placeI
  cases hf : firstAt l 0 a with
  | none => exact ⟨by simp, fun j => ⟨fun h => (by exfalso; revert h; simp), fun h => (by cases h)⟩⟩
  | some v =>
    obtain ⟨i, rfl, _⟩ := firstAt_idx hf
    exact ⟨by simp, fun j => by simp⟩
theorem getD_set0 (m : List Bool) (j i : Nat) (hi : i < m.length) : (m.set j true).getD i false = (decide (i = j) || m.getD i false) := by
  by_cases h : i = j
  · subst h
    rw [decide_eq_true rfl, Bool.true_or, List.getD_eq_getElem?_getD, List.getElem?_set_self hi]
    rfl
  · rw [decide_eq_false h, Bool.false_or, List.getD_eq_getElem?_getD, List.getD_eq_getElem?_getD, List.getElem?_set_ne (fun e => h e.symm)]
theorem markR_is {l : List S46} {j : Nat} (hj : j < l.length) : ∀ n, n ≤ l.length → ((markR l n).getD j false = true ↔ (j = 0 ∧ 0 < n) ∨ (∃ m, m < n ∧ m + 1 = j ∧ followB (atD l m) = true) ∨ (∃ m, m < n ∧ jumpsB (atD l m).f1 = true ∧ placeI l (atD l m).f2 = (j : Int)))
  | 0, hn => by
    rw [markR, List.getD_eq_getElem?_getD, List.getElem?_replicate, if_pos hj]
    constructor
    · intro h; cases h
    · rintro (⟨_, h⟩ | ⟨m, h, _⟩ | ⟨m, h, _⟩) <;> omega
  | n + 1, hn => by
    have ih := markR_is hj n (by omega)
    have hlen := markR_len l n
    have e1 : (markR l (n + 1)).getD j false = ((markR l n).getD j false || (decide (n = 0) && decide (j = n)) || (followB (atD l n) && decide (n + 1 < l.length) && decide (j = n + 1)) || (jumpsB (atD l n).f1 && decide (placeI l (atD l n).f2 = (j : Int)))) := by
      simp only [markR]
      rw [rdN]
      have hf : (jumpsB (atD l n).f1 || endsB (atD l n).f1) = followB (atD l n) := rfl
      rw [hf]
      have s1 : (if n = 0 then (markR l n).set n true else markR l n).length = l.length := by split <;> simp [hlen]
      have v1 : (if n = 0 then (markR l n).set n true else markR l n).getD j false = ((markR l n).getD j false || (decide (n = 0) && decide (j = n))) := by
        by_cases h0 : n = 0
        · rw [if_pos h0, getD_set0 _ _ _ (by omega), decide_eq_true h0, Bool.true_and, Bool.or_comm]
        · rw [if_neg h0, decide_eq_false h0, Bool.false_and, Bool.or_false]
      generalize (if n = 0 then (markR l n).set n true else markR l n) = m1 at s1 v1 ⊢
      have s2 : (if (followB (atD l n) && decide (n + 1 < l.length)) = true then m1.set (n + 1) true else m1).length = l.length := by split <;> simp [s1]
      have v2 : (if (followB (atD l n) && decide (n + 1 < l.length)) = true then m1.set (n + 1) true else m1).getD j false = (m1.getD j false || (followB (atD l n) && decide (n + 1 < l.length) && decide (j = n + 1))) := by
        cases h0 : (followB (atD l n) && decide (n + 1 < l.length)) with
        | true => rw [if_pos rfl, getD_set0 _ _ _ (by omega), Bool.true_and, Bool.or_comm]
        | false => rw [if_neg (by decide), Bool.false_and, Bool.or_false]
      generalize (if (followB (atD l n) && decide (n + 1 < l.length)) = true then m1.set (n + 1) true else m1) = m2 at s2 v2 ⊢
      rw [← v1, ← v2]
      cases h0 : jumpsB (atD l n).f1 with
      | false => rw [Bool.false_and, if_neg (by decide), Bool.false_and, Bool.or_false]
      | true =>
        rw [Bool.true_and, Bool.true_and]
        by_cases h1 : 0 ≤ placeI l (atD l n).f2
        · rw [decide_eq_true h1, if_pos rfl, getD_set0 _ _ _ (by omega), Bool.or_comm]
          congr 1
          have : (j = (placeI l (atD l n).f2).toNat) ↔ placeI l (atD l n).f2 = (j : Int) := by omega
          exact decide_eq_decide.2 this
        · rw [decide_eq_false h1, if_neg (by decide), decide_eq_false (show ¬ placeI l (atD l n).f2 = (j : Int) by omega), Bool.or_false]
    rw [e1, Bool.or_eq_true, Bool.or_eq_true, Bool.or_eq_true, ih]
    simp only [Bool.and_eq_true, decide_eq_true_eq]
    constructor
    · rintro (((h | ⟨h1, h2⟩) | ⟨⟨h1, h2⟩, h3⟩) | ⟨h1, h2⟩)
      · rcases h with ⟨h1, h2⟩ | ⟨m, h1, h2, h3⟩ | ⟨m, h1, h2, h3⟩
        · exact .inl ⟨h1, by omega⟩
        · exact .inr (.inl ⟨m, by omega, h2, h3⟩)
        · exact .inr (.inr ⟨m, by omega, h2, h3⟩)
      · exact .inl ⟨by omega, by omega⟩
      · exact .inr (.inl ⟨n, by omega, h3.symm, h1⟩)
      · exact .inr (.inr ⟨n, by omega, h1, h2⟩)
    · rintro (⟨h1, h2⟩ | ⟨m, h1, h2, h3⟩ | ⟨m, h1, h2, h3⟩)
      · by_cases h0 : n = 0
        · exact .inl (.inl (.inr ⟨h0, by omega⟩))
        · exact .inl (.inl (.inl (.inl ⟨h1, by omega⟩)))
      · by_cases h0 : m = n
        · subst h0
          exact .inl (.inr ⟨⟨h3, by omega⟩, h2.symm⟩)
        · exact .inl (.inl (.inl (.inr (.inl ⟨m, by omega, h2, h3⟩))))
      · by_cases h0 : m = n
        · subst h0
          exact .inr ⟨h2, h3⟩
        · exact .inl (.inl (.inl (.inr (.inr ⟨m, by omega, h2, h3⟩))))
theorem follow_is (l : List S46) (x : Int) : ∀ n, x ∈ P.follow l n ↔ ∃ m, m < n ∧ m + 1 < l.length ∧ followB (atD l m) = true ∧ x = (atD l (m + 1)).f0
  | 0 => by
    rw [P.follow]
    exact ⟨fun h => (by cases h), fun ⟨m, h, _⟩ => (by omega)⟩
  | n + 1 => by
    rw [P.follow, List.mem_append, follow_is l x n, rdN, rdN]
    constructor
    · rintro (⟨m, h1, h2, h3, h4⟩ | h)
      · exact ⟨m, by omega, h2, h3, h4⟩
      · split at h
        · rename_i hc
          rw [Bool.and_eq_true, decide_eq_true_eq] at hc
          exact ⟨n, by omega, hc.1, hc.2, List.mem_singleton.1 h⟩
        · cases h
    · rintro ⟨m, h1, h2, h3, h4⟩
      by_cases hm : m = n
      · subst hm
        rw [decide_eq_true h2, h3]
        exact .inr (List.mem_singleton.2 h4)
      · exact .inl ⟨m, by omega, h2, h3, h4⟩
theorem mem_getD {l : List S46} {x : S46} (h : x ∈ l) : ∃ i, i < l.length ∧ atD l i = x := by
  obtain ⟨i, hi, he⟩ := List.getElem_of_mem h
  exact ⟨i, hi, by unfold atD; rw [List.getD_eq_getElem?_getD, List.getElem?_eq_getElem hi]; exact he⟩
theorem mark_lead {l : List S46} (h : Rise l) {j : Nat} (hj : j + 1 < l.length) : (markR l l.length).getD (j + 1) false = true ↔ (atD l (j + 1)).f0 ∈ leadK l := by
  rw [markR_is hj l.length (Nat.le_refl _)]
  unfold leadK
  rw [List.mem_append, follow_is, srt_mem]
  unfold tgts
  rw [List.mem_map]
  constructor
  · rintro (⟨h1, _⟩ | ⟨m, h1, h2, h3⟩ | ⟨m, h1, h2, h3⟩)
    · omega
    · exact .inr ⟨m, h1, by omega, h3, by rw [h2]⟩
    · refine .inl ⟨atD l m, List.mem_filter.2 ⟨getD_mem h1, h2⟩, ?_⟩
      exact (((Rise.place h hj _).1 ((placeI_nat.2 _).1 h3))).symm
  · rintro (⟨x, h1, h2⟩ | ⟨m, h1, h2, h3, h4⟩)
    · obtain ⟨h3, h4⟩ := List.mem_filter.1 h1
      obtain ⟨m, h5, rfl⟩ := mem_getD h3
      exact .inr (.inr ⟨m, h5, h4, (placeI_nat.2 _).2 ((Rise.place h hj _).2 h2.symm)⟩)
    · exact .inr (.inl ⟨m, h1, by have := h.inj hj h2 h4; omega, h3⟩)
theorem set_last (B : List S35) (x y : S35) : (B ++ [x]).set ((B ++ [x]).length - 1) y = B ++ [y] := by
  rw [List.length_append, List.length_singleton, Nat.add_sub_cancel, List.set_append_right _ _ (Nat.le_refl _), Nat.sub_self]
  rfl
theorem getD_last (B : List S35) (x : S35) : (B ++ [x]).getD ((B ++ [x]).length - 1) z35 = x := by
  rw [List.length_append, List.length_singleton, Nat.add_sub_cancel, List.getD_eq_getElem?_getD, List.getElem?_append_right (Nat.le_refl _), Nat.sub_self]
  rfl
theorem goesOn_is {l : List S46} (h : Rise l) (i : Nat) : goesOn l i = true ↔ i + 1 < l.length ∧ (markR l l.length).getD (i + 1) false = false := by
  unfold goesOn
  rw [rdN, Bool.and_eq_true, decide_eq_true_eq, Bool.not_eq_true', decide_eq_false_iff_not]
  constructor
  · rintro ⟨h1, h2⟩
    refine ⟨h1, ?_⟩
    cases hb : (markR l l.length).getD (i + 1) false with
    | false => rfl
    | true => exact absurd ((mark_lead h h1).1 hb) h2
  · rintro ⟨h1, h2⟩
    exact ⟨h1, fun h3 => by rw [(mark_lead h h1).2 h3] at h2; cases h2⟩
theorem outR_go {l : List S46} (h : Rise l) : ∀ (d i fr : Nat) (B : List S35), i + d = l.length → (d = 0 → outR l (markR l l.length) i = B) → (0 < d → ((markR l l.length).getD i false = true ∧ fr = i ∧ outR l (markR l l.length) i = B) ∨ ((markR l l.length).getD i false = false ∧ ∃ y z, outR l (markR l l.length) i = B ++ [⟨(atD l fr).f0, y, z⟩])) → outR l (markR l l.length) l.length = B ++ blocksL l fr i d
  | 0, i, fr, B, hd, h0, _ => by
    rw [blocksL, List.append_nil, ← h0 rfl, show i = l.length by omega]
  | d + 1, i, fr, B, hd, _, h1 => by
    have hfil : ((nextL (atD l i)).filter fun a => decide (0 ≤ placeI l a)) = (nextL (atD l i)).filter fun a => (firstAt l 0 a).isSome := by
      congr 1
      funext a
      have := (placeI_nat (l := l) (a := a)).1
      cases hb : (firstAt l 0 a).isSome with
      | true => exact decide_eq_true (this.2 hb)
      | false => exact decide_eq_false (fun h9 => by rw [this.1 h9] at hb; cases hb)
    have hs : outR l (markR l l.length) (i + 1) = B ++ [⟨(atD l fr).f0, (atD l i).f0, if i + 1 = l.length ∨ (markR l l.length).getD (i + 1) false = true then (nextL (atD l i)).filter (fun a => (firstAt l 0 a).isSome) else []⟩] := by
      rw [← hfil]
      simp only [outR]
      rw [rdN]
      rcases h1 (by omega) with ⟨h2, rfl, h3⟩ | ⟨h2, y, z, h3⟩
      · rw [h2, h3, if_pos rfl, set_last, getD_last]
      · rw [h2, h3, if_neg (by decide), set_last, getD_last]
    rw [blocksL]
    by_cases hg : goesOn l i = true
    · rw [if_pos hg]
      obtain ⟨h2, h3⟩ := (goesOn_is h i).1 hg
      refine outR_go h d (i + 1) fr B (by omega) (fun h9 => by omega) (fun _ => .inr ⟨h3, _, _, hs⟩)
    · rw [if_neg hg]
      have hc : i + 1 = l.length ∨ (markR l l.length).getD (i + 1) false = true := by
        by_cases h2 : i + 1 = l.length
        · exact .inl h2
        · right
          cases hb : (markR l l.length).getD (i + 1) false with
          | true => rfl
          | false => exact absurd ((goesOn_is h i).2 ⟨by omega, hb⟩) hg
      rw [if_pos hc] at hs
      have hb : blkOf l fr i = ⟨(atD l fr).f0, (atD l i).f0, (nextL (atD l i)).filter (fun a => (firstAt l 0 a).isSome)⟩ := by unfold blkOf; rw [rdN, rdN]
      rw [← hb] at hs
      have ih := outR_go h d (i + 1) (i + 1) (B ++ [blkOf l fr i]) (by omega) (fun _ => hs) (fun h9 => .inl ⟨hc.resolve_left (by omega), rfl, hs⟩)
      rw [ih, List.append_assoc, List.singleton_append]
theorem outR_is {l : List S46} (h : riseTo l l.length = true) : outR l (markR l l.length) l.length = blocksL l 0 0 l.length := by
  have h1 := outR_go (riseTo_rise h) l.length 0 0 [] (by omega) (fun _ => rfl) (fun h0 => .inl ⟨(markR_is h0 _ (Nat.le_refl _)).2 (.inl ⟨rfl, h0⟩), rfl, rfl⟩)
  rw [h1, List.nil_append]
theorem ordered_any (l : List S46) (hl : l.length ≤ 9223372036854775807) : ∀ (d i : Nat), l.length - i = d → 1 ≤ i → riseTo l (min i l.length) = true → Ev (fun k => flow_ordered.l0 k l (i : Int)) (riseTo l l.length)
  | 0, i, hd, h1, hr => by
    rw [show min i l.length = l.length by omega] at hr
    rw [hr]
    refine Ev.step (f := fun _ => some true) (fun k => ?_) (Ev.now _)
    simp only [flow_ordered.l0]
    rw [if_neg (by omega)]
  | d + 1, i, hd, h1, hr => by
    have hw : wrap64 ((i : Int) - 1) = ((i - 1 : Nat) : Int) := by unfold wrap64; omega
    rw [show min i l.length = i by omega] at hr
    have hstep : riseTo l (i + 1) = !(decide ((rd_T46 l (i : Int)).f0 ≤ (rd_T46 l ((i - 1 : Nat) : Int)).f0)) := by rw [riseTo, hr, Bool.true_and, decide_eq_true (show 0 < i by omega), Bool.true_and]
    by_cases hc : (rd_T46 l (i : Int)).f0 ≤ (rd_T46 l ((i - 1 : Nat) : Int)).f0
    · rw [decide_eq_true hc] at hstep
      have hno := riseTo_no hstep (l.length - (i + 1))
      rw [show i + 1 + (l.length - (i + 1)) = l.length by omega] at hno
      rw [hno]
      refine Ev.step (f := fun _ => some false) (fun k => ?_) (Ev.now _)
      simp only [flow_ordered.l0]
      rw [if_pos (by omega), if_pos (by omega), hw, if_pos (by omega), if_pos (by omega), if_pos hc]
    · rw [decide_eq_false hc] at hstep
      have ih := ordered_any l hl d (i + 1) (by omega) (by omega) (by rw [show min (i + 1) l.length = i + 1 by omega]; exact hstep)
      refine Ev.step (fun k => ?_) ih
      simp only [flow_ordered.l0]
      rw [if_pos (by omega), if_pos (by omega), hw, if_pos (by omega), if_pos (by omega), if_neg hc, wrap_one (show i < l.length by omega) hl]
theorem ordered_is (l : List S46) (hl : l.length ≤ 9223372036854775807) : Ev (fun k => flow_ordered.f k l) (riseTo l l.length) := by
  refine ordered_any l hl (l.length - 1) 1 rfl (Nat.le_refl _) ?_
  by_cases h : 1 ≤ l.length
  · rw [show min 1 l.length = 1 by omega, riseTo, riseTo]; rfl
  · rw [show min 1 l.length = 0 by omega, riseTo]
def blkL (l : List S46) : List S35 := if riseTo l l.length = true then blocksL l 0 0 l.length else []
theorem pblocks_ev (l : List S46) (hl : l.length < 4398046511104) (h1 : asOk l = true) (h2 : atsOk l = true) : Ev (fun k => flow_Blocks.f k l) (blkL l) := by
  refine Ev.congr (f := fun k => (flow_ordered.f k l).bind fun b => if b = true then some (blocksL l 0 0 l.length) else some []) (fun k => ?_) (Ev.bind (ordered_is l (by omega)) ?_)
  · unfold flow_Blocks.f
    rw [if_pos ⟨hl, h1, h2⟩]
  · unfold blkL
    split <;> exact Ev.now _
theorem all_ev {α : Type} (p : Nat → α → Bool) : ∀ l : List α, (∀ x ∈ l, ∃ K, ∀ k, K ≤ k → p k x = true) → ∃ K, ∀ k, K ≤ k → l.all (p k) = true
  | [], _ => ⟨0, fun _ _ => rfl⟩
  | x :: r, h => by
    obtain ⟨K1, h1⟩ := h x List.mem_cons_self
    obtain ⟨K2, h2⟩ := all_ev p r (fun y hy => h y (List.mem_cons_of_mem _ hy))
    exact ⟨max K1 K2, fun k hk => by rw [List.all_cons, h1 k (by omega), h2 k (by omega)]; rfl⟩
theorem okR_ev (l : List S46) (hl : l.length ≤ 9223372036854775807) : ∃ K, ∀ k, K ≤ k → okR k l = true := by
  refine all_ev (fun k x => decide (provisoref05_Next.f k x.f0 x.f1 x.f2 x.f3 = some (nextL x)) && (decide (provisoref05_Place.f k l x.f2 = some (placeI l x.f2)) && (nextL x).all fun b => decide (provisoref05_Place.f k l b = some (placeI l b)))) l (fun x _ => ?_)
  obtain ⟨K1, h1⟩ := next_ev x
  obtain ⟨K2, h2⟩ := place_ev l hl x.f2
  obtain ⟨K3, h3⟩ := all_ev (fun k b => decide (provisoref05_Place.f k l b = some (placeI l b))) (nextL x) (fun b _ => by
    obtain ⟨K, h⟩ := place_ev l hl b
    exact ⟨K, fun k hk => decide_eq_true (h k hk)⟩)
  refine ⟨K1 + K2 + K3, fun k hk => ?_⟩
  rw [Bool.and_eq_true, Bool.and_eq_true]
  exact ⟨decide_eq_true (h1 k (by omega)), decide_eq_true (h2 k (by omega)), h3 k (by omega)⟩
theorem rblocks_ev (l : List S46) (hl : l.length < 4398046511104) : Ev (fun k => provisoref05_Blocks.f k l) (blkL l) := by
  obtain ⟨K, h⟩ := okR_ev l (by omega)
  refine ⟨K, fun k hk => ?_⟩
  show provisoref05_Blocks.f k l = some (blkL l)
  unfold provisoref05_Blocks.f blkL
  rw [if_pos ⟨hl, h k hk⟩]
  split
  · rename_i hr
    rw [outR_is hr]
  · rfl
theorem blkL_len (l : List S46) : (blkL l).length ≤ l.length := by
  unfold blkL
  split
  · exact blocks_len l _ _ _
  · simp
end Go.Proofs.Ytcffniaieegbgaa.Pure

end

section
namespace Go.Proofs.Ytcffniaieegbgaa.Pure
open Go.RowKit Go.Proofs.Ytcffniaieegbgaa.P Go.Proofs.YtcffniaieegbgaaW.PrintWords
set_option linter.unusedSimpArgs false
set_option linter.unusedVariables false
theorem rdB_mem {l : List S35} {i : Nat} (h : i < l.length) : rd_T35 l (i : Int) ∈ l := by
  unfold rd_T35
  rw [Int.toNat_natCast, List.getD_eq_getElem?_getD, List.getElem?_eq_getElem h]
  exact List.getElem_mem h
def Leads (l : List S35) (i j : Nat) : Prop := ∃ a ∈ (rd_T35 l (i : Int)).f2, firstB l 0 a = some (j : Int)
inductive Star (l : List S35) : Nat → Nat → Prop
  | refl (i : Nat) : Star l i i
  | step {i j k : Nat} (h : Leads l i j) (r : Star l j k) : Star l i k
theorem Star.snoc {l : List S35} {i j k : Nat} (h : Star l i j) (r : Leads l j k) : Star l i k := by
  induction h with
  | refl i => exact .step r (.refl _)
  | step h _ ih => exact .step h (ih r)
theorem Star.trans {l : List S35} {i j k : Nat} (h : Star l i j) (r : Star l j k) : Star l i k := by
  induction h with
  | refl i => exact r
  | step h _ ih => exact .step h (ih r)
structure Dfs (l : List S35) (met met' : List Bool) (out out' : List Int) (d : List Nat) : Prop where
  len : met'.length = met.length
  mono : ∀ j, met.getD j false = true → met'.getD j false = true
  cnt : out'.length + met'.count false = out.length + met.count false
  ext : out' = out ++ d.map fun j => ((j : Nat) : Int)
  nodup : d.Nodup
  new : ∀ j, j ∈ d ↔ (met.getD j false = false ∧ met'.getD j false = true)
  low : ∀ j ∈ d, j < l.length
  closed : ∀ j ∈ d, ∀ s, Leads l j s → met'.getD s false = true
  topo : ∀ a j b, d = a ++ j :: b → ∀ s, Leads l j s → ((s : Int) ∈ out ++ a.map fun j => ((j : Nat) : Int)) ∨ Star l s j
theorem Dfs.refl (l : List S35) (met : List Bool) (out : List Int) : Dfs l met met out out [] :=
  ⟨rfl, fun _ h => h, rfl, (by simp), List.nodup_nil, fun j => ⟨fun h => (by cases h), fun h => (by have h2 := h.2; rw [h.1] at h2; cases h2)⟩, fun _ h => (by cases h), fun _ h => (by cases h), fun a j b h => (by simp at h)⟩
theorem Dfs.trans {l : List S35} {m1 m2 m3 : List Bool} {o1 o2 o3 : List Int} {d1 d2 : List Nat} (h1 : Dfs l m1 m2 o1 o2 d1) (h2 : Dfs l m2 m3 o2 o3 d2) : Dfs l m1 m3 o1 o3 (d1 ++ d2) where
  len := h2.len.trans h1.len
  mono := fun j h => h2.mono j (h1.mono j h)
  cnt := h2.cnt.trans h1.cnt
  ext := by rw [h2.ext, h1.ext, List.map_append, List.append_assoc]
  nodup := by
    rw [List.nodup_append]
    refine ⟨h1.nodup, h2.nodup, fun a ha b hb e => ?_⟩
    subst e
    have := ((h1.new a).1 ha).2
    rw [((h2.new a).1 hb).1] at this
    cases this
  new := fun j => by
    rw [List.mem_append, h1.new, h2.new]
    constructor
    · rintro (⟨a, b⟩ | ⟨a, b⟩)
      · exact ⟨a, h2.mono j b⟩
      · refine ⟨?_, b⟩
        cases hb : m1.getD j false with
        | false => rfl
        | true => rw [h1.mono j hb] at a; cases a
    · rintro ⟨a, b⟩
      cases hb : m2.getD j false with
      | true => exact .inl ⟨a, rfl⟩
      | false => exact .inr ⟨rfl, b⟩
  low := fun j hj => (List.mem_append.1 hj).elim (h1.low j) (h2.low j)
  closed := fun j hj s hs => (List.mem_append.1 hj).elim (fun h => h2.mono s (h1.closed j h s hs)) (fun h => h2.closed j h s hs)
  topo := by
    intro a j b e s hs
    rcases List.append_eq_append_iff.1 e with ⟨a', e1, e2⟩ | ⟨c', e1, e2⟩
    · subst e1
      rcases h2.topo a' j b e2 s hs with h3 | h3
      · rw [h1.ext] at h3
        rw [List.map_append, ← List.append_assoc]
        exact .inl h3
      · exact .inr h3
    · cases c' with
      | nil =>
        rw [List.append_nil] at e1
        subst e1
        have e2 : d2 = [] ++ j :: b := e2.symm
        rcases h2.topo [] j b e2 s hs with h3 | h3
        · rw [h1.ext] at h3
          simpa using Or.inl h3
        · exact .inr h3
      | cons c cs =>
        rw [List.cons_append] at e2
        injection e2 with e3 e4
        subst e3
        exact h1.topo a j cs e1 s hs
theorem sameB_go (l : List S35) (hl : l.length ≤ 9223372036854775807) (hx : ∀ x ∈ l, x.f2.length ≤ 9223372036854775807) : ∀ (d i : Nat), l.length - i = d → i ≤ l.length → Ev (fun k => provisoplain_SameBlocks.l0 k l l (l.length : Int) (i : Int)) true
  | 0, i, hd, hi => by
    refine Ev.step (f := fun _ => some true) (fun k => ?_) (Ev.now _)
    simp only [provisoplain_SameBlocks.l0]
    rw [if_neg (by omega)]
  | d + 1, i, hd, hi => by
    have h1 : i < l.length := by omega
    have ih := sameB_go l hl hx d (i + 1) (by omega) (by omega)
    refine Ev.step (f := fun k => (slices_Equal_int_int.f k (rd_T35 l (i : Int)).f2 (rd_T35 l (i : Int)).f2).bind fun t => if t = true then provisoplain_SameBlocks.l0 k l l (l.length : Int) ((i + 1 : Nat) : Int) else some false) (fun k => ?_) (Ev.bind (ints_ev _ (hx _ (rdB_mem h1))) ?_)
    · simp only [provisoplain_SameBlocks.l0]
      rw [if_pos (by omega), if_pos (by omega), if_pos (by omega), if_pos (by omega), if_pos True.intro, if_pos True.intro, wrap_one h1 hl]
    · simp only [if_true]
      exact ih
theorem sameB_ev (l : List S35) (hl : l.length ≤ 9223372036854775807) (hx : ∀ x ∈ l, x.f2.length ≤ 9223372036854775807) : Ev (fun k => provisoplain_SameBlocks.f k l l) true := by
  refine Ev.congr (fun k => ?_) (sameB_go l hl hx l.length 0 (by omega) (by omega))
  unfold provisoplain_SameBlocks.f
  rw [if_pos rfl]
  rfl
theorem blkL_f2 (l : List S46) : ∀ x ∈ blkL l, x.f2.length ≤ 2 := by
  have h : ∀ (d i fr : Nat), ∀ x ∈ blocksL l fr i d, x.f2.length ≤ 2 := by
    intro d
    induction d with
    | zero => intro i fr x hx; simp [blocksL] at hx
    | succ d ih =>
      intro i fr x hx
      unfold blocksL at hx
      split at hx
      · exact ih _ _ x hx
      · rcases List.mem_cons.1 hx with rfl | hx
        · exact Nat.le_trans (List.length_filter_le _ _) (nextL_len _)
        · exact ih _ _ x hx
  intro x hx
  unfold blkL at hx
  split at hx
  · exact h _ _ _ x hx
  · cases hx
end Go.Proofs.Ytcffniaieegbgaa.Pure

end

section
namespace Go.Proofs.Ytcffniaieegbgaa.Pure
open Go.RowKit Go.Proofs.Ytcffniaieegbgaa.P Go.Proofs.YtcffniaieegbgaaW.PrintWords
set_option linter.unusedSimpArgs false
set_option linter.unusedVariables false
theorem FlowBlocks : provisolaw05_FlowBlocks.Pure := by
  intro l ⟨_, hl, hok⟩
  obtain ⟨ho1, ho2⟩ := asOk_of hok
  have hlen : l.length < 4398046511104 := by omega
  have hbl := blkL_len l
  obtain ⟨K1, h1⟩ := pblocks_ev l hlen ho1 ho2
  obtain ⟨K2, h2⟩ := rblocks_ev l hlen
  obtain ⟨K3, h3⟩ := sameB_ev (blkL l) (by omega) (fun x hx => by have := blkL_f2 l x hx; omega)
  obtain ⟨K5, h5⟩ := instrs_ev l (by omega)
  refine ⟨K1 + K2 + K3 + K5, ?_⟩
  have h1 := h1 (K1 + K2 + K3 + K5) (by omega)
  have h2 := h2 (K1 + K2 + K3 + K5) (by omega)
  have h3 := h3 (K1 + K2 + K3 + K5) (by omega)
  have h5 := h5 (K1 + K2 + K3 + K5) (by omega)
  simp only at h1 h2 h3 h5
  unfold provisolaw05_FlowBlocks.f api_Instr_33.f
  rw [if_pos hlen]
  simp only [Option.bind_some]
  rw [h1]
  simp only [Option.bind_some]
  rw [h2]
  simp only [Option.bind_some]
  rw [h3]
  simp only [Option.bind_some, if_true]
  rw [h5]
  rfl
end Go.Proofs.Ytcffniaieegbgaa.Pure

end

section
namespace Go.Proofs.Ytcffniaieegbgaa.flowBlocks
open Go.ChangeShapes Go.WideShapes Go.ChangeAt Go.RowKit Go.Proofs.YtcffniaieegbgaaW.PrintWords Go.Proofs.Ytcffniaieegbgaa.Sees Go.Proofs.Ytcffniaieegbgaa.P
open Go.ChangeMaps (open_string shut_string)
set_option linter.unusedVariables false
set_option linter.unusedSimpArgs false
theorem own : ownKnob Try.prog.godebug = none := by kernel_rfl
theorem laidOut : laidOutB Try.prog = true := by kernel_rfl
set_option maxRecDepth 100000 in
theorem lifted (os : Os) (started : os.Started) (H : Type) (enc : TypeId × Value → H) :
    ReturnsInHanded {} Try.checked os 10 .any (Rows.flowBlocksSpec.pre6 enc Try.prog Try.f10 Rows.flowBlocksRow.domain false) (Rows.flowBlocksSpec.post enc Try.prog Try.f10 false true false false) := by
  refine returnsInHanded_of_change_sized (C := Try.checked) own started (by kernel_rfl) Try.func10
    (ChangeSpec.witness6 (enc := enc) (C := Try.checked) false ⟨#[], #[.slice none 0 0], []⟩ 8 (by kernel_rfl) (by kernel_rfl) (by kernel_rfl) (by kernel_rfl)) ?_
  intro W base args ds gs before hval0 hW hcnd hsz0 _
  have hsz : (DataW.weightsEach Try.prog (Try.f10.params.toList ++ Rows.flowBlocksSpec.plain.varTypes Try.prog) (ds ++ gs)).all (· ≤ reachBytes) = true := hsz0
  have hval : ∀ (j : Nat) t v, Try.f10.params[j]? = some t → args[j]? = some v → Value.okWide Try.prog W .any base t v := hval0
  have hW' := hW
  obtain ⟨p, q, hA0, hV, rfl, hfz, hnd⟩ := hW
  have hA : DataW.TrodAll enc Try.prog W 0 (fun _ => true) true Try.f10.params.toList args.toList ds p := hA0
  rw [Try.params10] at hA hval hsz
  obtain ⟨v0, vs0, d0, ds0, p0, q0, hargs, rfl, rfl, h0, r0⟩ := trodAll_cons hA
  obtain ⟨rfl, rfl, rfl⟩ := trodAll_nil r0
  obtain rfl : args = #[v0] := by cases args; simp_all
  obtain ⟨rfl, rfl⟩ := trodVars_none hV
  have k0 := h0
  have lt0 : ∀ x ∈ p0, x.block < W.heap.size := by obtain ⟨m, hm⟩ := k0; exact DataW.trod_lt m _ _ _ hm
  obtain ⟨y0, hy0, oy0⟩ := see_arg (j := 0) (t := 23) (sees_slice (B := 32) Try.underlying23 (by kernel_rfl) (by kernel_rfl) sees46) hsz rfl rfl h0
  obtain ⟨a0, len0, cap0, rfl⟩ := okWide_slice Try.underlying23 (hval 0 23 v0 rfl rfl)
  obtain ⟨rfl, hc0, hr0⟩ := see_slice rfl hy0
  clear hA0 hval0 hsz0 hsz
  obtain ⟨k, hk⟩ := Pure.FlowBlocks y0 oy0
  refine (provisolaw05_FlowBlocks.calls k _ _ y0 true W hr0 hc0 hk).mono ?_
  rintro e W' ⟨rfl, bel0⟩
  have bel : Below W.heap.size W W' := bel0
  exact ⟨_, rfl, _, _, _, [], _, [], hW', trodAll_mk1 (shut_bool Try.underlying4 _), (trodAll_cons_mk (Below.trod laidOut (by kernel_rfl) (of_decide_eq_true (by kernel_rfl)) k0 bel lt0) trodAll_mk0), rfl, bel.frame _, fun h => by cases h⟩
theorem over : Rows.flowBlocksRow.holds Try.pinned (OpenSpec.ofChange Rows.flowBlocksSpec) :=
  OpenClaim.holds_of_wide 10 Try.f10 rfl rfl rfl rfl rfl rfl rfl ⟨rfl, rfl, rfl, rfl, rfl⟩ rfl rfl rfl rfl rfl (by kernel_rfl) Try.func10 (by kernel_rfl)
    (of_decide_eq_true (by kernel_rfl)) (by unfold Func.isWrapper; first | (rw [if_pos (by decide +kernel)]; kernel_rfl) | (rw [if_neg (by decide +kernel)]; exact ⟨rfl, rfl⟩))
    (fun os started H enc _ => lifted os started H enc)
theorem proved : Rows.FlowBlocksSaid := over
end Go.Proofs.Ytcffniaieegbgaa.flowBlocks
namespace Go.Proofs.Ytcffniaieegbgaa
theorem flowBlocks_holds : Rows.FlowBlocksSaid := flowBlocks.proved
end Go.Proofs.Ytcffniaieegbgaa

end

