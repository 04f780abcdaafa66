/- Proved: the law FlowAhead holds for every input that the row lets in. No condition of ours. -/
import Derived.Test.YtcffniaieegbgaaBFlowAheadf
section
namespace Go.Proofs.Ytcffniaieegbgaa.P
open Go.RowKit Go.Proofs.YtcffniaieegbgaaW.PrintWords Go.Proofs.YtcffniaieegbgaaW.PrintLast Go.Proofs.YtcffniaieegbgaaW.PrintMore
attribute [local go_sem] max2_int min2_int max_two min_two max_three min_three max_four min_four   -- for this text's walks alone
set_option linter.unusedVariables false
set_option linter.unusedSimpArgs false

set_option maxHeartbeats 8000000 in
set_option maxRecDepth 100000 in
theorem provisolaw05_FlowAhead.calls (k : Nat) (A0 : Option Addr) (c0 : Nat) (l0 : List Int) (r : Bool) (w : World) (hr0 : Kd.C (Kd.int .u8) w A0 l0.length l0) (hc0 : l0.length ≤ c0) (h : provisolaw05_FlowAhead.f k l0 = some r) :
    Calls Try.prog 3 #[.slice A0 l0.length c0] w fun e w' => e = .returned (.bool r) ∧ Below w.heap.size w w' := by
  have hu35 := Try.underlying35
  have HR0 := Aside0.mk hr0
  have HC0 := Aside0.mk hc0
  clear hr0 hc0
  have HB := Aside0.mk (Below.refl w.heap.size w)
  have H : ((provisoref05_Scan.f k l0).bind fun bt222 => (if bt222.2.2 = 0 then (provisolaw05_FlowAhead.j0 k bt222.1 ((bt222.1.length : Int) == 0)) else (provisolaw05_FlowAhead.j0 k bt222.1 true))) = some r := h
  clear h
  replace H := Option.bind_eq_some_iff.mp H
  obtain ⟨⟨t222, t223, t224⟩, A20, H⟩ := H
  replace H : (if t224 = 0 then (provisolaw05_FlowAhead.j0 k t222 ((t222.length : Int) == 0)) else (provisolaw05_FlowAhead.j0 k t222 true)) = some r := H
  have A2 := Aside0.mk A20
  clear A20
  have HC3 := Aside0.mk H
  clear H
  go_enter Try.func3, Try.ntmps3
  go_upto_region 2 with (first | (go_at_call 13; (with_reducible refine (provisoref05_Scan.calls k _ _ l0 t222 t223 t224 _ ?side1 ?side2 A2.out).mono ?_); (case side1 => repeat (first | exact HR0.out | (with_reducible refine Kd.C_alloc ?_ _) | (with_reducible refine Kd.C_drewN ?_ _) | (with_reducible refine Kd.C_drew ?_))); (case side2 => exact HC0.out); rintro e w4 ⟨v225, rfl, ho0, hb⟩; have n0_ := Aside0.mk (Kd.R_lower ho0 (below_size (by repeat (first | (with_reducible first | exact HB.out | apply below_alloc | apply pw_below_drewN | apply below_drew1) | exact HB.out)))); have n1_ := Aside0.mk (below_step (by repeat (first | (with_reducible first | exact HB.out | apply below_alloc | apply pw_below_drewN | apply below_drew1) | exact HB.out)) hb); clear HB; have HO226 := n0_; have HB := n1_; clear n0_ n1_; (try clear hb); (try clear hb2); (try clear hk); (try clear hi); (try clear ho0)))
  repeat (go_quiet (first | (go_at_call 13; (with_reducible refine (provisoref05_Scan.calls k _ _ l0 t222 t223 t224 _ ?side1 ?side2 A2.out).mono ?_); (case side1 => repeat (first | exact HR0.out | (with_reducible refine Kd.C_alloc ?_ _) | (with_reducible refine Kd.C_drewN ?_ _) | (with_reducible refine Kd.C_drew ?_))); (case side2 => exact HC0.out); rintro e w4 ⟨v225, rfl, ho0, hb⟩; have n0_ := Aside0.mk (Kd.R_lower ho0 (below_size (by repeat (first | (with_reducible first | exact HB.out | apply below_alloc | apply pw_below_drewN | apply below_drew1) | exact HB.out)))); have n1_ := Aside0.mk (below_step (by repeat (first | (with_reducible first | exact HB.out | apply below_alloc | apply pw_below_drewN | apply below_drew1) | exact HB.out)) hb); clear HB; have HO226 := n0_; have HB := n1_; clear n0_ n1_; (try clear hb); (try clear hb2); (try clear hk); (try clear hi); (try clear ho0))); go_upto_region 2 with (first | (go_at_call 13; (with_reducible refine (provisoref05_Scan.calls k _ _ l0 t222 t223 t224 _ ?side1 ?side2 A2.out).mono ?_); (case side1 => repeat (first | exact HR0.out | (with_reducible refine Kd.C_alloc ?_ _) | (with_reducible refine Kd.C_drewN ?_ _) | (with_reducible refine Kd.C_drew ?_))); (case side2 => exact HC0.out); rintro e w4 ⟨v225, rfl, ho0, hb⟩; have n0_ := Aside0.mk (Kd.R_lower ho0 (below_size (by repeat (first | (with_reducible first | exact HB.out | apply below_alloc | apply pw_below_drewN | apply below_drew1) | exact HB.out)))); have n1_ := Aside0.mk (below_step (by repeat (first | (with_reducible first | exact HB.out | apply below_alloc | apply pw_below_drewN | apply below_drew1) | exact HB.out)) hb); clear HB; have HO226 := n0_; have HB := n1_; clear n0_ n1_; (try clear hb); (try clear hb2); (try clear hk); (try clear hi); (try clear ho0))))
  (try simp only [Act.put, List.setIfInBounds_toArray, List.set_cons_zero, List.set_cons_succ])
  go_cut [28] (fun v28 wc => ∃ (kq : Nat) (x28_2 : Bool), v28 = .bool x28_2 ∧ Aside0 (provisolaw05_FlowAhead.j0 kq t222 x28_2 = some r) ∧ Aside0 (kq ≤ k) ∧ Aside0 (Kd.R k46 46 wc w.heap.size (fun _ => True) v225 t222) ∧ Aside0 (Below w.heap.size w wc))
  case first =>
    have H := HC3.out
    clear HC3
    by_cases c5 : t224 = 0
    · rw [if_pos c5] at H
      have c5b0 : (t224 == 0) = true := beq_iff_eq.mpr c5
      have c5b1 : (t224 != 0) = false := bne_eq_false_iff_eq.mpr c5
      clear c5
      (first | rw [c5b0] | (simp only [i64_w, i32_w]; rw [c5b0]) | skip)
      have H' := Aside0.mk H
      clear H
      obtain ⟨Ao6, co6, eo6⟩ := Kd.R_slice HO226.out
      subst eo6
      go_wp2
      repeat (go_quiet (fail); try go_wp2)
      go_meet
      case rel => exact ⟨_, (((t222.length : Int) == 0)), (by first | rfl | (simp; done) | (simp [*]; done)), H', ⟨by first | omega | exact Nat.le_refl _⟩, ⟨by (with_reducible repeat (first | apply Kd.R_alloc | apply Kd.R_drewN | apply Kd.R_drew)); exact HO226.out⟩, ⟨by repeat (first | (with_reducible first | exact HB.out | apply below_alloc | apply pw_below_drewN | apply below_drew1) | exact HB.out)⟩⟩
    · rw [if_neg c5] at H
      have c5b0 : (t224 == 0) = false := beq_eq_false_iff_ne.mpr c5
      have c5b1 : (t224 != 0) = true := bne_iff_ne.mpr c5
      (first | rw [c5b0] | (simp only [i64_w, i32_w]; rw [c5b0]) | skip)
      have H' := Aside0.mk H
      clear H
      go_wp2
      repeat (go_quiet (fail); try go_wp2)
      go_meet
      case rel => exact ⟨_, (true), (by first | rfl | (simp; done) | (simp [*]; done)), H', ⟨by first | omega | exact Nat.le_refl _⟩, ⟨by (with_reducible repeat (first | apply Kd.R_alloc | apply Kd.R_drewN | apply Kd.R_drew)); exact HO226.out⟩, ⟨by repeat (first | (with_reducible first | exact HB.out | apply below_alloc | apply pw_below_drewN | apply below_drew1) | exact HB.out)⟩⟩
  case rest =>
    clear HC3
    try clear p2
    try clear c3
    try clear c5
    try clear c5b0
    try clear c5b1
    obtain ⟨kq, x28_2, rfl, HA, HJ2, HO_3, HB⟩ := hcut
    cases kq with
    | zero => exact absurd HA.out (by simp [provisolaw05_FlowAhead.j0])
    | succ kj2 =>
      have H := HA.out
      clear HA
      simp only [provisolaw05_FlowAhead.j0] at H
      by_cases c7 : x28_2 = true
      · subst c7
        have H1 : ((flow_Order.f kj2 ([] : List (S35))).bind fun t227 => (some ((t227.length : Int) == 0))) = some r := by rw [if_pos rfl] at H; exact H
        clear H
        have H := H1
        clear H1
        replace H := Option.bind_eq_some_iff.mp H
        obtain ⟨t227, A80, H⟩ := H
        replace H : (some ((t227.length : Int) == 0)) = some r := H
        have A8 := Aside0.mk A80
        clear A80
        obtain rfl := Option.some.inj H
        go_wp2_with (first | (go_at_call 14; (refine (flow_Order.calls kj2 _ _ ([] : List (S35)) t227 _ ?side1 ?side2 A8.out).mono ?_); (case side1 => exact Kd.C_nil _ _); (case side2 => exact Nat.le_refl _); rintro e w9 ⟨v228, rfl, ho0, hb⟩; have n0_ := Aside0.mk (Kd.R_below (by (with_reducible repeat (first | apply Kd.R_alloc | apply Kd.R_drewN | apply Kd.R_drew)); exact HO_3.out) hb); have n1_ := Aside0.mk (Kd.R_lower ho0 (below_size (by repeat (first | (with_reducible first | exact HB.out | apply below_alloc | apply pw_below_drewN | apply below_drew1) | exact HB.out)))); have n2_ := Aside0.mk (below_step (by repeat (first | (with_reducible first | exact HB.out | apply below_alloc | apply pw_below_drewN | apply below_drew1) | exact HB.out)) hb); clear HO_3; clear HB; have HO_3 := n0_; have HO229 := n1_; have HB := n2_; clear n0_ n1_ n2_; (try clear hb); (try clear hb2); (try clear hk); (try clear hi); (try clear ho0); obtain ⟨Ao10, co10, eo10⟩ := Kd.R_slice HO229.out; subst eo10))
        repeat (go_quiet (first | (go_at_call 14; (refine (flow_Order.calls kj2 _ _ ([] : List (S35)) t227 _ ?side1 ?side2 A8.out).mono ?_); (case side1 => exact Kd.C_nil _ _); (case side2 => exact Nat.le_refl _); rintro e w9 ⟨v228, rfl, ho0, hb⟩; have n0_ := Aside0.mk (Kd.R_below (by (with_reducible repeat (first | apply Kd.R_alloc | apply Kd.R_drewN | apply Kd.R_drew)); exact HO_3.out) hb); have n1_ := Aside0.mk (Kd.R_lower ho0 (below_size (by repeat (first | (with_reducible first | exact HB.out | apply below_alloc | apply pw_below_drewN | apply below_drew1) | exact HB.out)))); have n2_ := Aside0.mk (below_step (by repeat (first | (with_reducible first | exact HB.out | apply below_alloc | apply pw_below_drewN | apply below_drew1) | exact HB.out)) hb); clear HO_3; clear HB; have HO_3 := n0_; have HO229 := n1_; have HB := n2_; clear n0_ n1_ n2_; (try clear hb); (try clear hb2); (try clear hk); (try clear hi); (try clear ho0); obtain ⟨Ao10, co10, eo10⟩ := Kd.R_slice HO229.out; subst eo10)); try go_wp2_with (first | (go_at_call 14; (refine (flow_Order.calls kj2 _ _ ([] : List (S35)) t227 _ ?side1 ?side2 A8.out).mono ?_); (case side1 => exact Kd.C_nil _ _); (case side2 => exact Nat.le_refl _); rintro e w9 ⟨v228, rfl, ho0, hb⟩; have n0_ := Aside0.mk (Kd.R_below (by (with_reducible repeat (first | apply Kd.R_alloc | apply Kd.R_drewN | apply Kd.R_drew)); exact HO_3.out) hb); have n1_ := Aside0.mk (Kd.R_lower ho0 (below_size (by repeat (first | (with_reducible first | exact HB.out | apply below_alloc | apply pw_below_drewN | apply below_drew1) | exact HB.out)))); have n2_ := Aside0.mk (below_step (by repeat (first | (with_reducible first | exact HB.out | apply below_alloc | apply pw_below_drewN | apply below_drew1) | exact HB.out)) hb); clear HO_3; clear HB; have HO_3 := n0_; have HO229 := n1_; have HB := n2_; clear n0_ n1_ n2_; (try clear hb); (try clear hb2); (try clear hk); (try clear hi); (try clear ho0); obtain ⟨Ao10, co10, eo10⟩ := Kd.R_slice HO229.out; subst eo10)))
        go_ret
        exact ⟨by first | rfl | (simp [errW_none, errW_some] <;> rfl) | (simp [*, errW_none, errW_some] <;> rfl), by repeat (first | (with_reducible first | exact HB.out | apply below_alloc | apply pw_below_drewN | apply below_drew1) | exact HB.out)⟩
      · replace c7 := Bool.eq_false_iff.mpr c7
        subst c7
        have H1 : ((provisoref05_Blocks.f kj2 t222).bind fun t230 => ((provisoref05_Blocks.f kj2 t222).bind fun t233 => ((flow_Order.f kj2 t233).bind fun t236 => (if (t236.length : Int) = (t230.length : Int) then (if 0 < (t236.length : Int) then (provisolaw05_FlowAhead.j1 kj2 t222 t230 t236 ((rd t236 0) != 0)) else (none)) else (provisolaw05_FlowAhead.j1 kj2 t222 t230 t236 true))))) = some r := by rw [if_neg (show ¬ (false = true) by decide)] at H; exact H
        clear H
        have H := H1
        clear H1
        replace H := Option.bind_eq_some_iff.mp H
        obtain ⟨t230, A110, H⟩ := H
        replace H : ((provisoref05_Blocks.f kj2 t222).bind fun t233 => ((flow_Order.f kj2 t233).bind fun t236 => (if (t236.length : Int) = (t230.length : Int) then (if 0 < (t236.length : Int) then (provisolaw05_FlowAhead.j1 kj2 t222 t230 t236 ((rd t236 0) != 0)) else (none)) else (provisolaw05_FlowAhead.j1 kj2 t222 t230 t236 true)))) = some r := H
        have A11 := Aside0.mk A110
        clear A110
        replace H := Option.bind_eq_some_iff.mp H
        obtain ⟨t233, A120, H⟩ := H
        replace H : ((flow_Order.f kj2 t233).bind fun t236 => (if (t236.length : Int) = (t230.length : Int) then (if 0 < (t236.length : Int) then (provisolaw05_FlowAhead.j1 kj2 t222 t230 t236 ((rd t236 0) != 0)) else (none)) else (provisolaw05_FlowAhead.j1 kj2 t222 t230 t236 true))) = some r := H
        have A12 := Aside0.mk A120
        clear A120
        replace H := Option.bind_eq_some_iff.mp H
        obtain ⟨t236, A130, H⟩ := H
        replace H : (if (t236.length : Int) = (t230.length : Int) then (if 0 < (t236.length : Int) then (provisolaw05_FlowAhead.j1 kj2 t222 t230 t236 ((rd t236 0) != 0)) else (none)) else (provisolaw05_FlowAhead.j1 kj2 t222 t230 t236 true)) = some r := H
        have A13 := Aside0.mk A130
        clear A130
        have HC14 := Aside0.mk H
        clear H
        obtain ⟨Ao15, co15, eo15⟩ := Kd.R_slice HO_3.out
        subst eo15
        go_upto_region 6 with (first | (go_at_call 15; (with_reducible refine (provisoref05_Blocks.calls kj2 _ _ t222 t233 _ ?side1 ?side2 A12.out).mono ?_); (case side1 => repeat (first | exact (Kd.R_reads' HO_3.out).2.2 | (with_reducible refine Kd.C_alloc ?_ _) | (with_reducible refine Kd.C_drewN ?_ _) | (with_reducible refine Kd.C_drew ?_))); (case side2 => exact (Kd.R_reads' HO_3.out).2.1); rintro e w17 ⟨v234, rfl, ho0, hb⟩; have n0_ := Aside0.mk (Kd.R_below (by (with_reducible repeat (first | apply Kd.R_alloc | apply Kd.R_drewN | apply Kd.R_drew)); exact HO_3.out) hb); have n1_ := Aside0.mk (Kd.S_elder' (by (with_reducible repeat (first | apply Kd.S_alloc | apply Kd.S_drewN | apply Kd.S_drew)); exact HO232.out) (Kd.S_base ho0) hb); have n2_ := Aside0.mk (Kd.S_lower (Kd.S_new' ho0 (Kd.S_lt (by (with_reducible repeat (first | apply Kd.S_alloc | apply Kd.S_drewN | apply Kd.S_drew)); exact HO232.out))) (below_size (by repeat (first | (with_reducible first | exact HB.out | apply below_alloc | apply pw_below_drewN | apply below_drew1) | exact HB.out)))); have n3_ := Aside0.mk (below_step (by repeat (first | (with_reducible first | exact HB.out | apply below_alloc | apply pw_below_drewN | apply below_drew1) | exact HB.out)) hb); clear HO_3; clear HO232; clear HB; have HO_3 := n0_; have HO232 := n1_; have HO235 := n2_; have HB := n3_; clear n0_ n1_ n2_ n3_; (try clear hb); (try clear hb2); (try clear hk); (try clear hi); (try clear ho0); obtain ⟨Ao18, co18, eo18⟩ := Kd.S_slice HO235.out; subst eo18) | (go_at_call 15; (with_reducible refine (provisoref05_Blocks.calls kj2 _ _ t222 t230 _ ?side1 ?side2 A11.out).mono ?_); (case side1 => repeat (first | exact (Kd.R_reads' HO_3.out).2.2 | (with_reducible refine Kd.C_alloc ?_ _) | (with_reducible refine Kd.C_drewN ?_ _) | (with_reducible refine Kd.C_drew ?_))); (case side2 => exact (Kd.R_reads' HO_3.out).2.1); rintro e w16 ⟨v231, rfl, ho0, hb⟩; have n0_ := Aside0.mk (Kd.R_below (by (with_reducible repeat (first | apply Kd.R_alloc | apply Kd.R_drewN | apply Kd.R_drew)); exact HO_3.out) hb); have n1_ := Aside0.mk (Kd.S_lower ho0 (below_size (by repeat (first | (with_reducible first | exact HB.out | apply below_alloc | apply pw_below_drewN | apply below_drew1) | exact HB.out)))); have n2_ := Aside0.mk (below_step (by repeat (first | (with_reducible first | exact HB.out | apply below_alloc | apply pw_below_drewN | apply below_drew1) | exact HB.out)) hb); clear HO_3; clear HB; have HO_3 := n0_; have HO232 := n1_; have HB := n2_; clear n0_ n1_ n2_; (try clear hb); (try clear hb2); (try clear hk); (try clear hi); (try clear ho0)) | (go_at_call 14; (with_reducible refine (flow_Order.calls kj2 _ _ t233 t236 _ ?side1 ?side2 A13.out).mono ?_); (case side1 => repeat (first | exact (Kd.S_reads' HO235.out).2.2 | (with_reducible refine Kd.C_alloc ?_ _) | (with_reducible refine Kd.C_drewN ?_ _) | (with_reducible refine Kd.C_drew ?_))); (case side2 => exact (Kd.S_reads' HO235.out).2.1); rintro e w19 ⟨v237, rfl, ho0, hb⟩; have n0_ := Aside0.mk (Kd.R_below (by (with_reducible repeat (first | apply Kd.R_alloc | apply Kd.R_drewN | apply Kd.R_drew)); exact HO_3.out) hb); have n1_ := Aside0.mk (Kd.S_elder' (by (with_reducible repeat (first | apply Kd.S_alloc | apply Kd.S_drewN | apply Kd.S_drew)); exact HO232.out) (Kd.R_base ho0) hb); have n2_ := Aside0.mk (Kd.S_elder' (by (with_reducible repeat (first | apply Kd.S_alloc | apply Kd.S_drewN | apply Kd.S_drew)); exact HO235.out) (Kd.R_base ho0) hb); have n3_ := Aside0.mk (Kd.R_lower ho0 (below_size (by repeat (first | (with_reducible first | exact HB.out | apply below_alloc | apply pw_below_drewN | apply below_drew1) | exact HB.out)))); have n4_ := Aside0.mk (below_step (by repeat (first | (with_reducible first | exact HB.out | apply below_alloc | apply pw_below_drewN | apply below_drew1) | exact HB.out)) hb); clear HO_3; clear HO232; clear HO235; clear HB; have HO_3 := n0_; have HO232 := n1_; have HO235 := n2_; have HO238 := n3_; have HB := n4_; clear n0_ n1_ n2_ n3_ n4_; (try clear hb); (try clear hb2); (try clear hk); (try clear hi); (try clear ho0)))
        repeat (go_quiet (first | (go_at_call 15; (with_reducible refine (provisoref05_Blocks.calls kj2 _ _ t222 t230 _ ?side1 ?side2 A11.out).mono ?_); (case side1 => repeat (first | exact (Kd.R_reads' HO_3.out).2.2 | (with_reducible refine Kd.C_alloc ?_ _) | (with_reducible refine Kd.C_drewN ?_ _) | (with_reducible refine Kd.C_drew ?_))); (case side2 => exact (Kd.R_reads' HO_3.out).2.1); rintro e w16 ⟨v231, rfl, ho0, hb⟩; have n0_ := Aside0.mk (Kd.R_below (by (with_reducible repeat (first | apply Kd.R_alloc | apply Kd.R_drewN | apply Kd.R_drew)); exact HO_3.out) hb); have n1_ := Aside0.mk (Kd.S_lower ho0 (below_size (by repeat (first | (with_reducible first | exact HB.out | apply below_alloc | apply pw_below_drewN | apply below_drew1) | exact HB.out)))); have n2_ := Aside0.mk (below_step (by repeat (first | (with_reducible first | exact HB.out | apply below_alloc | apply pw_below_drewN | apply below_drew1) | exact HB.out)) hb); clear HO_3; clear HB; have HO_3 := n0_; have HO232 := n1_; have HB := n2_; clear n0_ n1_ n2_; (try clear hb); (try clear hb2); (try clear hk); (try clear hi); (try clear ho0)) | (go_at_call 15; (with_reducible refine (provisoref05_Blocks.calls kj2 _ _ t222 t233 _ ?side1 ?side2 A12.out).mono ?_); (case side1 => repeat (first | exact (Kd.R_reads' HO_3.out).2.2 | (with_reducible refine Kd.C_alloc ?_ _) | (with_reducible refine Kd.C_drewN ?_ _) | (with_reducible refine Kd.C_drew ?_))); (case side2 => exact (Kd.R_reads' HO_3.out).2.1); rintro e w17 ⟨v234, rfl, ho0, hb⟩; have n0_ := Aside0.mk (Kd.R_below (by (with_reducible repeat (first | apply Kd.R_alloc | apply Kd.R_drewN | apply Kd.R_drew)); exact HO_3.out) hb); have n1_ := Aside0.mk (Kd.S_elder' (by (with_reducible repeat (first | apply Kd.S_alloc | apply Kd.S_drewN | apply Kd.S_drew)); exact HO232.out) (Kd.S_base ho0) hb); have n2_ := Aside0.mk (Kd.S_lower (Kd.S_new' ho0 (Kd.S_lt (by (with_reducible repeat (first | apply Kd.S_alloc | apply Kd.S_drewN | apply Kd.S_drew)); exact HO232.out))) (below_size (by repeat (first | (with_reducible first | exact HB.out | apply below_alloc | apply pw_below_drewN | apply below_drew1) | exact HB.out)))); have n3_ := Aside0.mk (below_step (by repeat (first | (with_reducible first | exact HB.out | apply below_alloc | apply pw_below_drewN | apply below_drew1) | exact HB.out)) hb); clear HO_3; clear HO232; clear HB; have HO_3 := n0_; have HO232 := n1_; have HO235 := n2_; have HB := n3_; clear n0_ n1_ n2_ n3_; (try clear hb); (try clear hb2); (try clear hk); (try clear hi); (try clear ho0); obtain ⟨Ao18, co18, eo18⟩ := Kd.S_slice HO235.out; subst eo18) | (go_at_call 14; (with_reducible refine (flow_Order.calls kj2 _ _ t233 t236 _ ?side1 ?side2 A13.out).mono ?_); (case side1 => repeat (first | exact (Kd.S_reads' HO235.out).2.2 | (with_reducible refine Kd.C_alloc ?_ _) | (with_reducible refine Kd.C_drewN ?_ _) | (with_reducible refine Kd.C_drew ?_))); (case side2 => exact (Kd.S_reads' HO235.out).2.1); rintro e w19 ⟨v237, rfl, ho0, hb⟩; have n0_ := Aside0.mk (Kd.R_below (by (with_reducible repeat (first | apply Kd.R_alloc | apply Kd.R_drewN | apply Kd.R_drew)); exact HO_3.out) hb); have n1_ := Aside0.mk (Kd.S_elder' (by (with_reducible repeat (first | apply Kd.S_alloc | apply Kd.S_drewN | apply Kd.S_drew)); exact HO232.out) (Kd.R_base ho0) hb); have n2_ := Aside0.mk (Kd.S_elder' (by (with_reducible repeat (first | apply Kd.S_alloc | apply Kd.S_drewN | apply Kd.S_drew)); exact HO235.out) (Kd.R_base ho0) hb); have n3_ := Aside0.mk (Kd.R_lower ho0 (below_size (by repeat (first | (with_reducible first | exact HB.out | apply below_alloc | apply pw_below_drewN | apply below_drew1) | exact HB.out)))); have n4_ := Aside0.mk (below_step (by repeat (first | (with_reducible first | exact HB.out | apply below_alloc | apply pw_below_drewN | apply below_drew1) | exact HB.out)) hb); clear HO_3; clear HO232; clear HO235; clear HB; have HO_3 := n0_; have HO232 := n1_; have HO235 := n2_; have HO238 := n3_; have HB := n4_; clear n0_ n1_ n2_ n3_ n4_; (try clear hb); (try clear hb2); (try clear hk); (try clear hi); (try clear ho0))); go_upto_region 6 with (first | (go_at_call 15; (with_reducible refine (provisoref05_Blocks.calls kj2 _ _ t222 t230 _ ?side1 ?side2 A11.out).mono ?_); (case side1 => repeat (first | exact (Kd.R_reads' HO_3.out).2.2 | (with_reducible refine Kd.C_alloc ?_ _) | (with_reducible refine Kd.C_drewN ?_ _) | (with_reducible refine Kd.C_drew ?_))); (case side2 => exact (Kd.R_reads' HO_3.out).2.1); rintro e w16 ⟨v231, rfl, ho0, hb⟩; have n0_ := Aside0.mk (Kd.R_below (by (with_reducible repeat (first | apply Kd.R_alloc | apply Kd.R_drewN | apply Kd.R_drew)); exact HO_3.out) hb); have n1_ := Aside0.mk (Kd.S_lower ho0 (below_size (by repeat (first | (with_reducible first | exact HB.out | apply below_alloc | apply pw_below_drewN | apply below_drew1) | exact HB.out)))); have n2_ := Aside0.mk (below_step (by repeat (first | (with_reducible first | exact HB.out | apply below_alloc | apply pw_below_drewN | apply below_drew1) | exact HB.out)) hb); clear HO_3; clear HB; have HO_3 := n0_; have HO232 := n1_; have HB := n2_; clear n0_ n1_ n2_; (try clear hb); (try clear hb2); (try clear hk); (try clear hi); (try clear ho0)) | (go_at_call 15; (with_reducible refine (provisoref05_Blocks.calls kj2 _ _ t222 t233 _ ?side1 ?side2 A12.out).mono ?_); (case side1 => repeat (first | exact (Kd.R_reads' HO_3.out).2.2 | (with_reducible refine Kd.C_alloc ?_ _) | (with_reducible refine Kd.C_drewN ?_ _) | (with_reducible refine Kd.C_drew ?_))); (case side2 => exact (Kd.R_reads' HO_3.out).2.1); rintro e w17 ⟨v234, rfl, ho0, hb⟩; have n0_ := Aside0.mk (Kd.R_below (by (with_reducible repeat (first | apply Kd.R_alloc | apply Kd.R_drewN | apply Kd.R_drew)); exact HO_3.out) hb); have n1_ := Aside0.mk (Kd.S_elder' (by (with_reducible repeat (first | apply Kd.S_alloc | apply Kd.S_drewN | apply Kd.S_drew)); exact HO232.out) (Kd.S_base ho0) hb); have n2_ := Aside0.mk (Kd.S_lower (Kd.S_new' ho0 (Kd.S_lt (by (with_reducible repeat (first | apply Kd.S_alloc | apply Kd.S_drewN | apply Kd.S_drew)); exact HO232.out))) (below_size (by repeat (first | (with_reducible first | exact HB.out | apply below_alloc | apply pw_below_drewN | apply below_drew1) | exact HB.out)))); have n3_ := Aside0.mk (below_step (by repeat (first | (with_reducible first | exact HB.out | apply below_alloc | apply pw_below_drewN | apply below_drew1) | exact HB.out)) hb); clear HO_3; clear HO232; clear HB; have HO_3 := n0_; have HO232 := n1_; have HO235 := n2_; have HB := n3_; clear n0_ n1_ n2_ n3_; (try clear hb); (try clear hb2); (try clear hk); (try clear hi); (try clear ho0); obtain ⟨Ao18, co18, eo18⟩ := Kd.S_slice HO235.out; subst eo18) | (go_at_call 14; (with_reducible refine (flow_Order.calls kj2 _ _ t233 t236 _ ?side1 ?side2 A13.out).mono ?_); (case side1 => repeat (first | exact (Kd.S_reads' HO235.out).2.2 | (with_reducible refine Kd.C_alloc ?_ _) | (with_reducible refine Kd.C_drewN ?_ _) | (with_reducible refine Kd.C_drew ?_))); (case side2 => exact (Kd.S_reads' HO235.out).2.1); rintro e w19 ⟨v237, rfl, ho0, hb⟩; have n0_ := Aside0.mk (Kd.R_below (by (with_reducible repeat (first | apply Kd.R_alloc | apply Kd.R_drewN | apply Kd.R_drew)); exact HO_3.out) hb); have n1_ := Aside0.mk (Kd.S_elder' (by (with_reducible repeat (first | apply Kd.S_alloc | apply Kd.S_drewN | apply Kd.S_drew)); exact HO232.out) (Kd.R_base ho0) hb); have n2_ := Aside0.mk (Kd.S_elder' (by (with_reducible repeat (first | apply Kd.S_alloc | apply Kd.S_drewN | apply Kd.S_drew)); exact HO235.out) (Kd.R_base ho0) hb); have n3_ := Aside0.mk (Kd.R_lower ho0 (below_size (by repeat (first | (with_reducible first | exact HB.out | apply below_alloc | apply pw_below_drewN | apply below_drew1) | exact HB.out)))); have n4_ := Aside0.mk (below_step (by repeat (first | (with_reducible first | exact HB.out | apply below_alloc | apply pw_below_drewN | apply below_drew1) | exact HB.out)) hb); clear HO_3; clear HO232; clear HO235; clear HB; have HO_3 := n0_; have HO232 := n1_; have HO235 := n2_; have HO238 := n3_; have HB := n4_; clear n0_ n1_ n2_ n3_ n4_; (try clear hb); (try clear hb2); (try clear hk); (try clear hi); (try clear ho0))))
        (try simp only [Act.put, List.setIfInBounds_toArray, List.set_cons_zero, List.set_cons_succ])
        go_cut [47] (fun v47 wc => ∃ (kq : Nat) (x47_13 : Bool), v47 = .bool x47_13 ∧ Aside0 (provisolaw05_FlowAhead.j1 kq t222 t230 t236 x47_13 = some r) ∧ Aside0 (kq ≤ kj2) ∧ Aside0 (Kd.R k46 46 wc w.heap.size (fun _ => True) (.slice Ao15 t222.length co15) t222) ∧ Aside0 (Kd.S k35 35 wc w.heap.size (fun k_ => some k_ ≠ (v237 : Value).ownBlock) v231 t230) ∧ Aside0 (Kd.R (Kd.int .i64) 3 wc w.heap.size (fun _ => True) v237 t236) ∧ Aside0 (Below w.heap.size w wc))
        case first =>
          have H := HC14.out
          clear HC14
          by_cases c20 : (t236.length : Int) = (t230.length : Int)
          · rw [if_pos c20] at H
            have c20b0 : ((t236.length : Int) == (t230.length : Int)) = true := beq_iff_eq.mpr c20
            have c20b1 : ((t236.length : Int) != (t230.length : Int)) = false := bne_eq_false_iff_eq.mpr c20
            have c20b2 : (t236.length == t230.length) = true := by first | simpa using c20 | (simp at c20 ⊢; omega)
            clear c20
            (first | rw [c20b0] | (simp only [i64_w, i32_w]; rw [c20b0]) | skip)
            by_cases c21 : 0 < (t236.length : Int)
            · rw [if_pos c21] at H
              have c21b0 : decide (0 < (t236.length : Int)) = true := decide_eq_true c21
              have c21b1 : decide (0 < t236.length) = true := decide_eq_true (by omega)
              clear c21
              have H' := Aside0.mk H
              clear H
              obtain ⟨Ao22, co22, eo22⟩ := Kd.R_slice HO238.out
              subst eo22
              obtain ⟨Ao23, co23, eo23⟩ := Kd.S_slice HO232.out
              subst eo23
              have p239 : 0 ≤ (0 : Int) := (by omega)
              have q239 : 0 < (t236.length : Int) := of_decide_eq_true (by first | (with_reducible assumption) | assumption)
              obtain ⟨ad239, e239, hx239_0⟩ := Kd.at_int (Kd.R_reads' HO238.out).2.2 0 p239 q239
              cases e239
              have qi239 : (0 < t236.length) = True := eq_true (by omega)
              (try rw [show ((0 : Int)).toNat = 0 from rfl] at hx239_0)
              (try rw [Addr.add_zero'] at hx239_0)
              replace p239 := eq_true p239
              replace q239 := eq_true q239
              go_wp2
              repeat (go_quiet (fail); try go_wp2)
              go_meet
              case rel => exact ⟨_, (((rd t236 0) != 0)), (by first | rfl | (simp; done) | (simp [*]; done)), H', ⟨by have := HJ2.out; first | omega | exact Nat.le_refl _⟩, ⟨by (with_reducible repeat (first | apply Kd.R_alloc | apply Kd.R_drewN | apply Kd.R_drew)); exact HO_3.out⟩, ⟨by (with_reducible repeat (first | apply Kd.S_alloc | apply Kd.S_drewN | apply Kd.S_drew)); exact Kd.S_mono HO232.out (fun _ hk => hk.2)⟩, ⟨by (with_reducible repeat (first | apply Kd.R_alloc | apply Kd.R_drewN | apply Kd.R_drew)); exact HO238.out⟩, ⟨by repeat (first | (with_reducible first | exact HB.out | apply below_alloc | apply pw_below_drewN | apply below_drew1) | exact HB.out)⟩⟩
            · rw [if_neg c21] at H
              exact absurd H (by simp)
          · rw [if_neg c20] at H
            have c20b0 : ((t236.length : Int) == (t230.length : Int)) = false := beq_eq_false_iff_ne.mpr c20
            have c20b1 : ((t236.length : Int) != (t230.length : Int)) = true := bne_iff_ne.mpr c20
            have c20b2 : (t236.length == t230.length) = false := by first | simpa using c20 | (simp at c20 ⊢; omega)
            (first | rw [c20b0] | (simp only [i64_w, i32_w]; rw [c20b0]) | skip)
            have H' := Aside0.mk H
            clear H
            obtain ⟨Ao24, co24, eo24⟩ := Kd.R_slice HO238.out
            subst eo24
            obtain ⟨Ao25, co25, eo25⟩ := Kd.S_slice HO232.out
            subst eo25
            go_wp2
            repeat (go_quiet (fail); try go_wp2)
            go_meet
            case rel => exact ⟨_, (true), (by first | rfl | (simp; done) | (simp [*]; done)), H', ⟨by have := HJ2.out; first | omega | exact Nat.le_refl _⟩, ⟨by (with_reducible repeat (first | apply Kd.R_alloc | apply Kd.R_drewN | apply Kd.R_drew)); exact HO_3.out⟩, ⟨by (with_reducible repeat (first | apply Kd.S_alloc | apply Kd.S_drewN | apply Kd.S_drew)); exact Kd.S_mono HO232.out (fun _ hk => hk.2)⟩, ⟨by (with_reducible repeat (first | apply Kd.R_alloc | apply Kd.R_drewN | apply Kd.R_drew)); exact HO238.out⟩, ⟨by repeat (first | (with_reducible first | exact HB.out | apply below_alloc | apply pw_below_drewN | apply below_drew1) | exact HB.out)⟩⟩
        case rest =>
          clear HC14
          try clear c2
          try clear p2
          try clear q2
          try clear hx2
          try clear qi2
          try clear c3
          try clear c5
          try clear c5b0
          try clear c5b1
          try clear c7
          try clear c20
          try clear c20b0
          try clear c20b1
          try clear c20b2
          try clear c21
          try clear c21b0
          try clear c21b1
          try clear p23
          try clear q23
          try clear hx23
          try clear qi23
          try clear hx239_0
          try clear p2
          try clear p239
          try clear q239
          obtain ⟨kq, x47_13, rfl, HA, HJ13, HO_3, HO_6, HO_7, HB⟩ := hcut
          cases kq with
          | zero => exact absurd HA.out (by simp [provisolaw05_FlowAhead.j1])
          | succ kj13 =>
            have H := HA.out
            clear HA
            simp only [provisolaw05_FlowAhead.j1] at H
            by_cases c26 : x47_13 = true
            · subst c26
              have H1 : (some false) = some r := by rw [if_pos rfl] at H; exact H
              clear H
              have H := H1
              clear H1
              obtain rfl := Option.some.inj H
              go_wp2
              repeat (go_quiet (fail); try go_wp2)
              go_ret
              exact ⟨by first | rfl | (simp [errW_none, errW_some] <;> rfl) | (simp [*, errW_none, errW_some] <;> rfl), by repeat (first | (with_reducible first | exact HB.out | apply below_alloc | apply pw_below_drewN | apply below_drew1) | exact HB.out)⟩
            · replace c26 := Bool.eq_false_iff.mpr c26
              subst c26
              have H1 : (if 0 ≤ (t230.length : Int) then (if ((t230.length : Int) : Int).toNat ≤ 35184372088832 then ((some (List.replicate ((t230.length : Int) : Int).toNat 0 : List Int)).bind fun y240 => (provisolaw05_FlowAhead.l0 kj13 t222 t230 t236 y240 (y240.length : Int) 0)) else (none)) else (none)) = some r := by rw [if_neg (show ¬ (false = true) by decide)] at H; exact H
              clear H
              have H := H1
              clear H1
              by_cases c27 : 0 ≤ (t230.length : Int)
              · rw [if_pos c27] at H
                have c27b0 := eq_true c27
                have c27b1 : decide (0 ≤ (t230.length : Int)) = true := decide_eq_true c27
                clear c27
                by_cases c28 : ((t230.length : Int) : Int).toNat ≤ 35184372088832
                · rw [if_pos c28] at H
                  have c28b0 := eq_true c28
                  have c28b1 : decide (((t230.length : Int) : Int).toNat ≤ 35184372088832) = true := decide_eq_true c28
                  clear c28
                  obtain ⟨y240, hy240⟩ : ∃ y_ : List Int, y_ = (List.replicate ((t230.length : Int) : Int).toNat 0) := ⟨_, rfl⟩
                  replace H : (provisolaw05_FlowAhead.l0 kj13 t222 t230 t236 y240 (y240.length : Int) 0) = some r := by first | (rw [hy240]; with_reducible exact H) | (have H2_ := (Option.bind_some _ _).symm.trans H; rw [hy240]; with_reducible exact H2_) | (have H2_ := (Option.bind_some _ _).symm.trans H; with_reducible exact H2_) | with_reducible exact H | (rw [hy240]; exact H) | exact H
                  have Ny240 := Aside0.mk hy240
                  clear hy240
                  have H' := Aside0.mk H
                  clear H
                  obtain ⟨Ao29, co29, eo29⟩ := Kd.S_slice HO_6.out
                  subst eo29
                  go_wp2_with (first | ((with_reducible refine gate_dst (N := 50) rfl ?_); (try (refine gate_guard (by rfl) ?_; dsimp only)); refine Kd.R_make (Kd.int .i64) _ 3 rfl (N := 50) rfl 27 _ _ rfl (t230.length : Int) rfl rfl Try.underlying27 (.int .i64 0) 8 info3 rfl (by decide) (by omega) 0 (ok := fun _ => True) (okp := fun _ => True) rfl (fun _ hk => hk) trivial (of_decide_eq_true (by first | (with_reducible assumption) | assumption)) (Nat.le_trans (Nat.mul_le_mul_right _ (of_decide_eq_true (by first | (with_reducible assumption) | assumption) : (t230.length : Int).toNat ≤ 35184372088832)) (by omega)) (Below.refl _ _) (Nat.le_refl _) ?_; intro v241 w30 ho31 hb hg_ hnew_; clear hg_ hnew_; (first | rw [← Ny240.out] at ho31 | (simp only [Int.reduceToNat] at ho31; rw [← Ny240.out] at ho31)); have n0_ := Aside0.mk (Kd.R_below (by (with_reducible repeat (first | apply Kd.R_alloc | apply Kd.R_drewN | apply Kd.R_drew)); exact HO_3.out) hb); have n1_ := Aside0.mk (Kd.S_elder' (by (with_reducible repeat (first | apply Kd.S_alloc | apply Kd.S_drewN | apply Kd.S_drew)); exact HO_6.out) (Kd.R_base ho31) hb); have n2_ := Aside0.mk (Kd.R_elder' (by (with_reducible repeat (first | apply Kd.R_alloc | apply Kd.R_drewN | apply Kd.R_drew)); exact HO_7.out) (Kd.R_base ho31) hb); have n3_ := Aside0.mk (Kd.R_lower (Kd.R_new' ho31 (Kd.R_lt (by (with_reducible repeat (first | apply Kd.R_alloc | apply Kd.R_drewN | apply Kd.R_drew)); exact HO_7.out))) (below_size (by repeat (first | (with_reducible first | exact HB.out | apply below_alloc | apply pw_below_drewN | apply below_drew1) | exact HB.out)))); have n4_ := Aside0.mk (below_step (by repeat (first | (with_reducible first | exact HB.out | apply below_alloc | apply pw_below_drewN | apply below_drew1) | exact HB.out)) hb); clear HO_3; clear HO_6; clear HO_7; clear HB; have HO_3 := n0_; have HO_6 := n1_; have HO_7 := n2_; have HO242 := n3_; have HB := n4_; clear n0_ n1_ n2_ n3_ n4_; clear hb ho31; obtain ⟨Ao32, co32, eo32⟩ := Kd.R_slice HO242.out; subst eo32))
                  repeat (go_quiet (first | ((with_reducible refine gate_dst (N := 50) rfl ?_); (try (refine gate_guard (by rfl) ?_; dsimp only)); refine Kd.R_make (Kd.int .i64) _ 3 rfl (N := 50) rfl 27 _ _ rfl (t230.length : Int) rfl rfl Try.underlying27 (.int .i64 0) 8 info3 rfl (by decide) (by omega) 0 (ok := fun _ => True) (okp := fun _ => True) rfl (fun _ hk => hk) trivial (of_decide_eq_true (by first | (with_reducible assumption) | assumption)) (Nat.le_trans (Nat.mul_le_mul_right _ (of_decide_eq_true (by first | (with_reducible assumption) | assumption) : (t230.length : Int).toNat ≤ 35184372088832)) (by omega)) (Below.refl _ _) (Nat.le_refl _) ?_; intro v241 w30 ho31 hb hg_ hnew_; clear hg_ hnew_; (first | rw [← Ny240.out] at ho31 | (simp only [Int.reduceToNat] at ho31; rw [← Ny240.out] at ho31)); have n0_ := Aside0.mk (Kd.R_below (by (with_reducible repeat (first | apply Kd.R_alloc | apply Kd.R_drewN | apply Kd.R_drew)); exact HO_3.out) hb); have n1_ := Aside0.mk (Kd.S_elder' (by (with_reducible repeat (first | apply Kd.S_alloc | apply Kd.S_drewN | apply Kd.S_drew)); exact HO_6.out) (Kd.R_base ho31) hb); have n2_ := Aside0.mk (Kd.R_elder' (by (with_reducible repeat (first | apply Kd.R_alloc | apply Kd.R_drewN | apply Kd.R_drew)); exact HO_7.out) (Kd.R_base ho31) hb); have n3_ := Aside0.mk (Kd.R_lower (Kd.R_new' ho31 (Kd.R_lt (by (with_reducible repeat (first | apply Kd.R_alloc | apply Kd.R_drewN | apply Kd.R_drew)); exact HO_7.out))) (below_size (by repeat (first | (with_reducible first | exact HB.out | apply below_alloc | apply pw_below_drewN | apply below_drew1) | exact HB.out)))); have n4_ := Aside0.mk (below_step (by repeat (first | (with_reducible first | exact HB.out | apply below_alloc | apply pw_below_drewN | apply below_drew1) | exact HB.out)) hb); clear HO_3; clear HO_6; clear HO_7; clear HB; have HO_3 := n0_; have HO_6 := n1_; have HO_7 := n2_; have HO242 := n3_; have HB := n4_; clear n0_ n1_ n2_ n3_ n4_; clear hb ho31; obtain ⟨Ao32, co32, eo32⟩ := Kd.R_slice HO242.out; subst eo32)); try go_wp2_with (first | ((with_reducible refine gate_dst (N := 50) rfl ?_); (try (refine gate_guard (by rfl) ?_; dsimp only)); refine Kd.R_make (Kd.int .i64) _ 3 rfl (N := 50) rfl 27 _ _ rfl (t230.length : Int) rfl rfl Try.underlying27 (.int .i64 0) 8 info3 rfl (by decide) (by omega) 0 (ok := fun _ => True) (okp := fun _ => True) rfl (fun _ hk => hk) trivial (of_decide_eq_true (by first | (with_reducible assumption) | assumption)) (Nat.le_trans (Nat.mul_le_mul_right _ (of_decide_eq_true (by first | (with_reducible assumption) | assumption) : (t230.length : Int).toNat ≤ 35184372088832)) (by omega)) (Below.refl _ _) (Nat.le_refl _) ?_; intro v241 w30 ho31 hb hg_ hnew_; clear hg_ hnew_; (first | rw [← Ny240.out] at ho31 | (simp only [Int.reduceToNat] at ho31; rw [← Ny240.out] at ho31)); have n0_ := Aside0.mk (Kd.R_below (by (with_reducible repeat (first | apply Kd.R_alloc | apply Kd.R_drewN | apply Kd.R_drew)); exact HO_3.out) hb); have n1_ := Aside0.mk (Kd.S_elder' (by (with_reducible repeat (first | apply Kd.S_alloc | apply Kd.S_drewN | apply Kd.S_drew)); exact HO_6.out) (Kd.R_base ho31) hb); have n2_ := Aside0.mk (Kd.R_elder' (by (with_reducible repeat (first | apply Kd.R_alloc | apply Kd.R_drewN | apply Kd.R_drew)); exact HO_7.out) (Kd.R_base ho31) hb); have n3_ := Aside0.mk (Kd.R_lower (Kd.R_new' ho31 (Kd.R_lt (by (with_reducible repeat (first | apply Kd.R_alloc | apply Kd.R_drewN | apply Kd.R_drew)); exact HO_7.out))) (below_size (by repeat (first | (with_reducible first | exact HB.out | apply below_alloc | apply pw_below_drewN | apply below_drew1) | exact HB.out)))); have n4_ := Aside0.mk (below_step (by repeat (first | (with_reducible first | exact HB.out | apply below_alloc | apply pw_below_drewN | apply below_drew1) | exact HB.out)) hb); clear HO_3; clear HO_6; clear HO_7; clear HB; have HO_3 := n0_; have HO_6 := n1_; have HO_7 := n2_; have HO242 := n3_; have HB := n4_; clear n0_ n1_ n2_ n3_ n4_; clear hb ho31; obtain ⟨Ao32, co32, eo32⟩ := Kd.R_slice HO242.out; subst eo32)))
                  go_loopg [53] kj13 (fun kq v53 w' => ∃ (x8_3 : List Int) (x53_3 : Int), v53 = .int .i64 x53_3 ∧ Aside0 (provisolaw05_FlowAhead.l0 kq t222 t230 t236 x8_3 (y240.length : Int) x53_3 = some r) ∧ Aside0 (kq ≤ kj13) ∧ Aside0 (Kd.R k46 46 w' w.heap.size (fun _ => True) (.slice Ao15 t222.length co15) t222) ∧ Aside0 (Kd.S k35 35 w' w.heap.size (fun k_ => some k_ ≠ (v237 : Value).ownBlock ∧ some k_ ≠ ((.slice Ao32 y240.length co32) : Value).ownBlock) (.slice Ao29 t230.length co29) t230) ∧ Aside0 (Kd.R (Kd.int .i64) 3 w' w.heap.size (fun k_ => some k_ ≠ ((.slice Ao32 y240.length co32) : Value).ownBlock) v237 t236) ∧ Aside0 (Kd.R (Kd.int .i64) 3 w' w.heap.size (fun k_ => some k_ ≠ (v237 : Value).ownBlock) (.slice Ao32 y240.length co32) x8_3) ∧ Aside0 (Below w.heap.size w w'))
                  case atStart => exact ⟨(y240), (0), (by first | rfl | (simp; done) | (simp [*]; done)), H', ⟨Nat.le_refl _⟩, ⟨by (with_reducible repeat (first | apply Kd.R_alloc | apply Kd.R_drewN | apply Kd.R_drew)); exact HO_3.out⟩, ⟨by (with_reducible repeat (first | apply Kd.S_alloc | apply Kd.S_drewN | apply Kd.S_drew)); exact HO_6.out⟩, ⟨by (with_reducible repeat (first | apply Kd.R_alloc | apply Kd.R_drewN | apply Kd.R_drew)); exact Kd.R_mono HO_7.out (fun _ hk => hk.2)⟩, ⟨by (with_reducible repeat (first | apply Kd.R_alloc | apply Kd.R_drewN | apply Kd.R_drew)); exact Kd.R_mono HO242.out (fun _ hk => hk.2)⟩, ⟨by repeat (first | (with_reducible first | exact HB.out | apply below_alloc | apply pw_below_drewN | apply below_drew1) | exact HB.out)⟩⟩
                  case round =>
                    clear H'
                    try clear c2
                    try clear p2
                    try clear q2
                    try clear hx2
                    try clear qi2
                    try clear c3
                    try clear c5
                    try clear c5b0
                    try clear c5b1
                    try clear c7
                    try clear c20
                    try clear c20b0
                    try clear c20b1
                    try clear c20b2
                    try clear c21
                    try clear c21b0
                    try clear c21b1
                    try clear p23
                    try clear q23
                    try clear hx23
                    try clear qi23
                    try clear c26
                    try clear c27
                    try clear c27b0
                    try clear c27b1
                    try clear c28
                    try clear c28b0
                    try clear c28b1
                    try clear hx239_0
                    try clear p2
                    try clear p23
                    try clear p239
                    try clear q2
                    try clear q23
                    try clear q239
                    obtain ⟨x8_3, x53_3, rfl, HA, HK3, HO_3, HO_6, HO_7, HO_8, HB⟩ := hrel
                    have hl8_3 := (Kd.R_reads' HO_8.out).1
                    rw [hl8_3] at HO_8
                    (try simp only [hl8_3])
                    (try simp only [hl8_3] at HO_3)
                    (try simp only [hl8_3] at HO_6)
                    (try simp only [hl8_3] at HO_7)
                    cases gk with
                    | zero => exact absurd HA.out (by simp [provisolaw05_FlowAhead.l0])
                    | succ k3 =>
                      have H := HA.out
                      clear HA
                      simp only [provisolaw05_FlowAhead.l0] at H
                      by_cases c33 : x53_3 < (y240.length : Int)
                      · rw [if_pos c33] at H
                        have c33b0 : decide (x53_3 < (y240.length : Int)) = true := decide_eq_true c33
                        (try rw [hl8_3] at c33b0)
                        clear c33
                        replace H := Option.bind_eq_some_iff.mp H
                        obtain ⟨t243, A340, H⟩ := H
                        replace H : (if 0 ≤ x53_3 then (if x53_3 < (x8_3.length : Int) then ((some (x8_3.set (x53_3 : Int).toNat t243 : List Int)).bind fun y244 => (if (rd y244 x53_3) < 0 then (some false) else (provisolaw05_FlowAhead.l0 k3 t222 t230 t236 y244 (y240.length : Int) (wrap64 (x53_3 + 1))))) else (none)) else (none)) = some r := H
                        have A34 := Aside0.mk A340
                        clear A340
                        by_cases c35 : 0 ≤ x53_3
                        · rw [if_pos c35] at H
                          have c35b0 : decide (0 ≤ x53_3) = true := decide_eq_true c35
                          (try rw [hl8_3] at c35b0)
                          clear c35
                          by_cases c36 : x53_3 < (x8_3.length : Int)
                          · rw [if_pos c36] at H
                            have c36b0 : decide (x53_3 < (x8_3.length : Int)) = true := decide_eq_true c36
                            (try rw [hl8_3] at c36b0)
                            clear c36
                            obtain ⟨y244, hy244⟩ : ∃ y_ : List Int, y_ = (x8_3.set (x53_3 : Int).toNat t243) := ⟨_, rfl⟩
                            replace H : (if (rd y244 x53_3) < 0 then (some false) else (provisolaw05_FlowAhead.l0 k3 t222 t230 t236 y244 (y240.length : Int) (wrap64 (x53_3 + 1)))) = some r := by first | (rw [hy244]; with_reducible exact H) | (have H2_ := (Option.bind_some _ _).symm.trans H; rw [hy244]; with_reducible exact H2_) | (have H2_ := (Option.bind_some _ _).symm.trans H; with_reducible exact H2_) | with_reducible exact H | (rw [hy244]; exact H) | exact H
                            have Ny244 := Aside0.mk hy244
                            clear hy244
                            by_cases c38 : (rd y244 x53_3) < 0
                            · rw [if_pos c38] at H
                              have c38b0 : decide ((rd y244 x53_3) < 0) = true := decide_eq_true c38
                              (try rw [hl8_3] at c38b0)
                              clear c38
                              obtain rfl := Option.some.inj H
                              obtain ⟨Ao39, co39, eo39⟩ := Kd.R_slice HO_7.out
                              subst eo39
                              go_wp2_with (first | (go_at_call 16; (with_reducible refine (slices_Index_int_int.calls k3 _ _ t236 x53_3 t243 _ ?side1 ?side2 A34.out).mono ?_); (case side1 => repeat (first | exact (Kd.R_reads' HO_7.out).2.2 | (with_reducible refine Kd.C_alloc ?_ _) | (with_reducible refine Kd.C_drewN ?_ _) | (with_reducible refine Kd.C_drew ?_))); (case side2 => exact (Kd.R_reads' HO_7.out).2.1); rintro e w' ⟨rfl, ⟨nd, rfl⟩⟩; (try first | exact ⟨rfl, _, World.drewN_drewN _ _ _⟩ | exact ⟨rfl, _, Eq.trans (World.drewN_drewN _ _ _) (congrArg (World.drewN _) (Nat.add_assoc _ _ _))⟩); have p37 : 0 ≤ (x53_3 : Int) := of_decide_eq_true (by first | (with_reducible assumption) | assumption); have q37 : (x53_3 : Int) < ((x8_3.length : Int) : Int) := of_decide_eq_true (by first | (with_reducible assumption) | assumption); obtain ⟨go37, co37, eo37, gb37, gl37, cl37, HG37⟩ := Kd.R_form HO_8.out (by omega); (first | cases eo37 | (injection eo37 with ea_ en_ ec_; (first | subst ea_ | (injection ea_ with ea_; subst ea_)); subst ec_; clear en_)); have GB37 := Aside0.mk gb37; have GG37 := Aside0.mk HG37; clear gb37 gl37 HG37; obtain ⟨hx37_0, hf37_0⟩ := Kd.R_celln 0 HO_8.out (x53_3 : Int) p37 q37; replace p37 := eq_true p37; replace q37 := eq_true q37; obtain ⟨hy40_, hz40_⟩ := Kd.R_celln 0 HO_8.out (x53_3 : Int) (of_decide_eq_true (by first | (with_reducible assumption) | assumption)) (of_decide_eq_true (by first | (with_reducible assumption) | assumption)); have HP40 := Kd.R_putg HO_8.out (x53_3 : Int) t243) | ((with_reducible refine gate_store (t := 3) (p := 61) rfl ?_); (try (rw [drewN_self wr]; generalize hq_ : World.drewN wr _ = wr; have n0_ := Aside0.mk (Kd.R_at hq_ HO_3.out); have n1_ := Aside0.mk (Kd.S_at hq_ HO_6.out); have n2_ := Aside0.mk (Kd.R_at hq_ HO_7.out); have n3_ := Aside0.mk (Kd.R_at hq_ HO_8.out); have n4_ := Aside0.mk (below_at hq_ HB.out); clear hq_ HO_3 HO_6 HO_7 HO_8 HB; have HO_3 := n0_; have HO_6 := n1_; have HO_7 := n2_; have HO_8 := n3_; have HB := n4_; clear n0_ n1_ n2_ n3_ n4_; (try (obtain ⟨hy40_, hz40_⟩ := Kd.R_celln 0 HO_8.out (x53_3 : Int) (of_decide_eq_true (by first | (with_reducible assumption) | assumption)) (of_decide_eq_true (by first | (with_reducible assumption) | assumption)))); (try (have HP40 := Kd.R_putg HO_8.out (x53_3 : Int) t243)))); refine store_event (t := 3) (p := 61) (v := ?vo_w41) (w1 := (wr.setCell ⟨go37, (x53_3 : Int).toNat, none⟩ (.int .i64 t243))) ?hg ?ho ?hn ?hr ?_; (case ho => rfl); (case hg => rfl); (case hn => rfl); (case hr => first | (go_simp; done) | (go_simp; rfl)); intro w41 hw; have hg : wr.grownBy w41 (some go37) := (by rw [hw]; exact HP40.2); have hp_ : Kd.R (Kd.int .i64) 3 w41 w.heap.size (fun k_ => some k_ ≠ (.slice Ao39 t236.length co39 : Value).ownBlock) (.slice (some ⟨go37, 0, none⟩) x8_3.length co32) y244 := (by rw [hw, Ny244.out]; exact HP40.1); clear HP40; have n0_ := Aside0.mk (Kd.R_over' (v := (.slice (some ⟨go37, 0, none⟩) x8_3.length co32)) (by (with_reducible repeat (first | apply Kd.R_alloc | apply Kd.R_drewN | apply Kd.R_drew)); exact HO_3.out) (Kd.R_typed HO_8.out) (by decide) hg); have n1_ := Aside0.mk (Kd.S_after (v := (.slice (some ⟨go37, 0, none⟩) x8_3.length co32)) (v1 := (.slice (some ⟨go37, 0, none⟩) x8_3.length co32)) (ok := (fun k_ => some k_ ≠ (.slice Ao39 t236.length co39 : Value).ownBlock)) (by (with_reducible repeat (first | apply Kd.S_alloc | apply Kd.S_drewN | apply Kd.S_drew)); exact HO_6.out) hg (.inl rfl)); have n2_ := Aside0.mk (Kd.R_after (v := (.slice (some ⟨go37, 0, none⟩) x8_3.length co32)) (v1 := (.slice (some ⟨go37, 0, none⟩) x8_3.length co32)) (ok := (fun _ => True)) (by (with_reducible repeat (first | apply Kd.R_alloc | apply Kd.R_drewN | apply Kd.R_drew)); exact Kd.R_mono HO_7.out (fun _ hk => ⟨trivial, hk⟩)) hg (.inl rfl)); have n3_ := Aside0.mk (hp_); have n4_ := Aside0.mk ((by rw [hw]; exact below_set (HB.out) GB37.out : Below w.heap.size w w41)); clear HO_3; clear HO_6; clear HO_7; clear HO_8; clear HB; have HO_3 := n0_; have HO_6 := n1_; have HO_7 := n2_; have HO_8 := n3_; have HB := n4_; clear n0_ n1_ n2_ n3_ n4_; clear hg hw hp_; have p245 : 0 ≤ (x53_3 : Int) := of_decide_eq_true (by first | (with_reducible assumption) | assumption); have q245 : x53_3 < (y244.length : Int) := (by have h_ : (x53_3 : Int) < ((x8_3.length : Int) : Int) := of_decide_eq_true (by first | (with_reducible assumption) | assumption); first | (have e_ := (Kd.R_reads' HO_8.out).1; omega) | simpa only [Ny244.out, List.length_set] using h_); have ql245 : ((x53_3 : Int) < ((x8_3.length : Int) : Int)) = True := eq_true (of_decide_eq_true (by first | (with_reducible assumption) | assumption)); obtain ⟨ad245, e245, hx245_0⟩ := Kd.at_int (Kd.R_reads' HO_8.out).2.2 x53_3 p245 q245; obtain rfl : (⟨go37, 0, none⟩ : Addr) = ad245 := (by injection e245); (first | simp only [add_plain] at hx245_0 | simp only [add_at] at hx245_0 | simp only [Addr.add, Nat.zero_add] at hx245_0 | skip); replace p245 := eq_true p245; replace q245 := eq_true q245))
                              repeat (go_quiet (first | (go_at_call 16; (with_reducible refine (slices_Index_int_int.calls k3 _ _ t236 x53_3 t243 _ ?side1 ?side2 A34.out).mono ?_); (case side1 => repeat (first | exact (Kd.R_reads' HO_7.out).2.2 | (with_reducible refine Kd.C_alloc ?_ _) | (with_reducible refine Kd.C_drewN ?_ _) | (with_reducible refine Kd.C_drew ?_))); (case side2 => exact (Kd.R_reads' HO_7.out).2.1); rintro e w' ⟨rfl, ⟨nd, rfl⟩⟩; (try first | exact ⟨rfl, _, World.drewN_drewN _ _ _⟩ | exact ⟨rfl, _, Eq.trans (World.drewN_drewN _ _ _) (congrArg (World.drewN _) (Nat.add_assoc _ _ _))⟩); have p37 : 0 ≤ (x53_3 : Int) := of_decide_eq_true (by first | (with_reducible assumption) | assumption); have q37 : (x53_3 : Int) < ((x8_3.length : Int) : Int) := of_decide_eq_true (by first | (with_reducible assumption) | assumption); obtain ⟨go37, co37, eo37, gb37, gl37, cl37, HG37⟩ := Kd.R_form HO_8.out (by omega); (first | cases eo37 | (injection eo37 with ea_ en_ ec_; (first | subst ea_ | (injection ea_ with ea_; subst ea_)); subst ec_; clear en_)); have GB37 := Aside0.mk gb37; have GG37 := Aside0.mk HG37; clear gb37 gl37 HG37; obtain ⟨hx37_0, hf37_0⟩ := Kd.R_celln 0 HO_8.out (x53_3 : Int) p37 q37; replace p37 := eq_true p37; replace q37 := eq_true q37; obtain ⟨hy40_, hz40_⟩ := Kd.R_celln 0 HO_8.out (x53_3 : Int) (of_decide_eq_true (by first | (with_reducible assumption) | assumption)) (of_decide_eq_true (by first | (with_reducible assumption) | assumption)); have HP40 := Kd.R_putg HO_8.out (x53_3 : Int) t243) | ((with_reducible refine gate_store (t := 3) (p := 61) rfl ?_); (try (rw [drewN_self wr]; generalize hq_ : World.drewN wr _ = wr; have n0_ := Aside0.mk (Kd.R_at hq_ HO_3.out); have n1_ := Aside0.mk (Kd.S_at hq_ HO_6.out); have n2_ := Aside0.mk (Kd.R_at hq_ HO_7.out); have n3_ := Aside0.mk (Kd.R_at hq_ HO_8.out); have n4_ := Aside0.mk (below_at hq_ HB.out); clear hq_ HO_3 HO_6 HO_7 HO_8 HB; have HO_3 := n0_; have HO_6 := n1_; have HO_7 := n2_; have HO_8 := n3_; have HB := n4_; clear n0_ n1_ n2_ n3_ n4_; (try (obtain ⟨hy40_, hz40_⟩ := Kd.R_celln 0 HO_8.out (x53_3 : Int) (of_decide_eq_true (by first | (with_reducible assumption) | assumption)) (of_decide_eq_true (by first | (with_reducible assumption) | assumption)))); (try (have HP40 := Kd.R_putg HO_8.out (x53_3 : Int) t243)))); refine store_event (t := 3) (p := 61) (v := ?vo_w41) (w1 := (wr.setCell ⟨go37, (x53_3 : Int).toNat, none⟩ (.int .i64 t243))) ?hg ?ho ?hn ?hr ?_; (case ho => rfl); (case hg => rfl); (case hn => rfl); (case hr => first | (go_simp; done) | (go_simp; rfl)); intro w41 hw; have hg : wr.grownBy w41 (some go37) := (by rw [hw]; exact HP40.2); have hp_ : Kd.R (Kd.int .i64) 3 w41 w.heap.size (fun k_ => some k_ ≠ (.slice Ao39 t236.length co39 : Value).ownBlock) (.slice (some ⟨go37, 0, none⟩) x8_3.length co32) y244 := (by rw [hw, Ny244.out]; exact HP40.1); clear HP40; have n0_ := Aside0.mk (Kd.R_over' (v := (.slice (some ⟨go37, 0, none⟩) x8_3.length co32)) (by (with_reducible repeat (first | apply Kd.R_alloc | apply Kd.R_drewN | apply Kd.R_drew)); exact HO_3.out) (Kd.R_typed HO_8.out) (by decide) hg); have n1_ := Aside0.mk (Kd.S_after (v := (.slice (some ⟨go37, 0, none⟩) x8_3.length co32)) (v1 := (.slice (some ⟨go37, 0, none⟩) x8_3.length co32)) (ok := (fun k_ => some k_ ≠ (.slice Ao39 t236.length co39 : Value).ownBlock)) (by (with_reducible repeat (first | apply Kd.S_alloc | apply Kd.S_drewN | apply Kd.S_drew)); exact HO_6.out) hg (.inl rfl)); have n2_ := Aside0.mk (Kd.R_after (v := (.slice (some ⟨go37, 0, none⟩) x8_3.length co32)) (v1 := (.slice (some ⟨go37, 0, none⟩) x8_3.length co32)) (ok := (fun _ => True)) (by (with_reducible repeat (first | apply Kd.R_alloc | apply Kd.R_drewN | apply Kd.R_drew)); exact Kd.R_mono HO_7.out (fun _ hk => ⟨trivial, hk⟩)) hg (.inl rfl)); have n3_ := Aside0.mk (hp_); have n4_ := Aside0.mk ((by rw [hw]; exact below_set (HB.out) GB37.out : Below w.heap.size w w41)); clear HO_3; clear HO_6; clear HO_7; clear HO_8; clear HB; have HO_3 := n0_; have HO_6 := n1_; have HO_7 := n2_; have HO_8 := n3_; have HB := n4_; clear n0_ n1_ n2_ n3_ n4_; clear hg hw hp_; have p245 : 0 ≤ (x53_3 : Int) := of_decide_eq_true (by first | (with_reducible assumption) | assumption); have q245 : x53_3 < (y244.length : Int) := (by have h_ : (x53_3 : Int) < ((x8_3.length : Int) : Int) := of_decide_eq_true (by first | (with_reducible assumption) | assumption); first | (have e_ := (Kd.R_reads' HO_8.out).1; omega) | simpa only [Ny244.out, List.length_set] using h_); have ql245 : ((x53_3 : Int) < ((x8_3.length : Int) : Int)) = True := eq_true (of_decide_eq_true (by first | (with_reducible assumption) | assumption)); obtain ⟨ad245, e245, hx245_0⟩ := Kd.at_int (Kd.R_reads' HO_8.out).2.2 x53_3 p245 q245; obtain rfl : (⟨go37, 0, none⟩ : Addr) = ad245 := (by injection e245); (first | simp only [add_plain] at hx245_0 | simp only [add_at] at hx245_0 | simp only [Addr.add, Nat.zero_add] at hx245_0 | skip); replace p245 := eq_true p245; replace q245 := eq_true q245)); try go_wp2_with (first | (go_at_call 16; (with_reducible refine (slices_Index_int_int.calls k3 _ _ t236 x53_3 t243 _ ?side1 ?side2 A34.out).mono ?_); (case side1 => repeat (first | exact (Kd.R_reads' HO_7.out).2.2 | (with_reducible refine Kd.C_alloc ?_ _) | (with_reducible refine Kd.C_drewN ?_ _) | (with_reducible refine Kd.C_drew ?_))); (case side2 => exact (Kd.R_reads' HO_7.out).2.1); rintro e w' ⟨rfl, ⟨nd, rfl⟩⟩; (try first | exact ⟨rfl, _, World.drewN_drewN _ _ _⟩ | exact ⟨rfl, _, Eq.trans (World.drewN_drewN _ _ _) (congrArg (World.drewN _) (Nat.add_assoc _ _ _))⟩); have p37 : 0 ≤ (x53_3 : Int) := of_decide_eq_true (by first | (with_reducible assumption) | assumption); have q37 : (x53_3 : Int) < ((x8_3.length : Int) : Int) := of_decide_eq_true (by first | (with_reducible assumption) | assumption); obtain ⟨go37, co37, eo37, gb37, gl37, cl37, HG37⟩ := Kd.R_form HO_8.out (by omega); (first | cases eo37 | (injection eo37 with ea_ en_ ec_; (first | subst ea_ | (injection ea_ with ea_; subst ea_)); subst ec_; clear en_)); have GB37 := Aside0.mk gb37; have GG37 := Aside0.mk HG37; clear gb37 gl37 HG37; obtain ⟨hx37_0, hf37_0⟩ := Kd.R_celln 0 HO_8.out (x53_3 : Int) p37 q37; replace p37 := eq_true p37; replace q37 := eq_true q37; obtain ⟨hy40_, hz40_⟩ := Kd.R_celln 0 HO_8.out (x53_3 : Int) (of_decide_eq_true (by first | (with_reducible assumption) | assumption)) (of_decide_eq_true (by first | (with_reducible assumption) | assumption)); have HP40 := Kd.R_putg HO_8.out (x53_3 : Int) t243) | ((with_reducible refine gate_store (t := 3) (p := 61) rfl ?_); (try (rw [drewN_self wr]; generalize hq_ : World.drewN wr _ = wr; have n0_ := Aside0.mk (Kd.R_at hq_ HO_3.out); have n1_ := Aside0.mk (Kd.S_at hq_ HO_6.out); have n2_ := Aside0.mk (Kd.R_at hq_ HO_7.out); have n3_ := Aside0.mk (Kd.R_at hq_ HO_8.out); have n4_ := Aside0.mk (below_at hq_ HB.out); clear hq_ HO_3 HO_6 HO_7 HO_8 HB; have HO_3 := n0_; have HO_6 := n1_; have HO_7 := n2_; have HO_8 := n3_; have HB := n4_; clear n0_ n1_ n2_ n3_ n4_; (try (obtain ⟨hy40_, hz40_⟩ := Kd.R_celln 0 HO_8.out (x53_3 : Int) (of_decide_eq_true (by first | (with_reducible assumption) | assumption)) (of_decide_eq_true (by first | (with_reducible assumption) | assumption)))); (try (have HP40 := Kd.R_putg HO_8.out (x53_3 : Int) t243)))); refine store_event (t := 3) (p := 61) (v := ?vo_w41) (w1 := (wr.setCell ⟨go37, (x53_3 : Int).toNat, none⟩ (.int .i64 t243))) ?hg ?ho ?hn ?hr ?_; (case ho => rfl); (case hg => rfl); (case hn => rfl); (case hr => first | (go_simp; done) | (go_simp; rfl)); intro w41 hw; have hg : wr.grownBy w41 (some go37) := (by rw [hw]; exact HP40.2); have hp_ : Kd.R (Kd.int .i64) 3 w41 w.heap.size (fun k_ => some k_ ≠ (.slice Ao39 t236.length co39 : Value).ownBlock) (.slice (some ⟨go37, 0, none⟩) x8_3.length co32) y244 := (by rw [hw, Ny244.out]; exact HP40.1); clear HP40; have n0_ := Aside0.mk (Kd.R_over' (v := (.slice (some ⟨go37, 0, none⟩) x8_3.length co32)) (by (with_reducible repeat (first | apply Kd.R_alloc | apply Kd.R_drewN | apply Kd.R_drew)); exact HO_3.out) (Kd.R_typed HO_8.out) (by decide) hg); have n1_ := Aside0.mk (Kd.S_after (v := (.slice (some ⟨go37, 0, none⟩) x8_3.length co32)) (v1 := (.slice (some ⟨go37, 0, none⟩) x8_3.length co32)) (ok := (fun k_ => some k_ ≠ (.slice Ao39 t236.length co39 : Value).ownBlock)) (by (with_reducible repeat (first | apply Kd.S_alloc | apply Kd.S_drewN | apply Kd.S_drew)); exact HO_6.out) hg (.inl rfl)); have n2_ := Aside0.mk (Kd.R_after (v := (.slice (some ⟨go37, 0, none⟩) x8_3.length co32)) (v1 := (.slice (some ⟨go37, 0, none⟩) x8_3.length co32)) (ok := (fun _ => True)) (by (with_reducible repeat (first | apply Kd.R_alloc | apply Kd.R_drewN | apply Kd.R_drew)); exact Kd.R_mono HO_7.out (fun _ hk => ⟨trivial, hk⟩)) hg (.inl rfl)); have n3_ := Aside0.mk (hp_); have n4_ := Aside0.mk ((by rw [hw]; exact below_set (HB.out) GB37.out : Below w.heap.size w w41)); clear HO_3; clear HO_6; clear HO_7; clear HO_8; clear HB; have HO_3 := n0_; have HO_6 := n1_; have HO_7 := n2_; have HO_8 := n3_; have HB := n4_; clear n0_ n1_ n2_ n3_ n4_; clear hg hw hp_; have p245 : 0 ≤ (x53_3 : Int) := of_decide_eq_true (by first | (with_reducible assumption) | assumption); have q245 : x53_3 < (y244.length : Int) := (by have h_ : (x53_3 : Int) < ((x8_3.length : Int) : Int) := of_decide_eq_true (by first | (with_reducible assumption) | assumption); first | (have e_ := (Kd.R_reads' HO_8.out).1; omega) | simpa only [Ny244.out, List.length_set] using h_); have ql245 : ((x53_3 : Int) < ((x8_3.length : Int) : Int)) = True := eq_true (of_decide_eq_true (by first | (with_reducible assumption) | assumption)); obtain ⟨ad245, e245, hx245_0⟩ := Kd.at_int (Kd.R_reads' HO_8.out).2.2 x53_3 p245 q245; obtain rfl : (⟨go37, 0, none⟩ : Addr) = ad245 := (by injection e245); (first | simp only [add_plain] at hx245_0 | simp only [add_at] at hx245_0 | simp only [Addr.add, Nat.zero_add] at hx245_0 | skip); replace p245 := eq_true p245; replace q245 := eq_true q245)))
                              go_ret
                              exact ⟨by first | rfl | (simp [errW_none, errW_some] <;> rfl) | (simp [*, errW_none, errW_some] <;> rfl), by repeat (first | (with_reducible first | exact HB.out | apply below_alloc | apply pw_below_drewN | apply below_drew1) | exact HB.out)⟩
                            · rw [if_neg c38] at H
                              have c38b0 : decide ((rd y244 x53_3) < 0) = false := decide_eq_false c38
                              (try rw [hl8_3] at c38b0)
                              clear c38
                              have H' := Aside0.mk H
                              clear H
                              obtain ⟨Ao42, co42, eo42⟩ := Kd.R_slice HO_7.out
                              subst eo42
                              go_wp2_with (first | (go_at_call 16; (with_reducible refine (slices_Index_int_int.calls k3 _ _ t236 x53_3 t243 _ ?side1 ?side2 A34.out).mono ?_); (case side1 => repeat (first | exact (Kd.R_reads' HO_7.out).2.2 | (with_reducible refine Kd.C_alloc ?_ _) | (with_reducible refine Kd.C_drewN ?_ _) | (with_reducible refine Kd.C_drew ?_))); (case side2 => exact (Kd.R_reads' HO_7.out).2.1); rintro e w' ⟨rfl, ⟨nd, rfl⟩⟩; (try first | exact ⟨rfl, _, World.drewN_drewN _ _ _⟩ | exact ⟨rfl, _, Eq.trans (World.drewN_drewN _ _ _) (congrArg (World.drewN _) (Nat.add_assoc _ _ _))⟩); have p37 : 0 ≤ (x53_3 : Int) := of_decide_eq_true (by first | (with_reducible assumption) | assumption); have q37 : (x53_3 : Int) < ((x8_3.length : Int) : Int) := of_decide_eq_true (by first | (with_reducible assumption) | assumption); obtain ⟨go37, co37, eo37, gb37, gl37, cl37, HG37⟩ := Kd.R_form HO_8.out (by omega); (first | cases eo37 | (injection eo37 with ea_ en_ ec_; (first | subst ea_ | (injection ea_ with ea_; subst ea_)); subst ec_; clear en_)); have GB37 := Aside0.mk gb37; have GG37 := Aside0.mk HG37; clear gb37 gl37 HG37; obtain ⟨hx37_0, hf37_0⟩ := Kd.R_celln 0 HO_8.out (x53_3 : Int) p37 q37; replace p37 := eq_true p37; replace q37 := eq_true q37; obtain ⟨hy43_, hz43_⟩ := Kd.R_celln 0 HO_8.out (x53_3 : Int) (of_decide_eq_true (by first | (with_reducible assumption) | assumption)) (of_decide_eq_true (by first | (with_reducible assumption) | assumption)); have HP43 := Kd.R_putg HO_8.out (x53_3 : Int) t243) | ((with_reducible refine gate_store (t := 3) (p := 61) rfl ?_); (try (rw [drewN_self wr]; generalize hq_ : World.drewN wr _ = wr; have n0_ := Aside0.mk (Kd.R_at hq_ HO_3.out); have n1_ := Aside0.mk (Kd.S_at hq_ HO_6.out); have n2_ := Aside0.mk (Kd.R_at hq_ HO_7.out); have n3_ := Aside0.mk (Kd.R_at hq_ HO_8.out); have n4_ := Aside0.mk (below_at hq_ HB.out); clear hq_ HO_3 HO_6 HO_7 HO_8 HB; have HO_3 := n0_; have HO_6 := n1_; have HO_7 := n2_; have HO_8 := n3_; have HB := n4_; clear n0_ n1_ n2_ n3_ n4_; (try (obtain ⟨hy43_, hz43_⟩ := Kd.R_celln 0 HO_8.out (x53_3 : Int) (of_decide_eq_true (by first | (with_reducible assumption) | assumption)) (of_decide_eq_true (by first | (with_reducible assumption) | assumption)))); (try (have HP43 := Kd.R_putg HO_8.out (x53_3 : Int) t243)))); refine store_event (t := 3) (p := 61) (v := ?vo_w44) (w1 := (wr.setCell ⟨go37, (x53_3 : Int).toNat, none⟩ (.int .i64 t243))) ?hg ?ho ?hn ?hr ?_; (case ho => rfl); (case hg => rfl); (case hn => rfl); (case hr => first | (go_simp; done) | (go_simp; rfl)); intro w44 hw; have hg : wr.grownBy w44 (some go37) := (by rw [hw]; exact HP43.2); have hp_ : Kd.R (Kd.int .i64) 3 w44 w.heap.size (fun k_ => some k_ ≠ (.slice Ao42 t236.length co42 : Value).ownBlock) (.slice (some ⟨go37, 0, none⟩) x8_3.length co32) y244 := (by rw [hw, Ny244.out]; exact HP43.1); clear HP43; have n0_ := Aside0.mk (Kd.R_over' (v := (.slice (some ⟨go37, 0, none⟩) x8_3.length co32)) (by (with_reducible repeat (first | apply Kd.R_alloc | apply Kd.R_drewN | apply Kd.R_drew)); exact HO_3.out) (Kd.R_typed HO_8.out) (by decide) hg); have n1_ := Aside0.mk (Kd.S_after (v := (.slice (some ⟨go37, 0, none⟩) x8_3.length co32)) (v1 := (.slice (some ⟨go37, 0, none⟩) x8_3.length co32)) (ok := (fun k_ => some k_ ≠ (.slice Ao42 t236.length co42 : Value).ownBlock)) (by (with_reducible repeat (first | apply Kd.S_alloc | apply Kd.S_drewN | apply Kd.S_drew)); exact HO_6.out) hg (.inl rfl)); have n2_ := Aside0.mk (Kd.R_after (v := (.slice (some ⟨go37, 0, none⟩) x8_3.length co32)) (v1 := (.slice (some ⟨go37, 0, none⟩) x8_3.length co32)) (ok := (fun _ => True)) (by (with_reducible repeat (first | apply Kd.R_alloc | apply Kd.R_drewN | apply Kd.R_drew)); exact Kd.R_mono HO_7.out (fun _ hk => ⟨trivial, hk⟩)) hg (.inl rfl)); have n3_ := Aside0.mk (hp_); have n4_ := Aside0.mk ((by rw [hw]; exact below_set (HB.out) GB37.out : Below w.heap.size w w44)); clear HO_3; clear HO_6; clear HO_7; clear HO_8; clear HB; have HO_3 := n0_; have HO_6 := n1_; have HO_7 := n2_; have HO_8 := n3_; have HB := n4_; clear n0_ n1_ n2_ n3_ n4_; clear hg hw hp_; have p245 : 0 ≤ (x53_3 : Int) := of_decide_eq_true (by first | (with_reducible assumption) | assumption); have q245 : x53_3 < (y244.length : Int) := (by have h_ : (x53_3 : Int) < ((x8_3.length : Int) : Int) := of_decide_eq_true (by first | (with_reducible assumption) | assumption); first | (have e_ := (Kd.R_reads' HO_8.out).1; omega) | simpa only [Ny244.out, List.length_set] using h_); have ql245 : ((x53_3 : Int) < ((x8_3.length : Int) : Int)) = True := eq_true (of_decide_eq_true (by first | (with_reducible assumption) | assumption)); obtain ⟨ad245, e245, hx245_0⟩ := Kd.at_int (Kd.R_reads' HO_8.out).2.2 x53_3 p245 q245; obtain rfl : (⟨go37, 0, none⟩ : Addr) = ad245 := (by injection e245); (first | simp only [add_plain] at hx245_0 | simp only [add_at] at hx245_0 | simp only [Addr.add, Nat.zero_add] at hx245_0 | skip); replace p245 := eq_true p245; replace q245 := eq_true q245))
                              repeat (go_quiet (first | (go_at_call 16; (with_reducible refine (slices_Index_int_int.calls k3 _ _ t236 x53_3 t243 _ ?side1 ?side2 A34.out).mono ?_); (case side1 => repeat (first | exact (Kd.R_reads' HO_7.out).2.2 | (with_reducible refine Kd.C_alloc ?_ _) | (with_reducible refine Kd.C_drewN ?_ _) | (with_reducible refine Kd.C_drew ?_))); (case side2 => exact (Kd.R_reads' HO_7.out).2.1); rintro e w' ⟨rfl, ⟨nd, rfl⟩⟩; (try first | exact ⟨rfl, _, World.drewN_drewN _ _ _⟩ | exact ⟨rfl, _, Eq.trans (World.drewN_drewN _ _ _) (congrArg (World.drewN _) (Nat.add_assoc _ _ _))⟩); have p37 : 0 ≤ (x53_3 : Int) := of_decide_eq_true (by first | (with_reducible assumption) | assumption); have q37 : (x53_3 : Int) < ((x8_3.length : Int) : Int) := of_decide_eq_true (by first | (with_reducible assumption) | assumption); obtain ⟨go37, co37, eo37, gb37, gl37, cl37, HG37⟩ := Kd.R_form HO_8.out (by omega); (first | cases eo37 | (injection eo37 with ea_ en_ ec_; (first | subst ea_ | (injection ea_ with ea_; subst ea_)); subst ec_; clear en_)); have GB37 := Aside0.mk gb37; have GG37 := Aside0.mk HG37; clear gb37 gl37 HG37; obtain ⟨hx37_0, hf37_0⟩ := Kd.R_celln 0 HO_8.out (x53_3 : Int) p37 q37; replace p37 := eq_true p37; replace q37 := eq_true q37; obtain ⟨hy43_, hz43_⟩ := Kd.R_celln 0 HO_8.out (x53_3 : Int) (of_decide_eq_true (by first | (with_reducible assumption) | assumption)) (of_decide_eq_true (by first | (with_reducible assumption) | assumption)); have HP43 := Kd.R_putg HO_8.out (x53_3 : Int) t243) | ((with_reducible refine gate_store (t := 3) (p := 61) rfl ?_); (try (rw [drewN_self wr]; generalize hq_ : World.drewN wr _ = wr; have n0_ := Aside0.mk (Kd.R_at hq_ HO_3.out); have n1_ := Aside0.mk (Kd.S_at hq_ HO_6.out); have n2_ := Aside0.mk (Kd.R_at hq_ HO_7.out); have n3_ := Aside0.mk (Kd.R_at hq_ HO_8.out); have n4_ := Aside0.mk (below_at hq_ HB.out); clear hq_ HO_3 HO_6 HO_7 HO_8 HB; have HO_3 := n0_; have HO_6 := n1_; have HO_7 := n2_; have HO_8 := n3_; have HB := n4_; clear n0_ n1_ n2_ n3_ n4_; (try (obtain ⟨hy43_, hz43_⟩ := Kd.R_celln 0 HO_8.out (x53_3 : Int) (of_decide_eq_true (by first | (with_reducible assumption) | assumption)) (of_decide_eq_true (by first | (with_reducible assumption) | assumption)))); (try (have HP43 := Kd.R_putg HO_8.out (x53_3 : Int) t243)))); refine store_event (t := 3) (p := 61) (v := ?vo_w44) (w1 := (wr.setCell ⟨go37, (x53_3 : Int).toNat, none⟩ (.int .i64 t243))) ?hg ?ho ?hn ?hr ?_; (case ho => rfl); (case hg => rfl); (case hn => rfl); (case hr => first | (go_simp; done) | (go_simp; rfl)); intro w44 hw; have hg : wr.grownBy w44 (some go37) := (by rw [hw]; exact HP43.2); have hp_ : Kd.R (Kd.int .i64) 3 w44 w.heap.size (fun k_ => some k_ ≠ (.slice Ao42 t236.length co42 : Value).ownBlock) (.slice (some ⟨go37, 0, none⟩) x8_3.length co32) y244 := (by rw [hw, Ny244.out]; exact HP43.1); clear HP43; have n0_ := Aside0.mk (Kd.R_over' (v := (.slice (some ⟨go37, 0, none⟩) x8_3.length co32)) (by (with_reducible repeat (first | apply Kd.R_alloc | apply Kd.R_drewN | apply Kd.R_drew)); exact HO_3.out) (Kd.R_typed HO_8.out) (by decide) hg); have n1_ := Aside0.mk (Kd.S_after (v := (.slice (some ⟨go37, 0, none⟩) x8_3.length co32)) (v1 := (.slice (some ⟨go37, 0, none⟩) x8_3.length co32)) (ok := (fun k_ => some k_ ≠ (.slice Ao42 t236.length co42 : Value).ownBlock)) (by (with_reducible repeat (first | apply Kd.S_alloc | apply Kd.S_drewN | apply Kd.S_drew)); exact HO_6.out) hg (.inl rfl)); have n2_ := Aside0.mk (Kd.R_after (v := (.slice (some ⟨go37, 0, none⟩) x8_3.length co32)) (v1 := (.slice (some ⟨go37, 0, none⟩) x8_3.length co32)) (ok := (fun _ => True)) (by (with_reducible repeat (first | apply Kd.R_alloc | apply Kd.R_drewN | apply Kd.R_drew)); exact Kd.R_mono HO_7.out (fun _ hk => ⟨trivial, hk⟩)) hg (.inl rfl)); have n3_ := Aside0.mk (hp_); have n4_ := Aside0.mk ((by rw [hw]; exact below_set (HB.out) GB37.out : Below w.heap.size w w44)); clear HO_3; clear HO_6; clear HO_7; clear HO_8; clear HB; have HO_3 := n0_; have HO_6 := n1_; have HO_7 := n2_; have HO_8 := n3_; have HB := n4_; clear n0_ n1_ n2_ n3_ n4_; clear hg hw hp_; have p245 : 0 ≤ (x53_3 : Int) := of_decide_eq_true (by first | (with_reducible assumption) | assumption); have q245 : x53_3 < (y244.length : Int) := (by have h_ : (x53_3 : Int) < ((x8_3.length : Int) : Int) := of_decide_eq_true (by first | (with_reducible assumption) | assumption); first | (have e_ := (Kd.R_reads' HO_8.out).1; omega) | simpa only [Ny244.out, List.length_set] using h_); have ql245 : ((x53_3 : Int) < ((x8_3.length : Int) : Int)) = True := eq_true (of_decide_eq_true (by first | (with_reducible assumption) | assumption)); obtain ⟨ad245, e245, hx245_0⟩ := Kd.at_int (Kd.R_reads' HO_8.out).2.2 x53_3 p245 q245; obtain rfl : (⟨go37, 0, none⟩ : Addr) = ad245 := (by injection e245); (first | simp only [add_plain] at hx245_0 | simp only [add_at] at hx245_0 | simp only [Addr.add, Nat.zero_add] at hx245_0 | skip); replace p245 := eq_true p245; replace q245 := eq_true q245)); try go_wp2_with (first | (go_at_call 16; (with_reducible refine (slices_Index_int_int.calls k3 _ _ t236 x53_3 t243 _ ?side1 ?side2 A34.out).mono ?_); (case side1 => repeat (first | exact (Kd.R_reads' HO_7.out).2.2 | (with_reducible refine Kd.C_alloc ?_ _) | (with_reducible refine Kd.C_drewN ?_ _) | (with_reducible refine Kd.C_drew ?_))); (case side2 => exact (Kd.R_reads' HO_7.out).2.1); rintro e w' ⟨rfl, ⟨nd, rfl⟩⟩; (try first | exact ⟨rfl, _, World.drewN_drewN _ _ _⟩ | exact ⟨rfl, _, Eq.trans (World.drewN_drewN _ _ _) (congrArg (World.drewN _) (Nat.add_assoc _ _ _))⟩); have p37 : 0 ≤ (x53_3 : Int) := of_decide_eq_true (by first | (with_reducible assumption) | assumption); have q37 : (x53_3 : Int) < ((x8_3.length : Int) : Int) := of_decide_eq_true (by first | (with_reducible assumption) | assumption); obtain ⟨go37, co37, eo37, gb37, gl37, cl37, HG37⟩ := Kd.R_form HO_8.out (by omega); (first | cases eo37 | (injection eo37 with ea_ en_ ec_; (first | subst ea_ | (injection ea_ with ea_; subst ea_)); subst ec_; clear en_)); have GB37 := Aside0.mk gb37; have GG37 := Aside0.mk HG37; clear gb37 gl37 HG37; obtain ⟨hx37_0, hf37_0⟩ := Kd.R_celln 0 HO_8.out (x53_3 : Int) p37 q37; replace p37 := eq_true p37; replace q37 := eq_true q37; obtain ⟨hy43_, hz43_⟩ := Kd.R_celln 0 HO_8.out (x53_3 : Int) (of_decide_eq_true (by first | (with_reducible assumption) | assumption)) (of_decide_eq_true (by first | (with_reducible assumption) | assumption)); have HP43 := Kd.R_putg HO_8.out (x53_3 : Int) t243) | ((with_reducible refine gate_store (t := 3) (p := 61) rfl ?_); (try (rw [drewN_self wr]; generalize hq_ : World.drewN wr _ = wr; have n0_ := Aside0.mk (Kd.R_at hq_ HO_3.out); have n1_ := Aside0.mk (Kd.S_at hq_ HO_6.out); have n2_ := Aside0.mk (Kd.R_at hq_ HO_7.out); have n3_ := Aside0.mk (Kd.R_at hq_ HO_8.out); have n4_ := Aside0.mk (below_at hq_ HB.out); clear hq_ HO_3 HO_6 HO_7 HO_8 HB; have HO_3 := n0_; have HO_6 := n1_; have HO_7 := n2_; have HO_8 := n3_; have HB := n4_; clear n0_ n1_ n2_ n3_ n4_; (try (obtain ⟨hy43_, hz43_⟩ := Kd.R_celln 0 HO_8.out (x53_3 : Int) (of_decide_eq_true (by first | (with_reducible assumption) | assumption)) (of_decide_eq_true (by first | (with_reducible assumption) | assumption)))); (try (have HP43 := Kd.R_putg HO_8.out (x53_3 : Int) t243)))); refine store_event (t := 3) (p := 61) (v := ?vo_w44) (w1 := (wr.setCell ⟨go37, (x53_3 : Int).toNat, none⟩ (.int .i64 t243))) ?hg ?ho ?hn ?hr ?_; (case ho => rfl); (case hg => rfl); (case hn => rfl); (case hr => first | (go_simp; done) | (go_simp; rfl)); intro w44 hw; have hg : wr.grownBy w44 (some go37) := (by rw [hw]; exact HP43.2); have hp_ : Kd.R (Kd.int .i64) 3 w44 w.heap.size (fun k_ => some k_ ≠ (.slice Ao42 t236.length co42 : Value).ownBlock) (.slice (some ⟨go37, 0, none⟩) x8_3.length co32) y244 := (by rw [hw, Ny244.out]; exact HP43.1); clear HP43; have n0_ := Aside0.mk (Kd.R_over' (v := (.slice (some ⟨go37, 0, none⟩) x8_3.length co32)) (by (with_reducible repeat (first | apply Kd.R_alloc | apply Kd.R_drewN | apply Kd.R_drew)); exact HO_3.out) (Kd.R_typed HO_8.out) (by decide) hg); have n1_ := Aside0.mk (Kd.S_after (v := (.slice (some ⟨go37, 0, none⟩) x8_3.length co32)) (v1 := (.slice (some ⟨go37, 0, none⟩) x8_3.length co32)) (ok := (fun k_ => some k_ ≠ (.slice Ao42 t236.length co42 : Value).ownBlock)) (by (with_reducible repeat (first | apply Kd.S_alloc | apply Kd.S_drewN | apply Kd.S_drew)); exact HO_6.out) hg (.inl rfl)); have n2_ := Aside0.mk (Kd.R_after (v := (.slice (some ⟨go37, 0, none⟩) x8_3.length co32)) (v1 := (.slice (some ⟨go37, 0, none⟩) x8_3.length co32)) (ok := (fun _ => True)) (by (with_reducible repeat (first | apply Kd.R_alloc | apply Kd.R_drewN | apply Kd.R_drew)); exact Kd.R_mono HO_7.out (fun _ hk => ⟨trivial, hk⟩)) hg (.inl rfl)); have n3_ := Aside0.mk (hp_); have n4_ := Aside0.mk ((by rw [hw]; exact below_set (HB.out) GB37.out : Below w.heap.size w w44)); clear HO_3; clear HO_6; clear HO_7; clear HO_8; clear HB; have HO_3 := n0_; have HO_6 := n1_; have HO_7 := n2_; have HO_8 := n3_; have HB := n4_; clear n0_ n1_ n2_ n3_ n4_; clear hg hw hp_; have p245 : 0 ≤ (x53_3 : Int) := of_decide_eq_true (by first | (with_reducible assumption) | assumption); have q245 : x53_3 < (y244.length : Int) := (by have h_ : (x53_3 : Int) < ((x8_3.length : Int) : Int) := of_decide_eq_true (by first | (with_reducible assumption) | assumption); first | (have e_ := (Kd.R_reads' HO_8.out).1; omega) | simpa only [Ny244.out, List.length_set] using h_); have ql245 : ((x53_3 : Int) < ((x8_3.length : Int) : Int)) = True := eq_true (of_decide_eq_true (by first | (with_reducible assumption) | assumption)); obtain ⟨ad245, e245, hx245_0⟩ := Kd.at_int (Kd.R_reads' HO_8.out).2.2 x53_3 p245 q245; obtain rfl : (⟨go37, 0, none⟩ : Addr) = ad245 := (by injection e245); (first | simp only [add_plain] at hx245_0 | simp only [add_at] at hx245_0 | simp only [Addr.add, Nat.zero_add] at hx245_0 | skip); replace p245 := eq_true p245; replace q245 := eq_true q245)))
                              (try simp only [← hl8_3])
                              go_roundg k3
                              case measure => have := HJ2.out; have := HJ13.out; have := HK3.out; omega
                              case rel => exact ⟨(y244), (wrap64 (x53_3 + 1)), (by first | rfl | (simp; done) | (simp [*]; done)), H', ⟨by have := HJ2.out; have := HJ13.out; have := HK3.out; omega⟩, ⟨by (try simp only [hl8_3]); (with_reducible repeat (first | apply Kd.R_alloc | apply Kd.R_drewN | apply Kd.R_drew)); exact HO_3.out⟩, ⟨by (try simp only [hl8_3]); (with_reducible repeat (first | apply Kd.S_alloc | apply Kd.S_drewN | apply Kd.S_drew)); exact HO_6.out⟩, ⟨by (try simp only [hl8_3]); (with_reducible repeat (first | apply Kd.R_alloc | apply Kd.R_drewN | apply Kd.R_drew)); exact Kd.R_mono HO_7.out (fun _ hk => hk.2)⟩, ⟨by (try simp only [hl8_3]); (with_reducible repeat (first | apply Kd.R_alloc | apply Kd.R_drewN | apply Kd.R_drew)); exact HO_8.out⟩, ⟨by repeat (first | (with_reducible first | exact HB.out | apply below_alloc | apply pw_below_drewN | apply below_drew1) | exact HB.out)⟩⟩
                          · rw [if_neg c36] at H
                            exact absurd H (by simp)
                        · rw [if_neg c35] at H
                          exact absurd H (by simp)
                      · rw [if_neg c33] at H
                        have c33b0 : decide (x53_3 < (y240.length : Int)) = false := decide_eq_false c33
                        (try rw [hl8_3] at c33b0)
                        clear c33
                        replace H := Option.bind_eq_some_iff.mp H
                        obtain ⟨t246, A450, H⟩ := H
                        replace H : (if t246 = true then (some true) else ((provisoref05_Reach.f k3 t222 0).bind fun t247 => (provisolaw05_FlowAhead.l1 k3 t230 x8_3 t247 t230 (t230.length : Int) 0))) = some r := H
                        have A45 := Aside0.mk A450
                        clear A450
                        by_cases c46 : t246 = true
                        · subst c46
                          have H1 : (some true) = some r := by rw [if_pos rfl] at H; exact H
                          clear H
                          have H := H1
                          clear H1
                          obtain rfl := Option.some.inj H
                          go_wp2_with (first | (go_at_call 17; (with_reducible refine (provisolaw05_ring.calls k3 _ _ t230 true _ ?side1 ?side2 A45.out).mono ?_); (case side1 => repeat (first | exact (Kd.S_reads' HO_6.out).2.2 | (with_reducible refine Kd.C_alloc ?_ _) | (with_reducible refine Kd.C_drewN ?_ _) | (with_reducible refine Kd.C_drew ?_))); (case side2 => exact (Kd.S_reads' HO_6.out).2.1); rintro e w47 ⟨rfl, hb⟩; have n0_ := Aside0.mk (Kd.R_below (by (with_reducible repeat (first | apply Kd.R_alloc | apply Kd.R_drewN | apply Kd.R_drew)); exact HO_3.out) hb); have n1_ := Aside0.mk (Kd.S_below (by (with_reducible repeat (first | apply Kd.S_alloc | apply Kd.S_drewN | apply Kd.S_drew)); exact HO_6.out) hb); have n2_ := Aside0.mk (Kd.R_below (by (with_reducible repeat (first | apply Kd.R_alloc | apply Kd.R_drewN | apply Kd.R_drew)); exact HO_7.out) hb); have n3_ := Aside0.mk (Kd.R_below (by (with_reducible repeat (first | apply Kd.R_alloc | apply Kd.R_drewN | apply Kd.R_drew)); exact HO_8.out) hb); have n4_ := Aside0.mk (below_step (by repeat (first | (with_reducible first | exact HB.out | apply below_alloc | apply pw_below_drewN | apply below_drew1) | exact HB.out)) hb); clear HO_3; clear HO_6; clear HO_7; clear HO_8; clear HB; have HO_3 := n0_; have HO_6 := n1_; have HO_7 := n2_; have HO_8 := n3_; have HB := n4_; clear n0_ n1_ n2_ n3_ n4_; (try clear hb); (try clear hb2); (try clear hk); (try clear hi)))
                          repeat (go_quiet (first | (go_at_call 17; (with_reducible refine (provisolaw05_ring.calls k3 _ _ t230 true _ ?side1 ?side2 A45.out).mono ?_); (case side1 => repeat (first | exact (Kd.S_reads' HO_6.out).2.2 | (with_reducible refine Kd.C_alloc ?_ _) | (with_reducible refine Kd.C_drewN ?_ _) | (with_reducible refine Kd.C_drew ?_))); (case side2 => exact (Kd.S_reads' HO_6.out).2.1); rintro e w47 ⟨rfl, hb⟩; have n0_ := Aside0.mk (Kd.R_below (by (with_reducible repeat (first | apply Kd.R_alloc | apply Kd.R_drewN | apply Kd.R_drew)); exact HO_3.out) hb); have n1_ := Aside0.mk (Kd.S_below (by (with_reducible repeat (first | apply Kd.S_alloc | apply Kd.S_drewN | apply Kd.S_drew)); exact HO_6.out) hb); have n2_ := Aside0.mk (Kd.R_below (by (with_reducible repeat (first | apply Kd.R_alloc | apply Kd.R_drewN | apply Kd.R_drew)); exact HO_7.out) hb); have n3_ := Aside0.mk (Kd.R_below (by (with_reducible repeat (first | apply Kd.R_alloc | apply Kd.R_drewN | apply Kd.R_drew)); exact HO_8.out) hb); have n4_ := Aside0.mk (below_step (by repeat (first | (with_reducible first | exact HB.out | apply below_alloc | apply pw_below_drewN | apply below_drew1) | exact HB.out)) hb); clear HO_3; clear HO_6; clear HO_7; clear HO_8; clear HB; have HO_3 := n0_; have HO_6 := n1_; have HO_7 := n2_; have HO_8 := n3_; have HB := n4_; clear n0_ n1_ n2_ n3_ n4_; (try clear hb); (try clear hb2); (try clear hk); (try clear hi))); try go_wp2_with (first | (go_at_call 17; (with_reducible refine (provisolaw05_ring.calls k3 _ _ t230 true _ ?side1 ?side2 A45.out).mono ?_); (case side1 => repeat (first | exact (Kd.S_reads' HO_6.out).2.2 | (with_reducible refine Kd.C_alloc ?_ _) | (with_reducible refine Kd.C_drewN ?_ _) | (with_reducible refine Kd.C_drew ?_))); (case side2 => exact (Kd.S_reads' HO_6.out).2.1); rintro e w47 ⟨rfl, hb⟩; have n0_ := Aside0.mk (Kd.R_below (by (with_reducible repeat (first | apply Kd.R_alloc | apply Kd.R_drewN | apply Kd.R_drew)); exact HO_3.out) hb); have n1_ := Aside0.mk (Kd.S_below (by (with_reducible repeat (first | apply Kd.S_alloc | apply Kd.S_drewN | apply Kd.S_drew)); exact HO_6.out) hb); have n2_ := Aside0.mk (Kd.R_below (by (with_reducible repeat (first | apply Kd.R_alloc | apply Kd.R_drewN | apply Kd.R_drew)); exact HO_7.out) hb); have n3_ := Aside0.mk (Kd.R_below (by (with_reducible repeat (first | apply Kd.R_alloc | apply Kd.R_drewN | apply Kd.R_drew)); exact HO_8.out) hb); have n4_ := Aside0.mk (below_step (by repeat (first | (with_reducible first | exact HB.out | apply below_alloc | apply pw_below_drewN | apply below_drew1) | exact HB.out)) hb); clear HO_3; clear HO_6; clear HO_7; clear HO_8; clear HB; have HO_3 := n0_; have HO_6 := n1_; have HO_7 := n2_; have HO_8 := n3_; have HB := n4_; clear n0_ n1_ n2_ n3_ n4_; (try clear hb); (try clear hb2); (try clear hk); (try clear hi))))
                          go_ret
                          exact ⟨by first | rfl | (simp [errW_none, errW_some] <;> rfl) | (simp [*, errW_none, errW_some] <;> rfl), by repeat (first | (with_reducible first | exact HB.out | apply below_alloc | apply pw_below_drewN | apply below_drew1) | exact HB.out)⟩
                        · replace c46 := Bool.eq_false_iff.mpr c46
                          subst c46
                          have H1 : ((provisoref05_Reach.f k3 t222 0).bind fun t247 => (provisolaw05_FlowAhead.l1 k3 t230 x8_3 t247 t230 (t230.length : Int) 0)) = some r := by rw [if_neg (show ¬ (false = true) by decide)] at H; exact H
                          clear H
                          have H := H1
                          clear H1
                          replace H := Option.bind_eq_some_iff.mp H
                          obtain ⟨t247, A480, H⟩ := H
                          replace H : (provisolaw05_FlowAhead.l1 k3 t230 x8_3 t247 t230 (t230.length : Int) 0) = some r := H
                          have A48 := Aside0.mk A480
                          clear A480
                          have H' := Aside0.mk H
                          clear H
                          go_wp2_with (first | (go_at_call 17; (with_reducible refine (provisolaw05_ring.calls k3 _ _ t230 false _ ?side1 ?side2 A45.out).mono ?_); (case side1 => repeat (first | exact (Kd.S_reads' HO_6.out).2.2 | (with_reducible refine Kd.C_alloc ?_ _) | (with_reducible refine Kd.C_drewN ?_ _) | (with_reducible refine Kd.C_drew ?_))); (case side2 => exact (Kd.S_reads' HO_6.out).2.1); rintro e w49 ⟨rfl, hb⟩; have n0_ := Aside0.mk (Kd.R_below (by (with_reducible repeat (first | apply Kd.R_alloc | apply Kd.R_drewN | apply Kd.R_drew)); exact HO_3.out) hb); have n1_ := Aside0.mk (Kd.S_below (by (with_reducible repeat (first | apply Kd.S_alloc | apply Kd.S_drewN | apply Kd.S_drew)); exact HO_6.out) hb); have n2_ := Aside0.mk (Kd.R_below (by (with_reducible repeat (first | apply Kd.R_alloc | apply Kd.R_drewN | apply Kd.R_drew)); exact HO_7.out) hb); have n3_ := Aside0.mk (Kd.R_below (by (with_reducible repeat (first | apply Kd.R_alloc | apply Kd.R_drewN | apply Kd.R_drew)); exact HO_8.out) hb); have n4_ := Aside0.mk (below_step (by repeat (first | (with_reducible first | exact HB.out | apply below_alloc | apply pw_below_drewN | apply below_drew1) | exact HB.out)) hb); clear HO_3; clear HO_6; clear HO_7; clear HO_8; clear HB; have HO_3 := n0_; have HO_6 := n1_; have HO_7 := n2_; have HO_8 := n3_; have HB := n4_; clear n0_ n1_ n2_ n3_ n4_; (try clear hb); (try clear hb2); (try clear hk); (try clear hi)) | (go_at_call 18; (with_reducible refine (provisoref05_Reach.calls k3 _ _ t222 0 t247 _ ?side1 ?side2 A48.out).mono ?_); (case side1 => repeat (first | exact (Kd.R_reads' HO_3.out).2.2 | (with_reducible refine Kd.C_alloc ?_ _) | (with_reducible refine Kd.C_drewN ?_ _) | (with_reducible refine Kd.C_drew ?_))); (case side2 => exact (Kd.R_reads' HO_3.out).2.1); rintro e w50 ⟨v248, rfl, ho0, hb⟩; have n0_ := Aside0.mk (Kd.R_below (by (with_reducible repeat (first | apply Kd.R_alloc | apply Kd.R_drewN | apply Kd.R_drew)); exact HO_3.out) hb); have n1_ := Aside0.mk (Kd.S_elder' (by (with_reducible repeat (first | apply Kd.S_alloc | apply Kd.S_drewN | apply Kd.S_drew)); exact HO_6.out) (Kd.R_base ho0) hb); have n2_ := Aside0.mk (Kd.R_elder' (by (with_reducible repeat (first | apply Kd.R_alloc | apply Kd.R_drewN | apply Kd.R_drew)); exact HO_7.out) (Kd.R_base ho0) hb); have n3_ := Aside0.mk (Kd.R_elder' (by (with_reducible repeat (first | apply Kd.R_alloc | apply Kd.R_drewN | apply Kd.R_drew)); exact HO_8.out) (Kd.R_base ho0) hb); have n4_ := Aside0.mk (Kd.R_lower (Kd.R_new' (Kd.R_new' ho0 (Kd.R_lt (by (with_reducible repeat (first | apply Kd.R_alloc | apply Kd.R_drewN | apply Kd.R_drew)); exact HO_7.out))) (Kd.R_lt (by (with_reducible repeat (first | apply Kd.R_alloc | apply Kd.R_drewN | apply Kd.R_drew)); exact HO_8.out))) (below_size (by repeat (first | (with_reducible first | exact HB.out | apply below_alloc | apply pw_below_drewN | apply below_drew1) | exact HB.out)))); have n5_ := Aside0.mk (below_step (by repeat (first | (with_reducible first | exact HB.out | apply below_alloc | apply pw_below_drewN | apply below_drew1) | exact HB.out)) hb); clear HO_3; clear HO_6; clear HO_7; clear HO_8; clear HB; have HO_3 := n0_; have HO_6 := n1_; have HO_7 := n2_; have HO_8 := n3_; have HO249 := n4_; have HB := n5_; clear n0_ n1_ n2_ n3_ n4_ n5_; (try clear hb); (try clear hb2); (try clear hk); (try clear hi); (try clear ho0)))
                          repeat (go_quiet (first | (go_at_call 17; (with_reducible refine (provisolaw05_ring.calls k3 _ _ t230 false _ ?side1 ?side2 A45.out).mono ?_); (case side1 => repeat (first | exact (Kd.S_reads' HO_6.out).2.2 | (with_reducible refine Kd.C_alloc ?_ _) | (with_reducible refine Kd.C_drewN ?_ _) | (with_reducible refine Kd.C_drew ?_))); (case side2 => exact (Kd.S_reads' HO_6.out).2.1); rintro e w49 ⟨rfl, hb⟩; have n0_ := Aside0.mk (Kd.R_below (by (with_reducible repeat (first | apply Kd.R_alloc | apply Kd.R_drewN | apply Kd.R_drew)); exact HO_3.out) hb); have n1_ := Aside0.mk (Kd.S_below (by (with_reducible repeat (first | apply Kd.S_alloc | apply Kd.S_drewN | apply Kd.S_drew)); exact HO_6.out) hb); have n2_ := Aside0.mk (Kd.R_below (by (with_reducible repeat (first | apply Kd.R_alloc | apply Kd.R_drewN | apply Kd.R_drew)); exact HO_7.out) hb); have n3_ := Aside0.mk (Kd.R_below (by (with_reducible repeat (first | apply Kd.R_alloc | apply Kd.R_drewN | apply Kd.R_drew)); exact HO_8.out) hb); have n4_ := Aside0.mk (below_step (by repeat (first | (with_reducible first | exact HB.out | apply below_alloc | apply pw_below_drewN | apply below_drew1) | exact HB.out)) hb); clear HO_3; clear HO_6; clear HO_7; clear HO_8; clear HB; have HO_3 := n0_; have HO_6 := n1_; have HO_7 := n2_; have HO_8 := n3_; have HB := n4_; clear n0_ n1_ n2_ n3_ n4_; (try clear hb); (try clear hb2); (try clear hk); (try clear hi)) | (go_at_call 18; (with_reducible refine (provisoref05_Reach.calls k3 _ _ t222 0 t247 _ ?side1 ?side2 A48.out).mono ?_); (case side1 => repeat (first | exact (Kd.R_reads' HO_3.out).2.2 | (with_reducible refine Kd.C_alloc ?_ _) | (with_reducible refine Kd.C_drewN ?_ _) | (with_reducible refine Kd.C_drew ?_))); (case side2 => exact (Kd.R_reads' HO_3.out).2.1); rintro e w50 ⟨v248, rfl, ho0, hb⟩; have n0_ := Aside0.mk (Kd.R_below (by (with_reducible repeat (first | apply Kd.R_alloc | apply Kd.R_drewN | apply Kd.R_drew)); exact HO_3.out) hb); have n1_ := Aside0.mk (Kd.S_elder' (by (with_reducible repeat (first | apply Kd.S_alloc | apply Kd.S_drewN | apply Kd.S_drew)); exact HO_6.out) (Kd.R_base ho0) hb); have n2_ := Aside0.mk (Kd.R_elder' (by (with_reducible repeat (first | apply Kd.R_alloc | apply Kd.R_drewN | apply Kd.R_drew)); exact HO_7.out) (Kd.R_base ho0) hb); have n3_ := Aside0.mk (Kd.R_elder' (by (with_reducible repeat (first | apply Kd.R_alloc | apply Kd.R_drewN | apply Kd.R_drew)); exact HO_8.out) (Kd.R_base ho0) hb); have n4_ := Aside0.mk (Kd.R_lower (Kd.R_new' (Kd.R_new' ho0 (Kd.R_lt (by (with_reducible repeat (first | apply Kd.R_alloc | apply Kd.R_drewN | apply Kd.R_drew)); exact HO_7.out))) (Kd.R_lt (by (with_reducible repeat (first | apply Kd.R_alloc | apply Kd.R_drewN | apply Kd.R_drew)); exact HO_8.out))) (below_size (by repeat (first | (with_reducible first | exact HB.out | apply below_alloc | apply pw_below_drewN | apply below_drew1) | exact HB.out)))); have n5_ := Aside0.mk (below_step (by repeat (first | (with_reducible first | exact HB.out | apply below_alloc | apply pw_below_drewN | apply below_drew1) | exact HB.out)) hb); clear HO_3; clear HO_6; clear HO_7; clear HO_8; clear HB; have HO_3 := n0_; have HO_6 := n1_; have HO_7 := n2_; have HO_8 := n3_; have HO249 := n4_; have HB := n5_; clear n0_ n1_ n2_ n3_ n4_ n5_; (try clear hb); (try clear hb2); (try clear hk); (try clear hi); (try clear ho0))); try go_wp2_with (first | (go_at_call 17; (with_reducible refine (provisolaw05_ring.calls k3 _ _ t230 false _ ?side1 ?side2 A45.out).mono ?_); (case side1 => repeat (first | exact (Kd.S_reads' HO_6.out).2.2 | (with_reducible refine Kd.C_alloc ?_ _) | (with_reducible refine Kd.C_drewN ?_ _) | (with_reducible refine Kd.C_drew ?_))); (case side2 => exact (Kd.S_reads' HO_6.out).2.1); rintro e w49 ⟨rfl, hb⟩; have n0_ := Aside0.mk (Kd.R_below (by (with_reducible repeat (first | apply Kd.R_alloc | apply Kd.R_drewN | apply Kd.R_drew)); exact HO_3.out) hb); have n1_ := Aside0.mk (Kd.S_below (by (with_reducible repeat (first | apply Kd.S_alloc | apply Kd.S_drewN | apply Kd.S_drew)); exact HO_6.out) hb); have n2_ := Aside0.mk (Kd.R_below (by (with_reducible repeat (first | apply Kd.R_alloc | apply Kd.R_drewN | apply Kd.R_drew)); exact HO_7.out) hb); have n3_ := Aside0.mk (Kd.R_below (by (with_reducible repeat (first | apply Kd.R_alloc | apply Kd.R_drewN | apply Kd.R_drew)); exact HO_8.out) hb); have n4_ := Aside0.mk (below_step (by repeat (first | (with_reducible first | exact HB.out | apply below_alloc | apply pw_below_drewN | apply below_drew1) | exact HB.out)) hb); clear HO_3; clear HO_6; clear HO_7; clear HO_8; clear HB; have HO_3 := n0_; have HO_6 := n1_; have HO_7 := n2_; have HO_8 := n3_; have HB := n4_; clear n0_ n1_ n2_ n3_ n4_; (try clear hb); (try clear hb2); (try clear hk); (try clear hi)) | (go_at_call 18; (with_reducible refine (provisoref05_Reach.calls k3 _ _ t222 0 t247 _ ?side1 ?side2 A48.out).mono ?_); (case side1 => repeat (first | exact (Kd.R_reads' HO_3.out).2.2 | (with_reducible refine Kd.C_alloc ?_ _) | (with_reducible refine Kd.C_drewN ?_ _) | (with_reducible refine Kd.C_drew ?_))); (case side2 => exact (Kd.R_reads' HO_3.out).2.1); rintro e w50 ⟨v248, rfl, ho0, hb⟩; have n0_ := Aside0.mk (Kd.R_below (by (with_reducible repeat (first | apply Kd.R_alloc | apply Kd.R_drewN | apply Kd.R_drew)); exact HO_3.out) hb); have n1_ := Aside0.mk (Kd.S_elder' (by (with_reducible repeat (first | apply Kd.S_alloc | apply Kd.S_drewN | apply Kd.S_drew)); exact HO_6.out) (Kd.R_base ho0) hb); have n2_ := Aside0.mk (Kd.R_elder' (by (with_reducible repeat (first | apply Kd.R_alloc | apply Kd.R_drewN | apply Kd.R_drew)); exact HO_7.out) (Kd.R_base ho0) hb); have n3_ := Aside0.mk (Kd.R_elder' (by (with_reducible repeat (first | apply Kd.R_alloc | apply Kd.R_drewN | apply Kd.R_drew)); exact HO_8.out) (Kd.R_base ho0) hb); have n4_ := Aside0.mk (Kd.R_lower (Kd.R_new' (Kd.R_new' ho0 (Kd.R_lt (by (with_reducible repeat (first | apply Kd.R_alloc | apply Kd.R_drewN | apply Kd.R_drew)); exact HO_7.out))) (Kd.R_lt (by (with_reducible repeat (first | apply Kd.R_alloc | apply Kd.R_drewN | apply Kd.R_drew)); exact HO_8.out))) (below_size (by repeat (first | (with_reducible first | exact HB.out | apply below_alloc | apply pw_below_drewN | apply below_drew1) | exact HB.out)))); have n5_ := Aside0.mk (below_step (by repeat (first | (with_reducible first | exact HB.out | apply below_alloc | apply pw_below_drewN | apply below_drew1) | exact HB.out)) hb); clear HO_3; clear HO_6; clear HO_7; clear HO_8; clear HB; have HO_3 := n0_; have HO_6 := n1_; have HO_7 := n2_; have HO_8 := n3_; have HO249 := n4_; have HB := n5_; clear n0_ n1_ n2_ n3_ n4_ n5_; (try clear hb); (try clear hb2); (try clear hk); (try clear hi); (try clear ho0))))
                          go_loopg [74] k3 (fun kq v74 w' => ∃ (x74_4 : Int), v74 = .int .i64 x74_4 ∧ Aside0 (provisolaw05_FlowAhead.l1 kq t230 x8_3 t247 t230 (t230.length : Int) x74_4 = some r) ∧ Aside0 (kq ≤ k3) ∧ Aside0 (Kd.S k35 35 w' w.heap.size (fun k_ => some k_ ≠ ((.slice Ao32 x8_3.length co32) : Value).ownBlock ∧ some k_ ≠ (v248 : Value).ownBlock) (.slice Ao29 t230.length co29) t230) ∧ Aside0 (Kd.R (Kd.int .i64) 3 w' w.heap.size (fun k_ => some k_ ≠ (v248 : Value).ownBlock) (.slice Ao32 x8_3.length co32) x8_3) ∧ Aside0 (Kd.R (Kd.int .i64) 3 w' w.heap.size (fun k_ => some k_ ≠ ((.slice Ao32 x8_3.length co32) : Value).ownBlock) v248 t247) ∧ Aside0 (Kd.S k35 35 w' w.heap.size (fun k_ => some k_ ≠ ((.slice Ao32 x8_3.length co32) : Value).ownBlock ∧ some k_ ≠ (v248 : Value).ownBlock) (.slice Ao29 t230.length co29) t230) ∧ Aside0 (Below w.heap.size w w'))
                          case atStart => exact ⟨(0), (by first | rfl | (simp; done) | (simp [*]; done)), H', ⟨Nat.le_refl _⟩, ⟨by (try simp only [hl8_3]); (with_reducible repeat (first | apply Kd.S_alloc | apply Kd.S_drewN | apply Kd.S_drew)); exact Kd.S_mono HO_6.out (fun _ hk => ⟨hk.1.2, hk.2⟩)⟩, ⟨by (try simp only [hl8_3]); (with_reducible repeat (first | apply Kd.R_alloc | apply Kd.R_drewN | apply Kd.R_drew)); exact Kd.R_mono HO_8.out (fun _ hk => hk.2)⟩, ⟨by (try simp only [hl8_3]); (with_reducible repeat (first | apply Kd.R_alloc | apply Kd.R_drewN | apply Kd.R_drew)); exact Kd.R_mono HO249.out (fun _ hk => hk.2)⟩, ⟨by (try simp only [hl8_3]); (with_reducible repeat (first | apply Kd.S_alloc | apply Kd.S_drewN | apply Kd.S_drew)); exact Kd.S_mono HO_6.out (fun _ hk => ⟨hk.1.2, hk.2⟩)⟩, ⟨by repeat (first | (with_reducible first | exact HB.out | apply below_alloc | apply pw_below_drewN | apply below_drew1) | exact HB.out)⟩⟩
                          case round =>
                            clear H'
                            try clear c2
                            try clear p2
                            try clear q2
                            try clear hx2
                            try clear qi2
                            try clear c3
                            try clear p3
                            try clear q3
                            try clear hx3
                            try clear hf3
                            try clear c4
                            try clear c5
                            try clear c5b0
                            try clear c5b1
                            try clear p6
                            try clear c7
                            try clear c20
                            try clear c20b0
                            try clear c20b1
                            try clear c20b2
                            try clear c21
                            try clear c21b0
                            try clear c21b1
                            try clear p23
                            try clear q23
                            try clear hx23
                            try clear qi23
                            try clear p24
                            try clear q24
                            try clear hx24
                            try clear c26
                            try clear c27
                            try clear c27b0
                            try clear c27b1
                            try clear c28
                            try clear c28b0
                            try clear c28b1
                            try clear c33
                            try clear c33b0
                            try clear c35
                            try clear c35b0
                            try clear c36
                            try clear c36b0
                            try clear p37
                            try clear q37
                            try clear hx37
                            try clear hf37
                            try clear c38
                            try clear c38b0
                            try clear c46
                            try clear hx239_0
                            try clear hx245_0
                            try clear hx37_0
                            try clear p2
                            try clear p23
                            try clear p239
                            try clear p245
                            try clear p37
                            try clear q2
                            try clear q23
                            try clear q239
                            try clear q245
                            try clear q37
                            obtain ⟨x74_4, rfl, HA, HK4, HO_6, HO_8, HO_10, HO_72, HB⟩ := hrel
                            cases gk with
                            | zero => exact absurd HA.out (by simp [provisolaw05_FlowAhead.l1])
                            | succ k4 =>
                              have H := HA.out
                              clear HA
                              simp only [provisolaw05_FlowAhead.l1] at H
                              by_cases c51 : x74_4 < (t230.length : Int)
                              · rw [if_pos c51] at H
                                have c51b0 : decide (x74_4 < (t230.length : Int)) = true := decide_eq_true c51
                                (try rw [hl8_3] at c51b0)
                                clear c51
                                by_cases c52 : 0 ≤ x74_4
                                · rw [if_pos c52] at H
                                  have c52b0 : decide (0 ≤ x74_4) = true := decide_eq_true c52
                                  (try rw [hl8_3] at c52b0)
                                  clear c52
                                  by_cases c53 : x74_4 < (t230.length : Int)
                                  · rw [if_pos c53] at H
                                    have c53b0 : decide (x74_4 < (t230.length : Int)) = true := decide_eq_true c53
                                    (try rw [hl8_3] at c53b0)
                                    clear c53
                                    have H' := Aside0.mk H
                                    clear H
                                    have p250 : 0 ≤ (x74_4 : Int) := of_decide_eq_true (by first | (with_reducible assumption) | assumption)
                                    have q250 : x74_4 < (t230.length : Int) := of_decide_eq_true (by first | (with_reducible assumption) | assumption)
                                    obtain ⟨ad250, A250_2, c250_2, e250, hx250_0, hx250_1, hx250_2, hl250_2, hi250_2⟩ := at_T35 (Kd.S_reads' HO_72.out).2.2 x74_4 p250 q250
                                    cases e250
                                    obtain ⟨ce250, hce250, hMe250, hcc250⟩ := Kd.S_get HO_72.out z35 x74_4 p250 (by first | exact q250 | exact of_decide_eq_true (by first | (with_reducible assumption) | assumption) | (have e_ := (Kd.S_reads' HO_72.out).1; omega))
                                    obtain ⟨ve250_2, rfl, ge250_2⟩ := k35_openM hMe250
                                    have hv250_2 := hcc250 2 _ rfl
                                    rw [add_field _ _ 2 (by omega)] at hv250_2
                                    replace hv250_2 := Option.some.inj (hv250_2.symm.trans hx250_2)
                                    rw [hv250_2] at ge250_2
                                    have HL250_2 := Aside0.mk (show Kd.R (Kd.int .i64) 3 _ _ _ _ ((rd_T35 t230 x74_4).f2) from ge250_2)
                                    clear hv250_2 ge250_2
                                    clear hcc250 hce250
                                    have HR250_2 := Aside0.mk hi250_2
                                    have HC250_2 := Aside0.mk hl250_2
                                    clear hi250_2 hl250_2
                                    replace p250 := eq_true p250
                                    replace q250 := eq_true q250
                                    go_wp2_with (first | ((with_reducible refine gate_dst (N := 12) rfl ?_); (try (refine gate_guard (by rfl) ?_; dsimp only)); refine box_event ?hg (N := 12) ?hd (cs := #[.int .i64 0, .int .i64 0, .slice none 0 0]) (t := 35) ?hr ?_; (case hd => rfl); (case hg => rfl); (case hr => first | (go_simp; done) | (go_simp; rfl)); intro gb251 hg w54 hbox hb; have n0_ := Aside0.mk (Kd.S_below (Kd.S_elderB (by (with_reducible repeat (first | apply Kd.S_alloc | apply Kd.S_drewN | apply Kd.S_drew)); exact HO_6.out) gb251 (Nat.le_of_eq hg.symm)) hb); have n1_ := Aside0.mk (Kd.R_below (by (with_reducible repeat (first | apply Kd.R_alloc | apply Kd.R_drewN | apply Kd.R_drew)); exact HO_8.out) hb); have n2_ := Aside0.mk (Kd.R_below (by (with_reducible repeat (first | apply Kd.R_alloc | apply Kd.R_drewN | apply Kd.R_drew)); exact HO_10.out) hb); have n3_ := Aside0.mk (Kd.S_below (Kd.S_elderB (by (with_reducible repeat (first | apply Kd.S_alloc | apply Kd.S_drewN | apply Kd.S_drew)); exact HO_72.out) gb251 (Nat.le_of_eq hg.symm)) hb); have n4_ := Aside0.mk (Kd.R_below (by (with_reducible repeat (first | apply Kd.R_alloc | apply Kd.R_drewN | apply Kd.R_drew)); exact HL250_2.out) hb); have n5_ := Aside0.mk (Kd.C_below (by repeat (first | (with_reducible exact HR250_2.out) | (with_reducible refine Kd.C_alloc ?_ _) | (with_reducible refine Kd.C_drewN ?_ _) | (with_reducible refine Kd.C_drew ?_) | exact HR250_2.out)) hb); have n6_ := Aside0.mk (below_step (by repeat (first | (with_reducible first | exact HB.out | apply below_alloc | apply pw_below_drewN | apply below_drew1) | exact HB.out)) hb); have n7_ := Aside0.mk (hbox); have n8_ := Aside0.mk ((by rw [hg]; exact (below_size (by repeat (first | (with_reducible first | exact HB.out | apply below_alloc | apply pw_below_drewN | apply below_drew1) | exact HB.out))) : w.heap.size ≤ gb251)); have n9_ := Aside0.mk ((by rw [hg]; exact (below_size (by repeat (first | (with_reducible first | exact HB.out | apply below_alloc | apply pw_below_drewN | apply below_drew1) | exact HB.out))) : w.heap.size ≤ gb251)); clear HO_6; clear HO_8; clear HO_10; clear HO_72; clear HL250_2; clear HR250_2; clear HB; have HO_6 := n0_; have HO_8 := n1_; have HO_10 := n2_; have HO_72 := n3_; have HL250_2 := n4_; have HR250_2 := n5_; have HB := n6_; have BK251 := n7_; have GW251 := n8_; have GE251 := n9_; clear n0_ n1_ n2_ n3_ n4_ n5_ n6_ n7_ n8_ n9_; clear hb hbox hg; have hcz55_0 : w54.cell? ⟨gb251, 0, none⟩ = some (.int .i64 0) := (blk_cell BK251.out 0).trans rfl; have hcz55_1 : w54.cell? ⟨gb251, 1, none⟩ = some (.int .i64 0) := (blk_cell BK251.out 1).trans rfl; have hcz55_2 : w54.cell? ⟨gb251, 2, none⟩ = some (.slice none 0 0) := (blk_cell BK251.out 2).trans rfl; have hfz55_0 := blk_frozen BK251.out 0; have hfz55_1 := blk_frozen BK251.out 1; have hfz55_2 := blk_frozen BK251.out 2))
                                    repeat (go_quiet (first | ((with_reducible refine gate_dst (N := 12) rfl ?_); (try (refine gate_guard (by rfl) ?_; dsimp only)); refine box_event ?hg (N := 12) ?hd (cs := #[.int .i64 0, .int .i64 0, .slice none 0 0]) (t := 35) ?hr ?_; (case hd => rfl); (case hg => rfl); (case hr => first | (go_simp; done) | (go_simp; rfl)); intro gb251 hg w54 hbox hb; have n0_ := Aside0.mk (Kd.S_below (Kd.S_elderB (by (with_reducible repeat (first | apply Kd.S_alloc | apply Kd.S_drewN | apply Kd.S_drew)); exact HO_6.out) gb251 (Nat.le_of_eq hg.symm)) hb); have n1_ := Aside0.mk (Kd.R_below (by (with_reducible repeat (first | apply Kd.R_alloc | apply Kd.R_drewN | apply Kd.R_drew)); exact HO_8.out) hb); have n2_ := Aside0.mk (Kd.R_below (by (with_reducible repeat (first | apply Kd.R_alloc | apply Kd.R_drewN | apply Kd.R_drew)); exact HO_10.out) hb); have n3_ := Aside0.mk (Kd.S_below (Kd.S_elderB (by (with_reducible repeat (first | apply Kd.S_alloc | apply Kd.S_drewN | apply Kd.S_drew)); exact HO_72.out) gb251 (Nat.le_of_eq hg.symm)) hb); have n4_ := Aside0.mk (Kd.R_below (by (with_reducible repeat (first | apply Kd.R_alloc | apply Kd.R_drewN | apply Kd.R_drew)); exact HL250_2.out) hb); have n5_ := Aside0.mk (Kd.C_below (by repeat (first | (with_reducible exact HR250_2.out) | (with_reducible refine Kd.C_alloc ?_ _) | (with_reducible refine Kd.C_drewN ?_ _) | (with_reducible refine Kd.C_drew ?_) | exact HR250_2.out)) hb); have n6_ := Aside0.mk (below_step (by repeat (first | (with_reducible first | exact HB.out | apply below_alloc | apply pw_below_drewN | apply below_drew1) | exact HB.out)) hb); have n7_ := Aside0.mk (hbox); have n8_ := Aside0.mk ((by rw [hg]; exact (below_size (by repeat (first | (with_reducible first | exact HB.out | apply below_alloc | apply pw_below_drewN | apply below_drew1) | exact HB.out))) : w.heap.size ≤ gb251)); have n9_ := Aside0.mk ((by rw [hg]; exact (below_size (by repeat (first | (with_reducible first | exact HB.out | apply below_alloc | apply pw_below_drewN | apply below_drew1) | exact HB.out))) : w.heap.size ≤ gb251)); clear HO_6; clear HO_8; clear HO_10; clear HO_72; clear HL250_2; clear HR250_2; clear HB; have HO_6 := n0_; have HO_8 := n1_; have HO_10 := n2_; have HO_72 := n3_; have HL250_2 := n4_; have HR250_2 := n5_; have HB := n6_; have BK251 := n7_; have GW251 := n8_; have GE251 := n9_; clear n0_ n1_ n2_ n3_ n4_ n5_ n6_ n7_ n8_ n9_; clear hb hbox hg; have hcz55_0 : w54.cell? ⟨gb251, 0, none⟩ = some (.int .i64 0) := (blk_cell BK251.out 0).trans rfl; have hcz55_1 : w54.cell? ⟨gb251, 1, none⟩ = some (.int .i64 0) := (blk_cell BK251.out 1).trans rfl; have hcz55_2 : w54.cell? ⟨gb251, 2, none⟩ = some (.slice none 0 0) := (blk_cell BK251.out 2).trans rfl; have hfz55_0 := blk_frozen BK251.out 0; have hfz55_1 := blk_frozen BK251.out 1; have hfz55_2 := blk_frozen BK251.out 2)); try go_wp2_with (first | ((with_reducible refine gate_dst (N := 12) rfl ?_); (try (refine gate_guard (by rfl) ?_; dsimp only)); refine box_event ?hg (N := 12) ?hd (cs := #[.int .i64 0, .int .i64 0, .slice none 0 0]) (t := 35) ?hr ?_; (case hd => rfl); (case hg => rfl); (case hr => first | (go_simp; done) | (go_simp; rfl)); intro gb251 hg w54 hbox hb; have n0_ := Aside0.mk (Kd.S_below (Kd.S_elderB (by (with_reducible repeat (first | apply Kd.S_alloc | apply Kd.S_drewN | apply Kd.S_drew)); exact HO_6.out) gb251 (Nat.le_of_eq hg.symm)) hb); have n1_ := Aside0.mk (Kd.R_below (by (with_reducible repeat (first | apply Kd.R_alloc | apply Kd.R_drewN | apply Kd.R_drew)); exact HO_8.out) hb); have n2_ := Aside0.mk (Kd.R_below (by (with_reducible repeat (first | apply Kd.R_alloc | apply Kd.R_drewN | apply Kd.R_drew)); exact HO_10.out) hb); have n3_ := Aside0.mk (Kd.S_below (Kd.S_elderB (by (with_reducible repeat (first | apply Kd.S_alloc | apply Kd.S_drewN | apply Kd.S_drew)); exact HO_72.out) gb251 (Nat.le_of_eq hg.symm)) hb); have n4_ := Aside0.mk (Kd.R_below (by (with_reducible repeat (first | apply Kd.R_alloc | apply Kd.R_drewN | apply Kd.R_drew)); exact HL250_2.out) hb); have n5_ := Aside0.mk (Kd.C_below (by repeat (first | (with_reducible exact HR250_2.out) | (with_reducible refine Kd.C_alloc ?_ _) | (with_reducible refine Kd.C_drewN ?_ _) | (with_reducible refine Kd.C_drew ?_) | exact HR250_2.out)) hb); have n6_ := Aside0.mk (below_step (by repeat (first | (with_reducible first | exact HB.out | apply below_alloc | apply pw_below_drewN | apply below_drew1) | exact HB.out)) hb); have n7_ := Aside0.mk (hbox); have n8_ := Aside0.mk ((by rw [hg]; exact (below_size (by repeat (first | (with_reducible first | exact HB.out | apply below_alloc | apply pw_below_drewN | apply below_drew1) | exact HB.out))) : w.heap.size ≤ gb251)); have n9_ := Aside0.mk ((by rw [hg]; exact (below_size (by repeat (first | (with_reducible first | exact HB.out | apply below_alloc | apply pw_below_drewN | apply below_drew1) | exact HB.out))) : w.heap.size ≤ gb251)); clear HO_6; clear HO_8; clear HO_10; clear HO_72; clear HL250_2; clear HR250_2; clear HB; have HO_6 := n0_; have HO_8 := n1_; have HO_10 := n2_; have HO_72 := n3_; have HL250_2 := n4_; have HR250_2 := n5_; have HB := n6_; have BK251 := n7_; have GW251 := n8_; have GE251 := n9_; clear n0_ n1_ n2_ n3_ n4_ n5_ n6_ n7_ n8_ n9_; clear hb hbox hg; have hcz55_0 : w54.cell? ⟨gb251, 0, none⟩ = some (.int .i64 0) := (blk_cell BK251.out 0).trans rfl; have hcz55_1 : w54.cell? ⟨gb251, 1, none⟩ = some (.int .i64 0) := (blk_cell BK251.out 1).trans rfl; have hcz55_2 : w54.cell? ⟨gb251, 2, none⟩ = some (.slice none 0 0) := (blk_cell BK251.out 2).trans rfl; have hfz55_0 := blk_frozen BK251.out 0; have hfz55_1 := blk_frozen BK251.out 1; have hfz55_2 := blk_frozen BK251.out 2)))
                                    go_loopg [82] k4 (fun kq v82 w' => ∃ (x82_5 : Int), v82 = .int .i64 x82_5 ∧ Aside0 (provisolaw05_FlowAhead.l2 kq t230 x8_3 t247 x74_4 t230 (t230.length : Int) x74_4 ((rd_T35 t230 x74_4).f2) (((rd_T35 t230 x74_4).f2).length : Int) x82_5 ((rd_T35 t230 x74_4).f0) ((rd_T35 t230 x74_4).f1) ((rd_T35 t230 x74_4).f2) = some r) ∧ Aside0 (kq ≤ k4) ∧ Aside0 (Kd.S k35 35 w' w.heap.size (fun k_ => some k_ ≠ ((.slice Ao32 x8_3.length co32) : Value).ownBlock ∧ some k_ ≠ (v248 : Value).ownBlock ∧ k_ ≠ gb251) (.slice (some ad250) t230.length co29) t230) ∧ Aside0 (Kd.R (Kd.int .i64) 3 w' w.heap.size (fun k_ => some k_ ≠ (v248 : Value).ownBlock) (.slice Ao32 x8_3.length co32) x8_3) ∧ Aside0 (Kd.R (Kd.int .i64) 3 w' w.heap.size (fun k_ => some k_ ≠ ((.slice Ao32 x8_3.length co32) : Value).ownBlock) v248 t247) ∧ Aside0 (Kd.S k35 35 w' w.heap.size (fun k_ => some k_ ≠ ((.slice Ao32 x8_3.length co32) : Value).ownBlock ∧ some k_ ≠ (v248 : Value).ownBlock ∧ k_ ≠ gb251) (.slice (some ad250) t230.length co29) t230) ∧ Aside0 (w'.heap[gb251]? = some (.cells #[.int .i64 ((rd_T35 t230 x74_4).f0), .int .i64 ((rd_T35 t230 x74_4).f1), (.slice A250_2 ((rd_T35 t230 x74_4).f2).length c250_2)] 35 (0, 0))) ∧ Aside0 (Kd.C (Kd.int .i64) w' A250_2 ((rd_T35 t230 x74_4).f2).length ((rd_T35 t230 x74_4).f2)) ∧ Aside0 (Below w.heap.size w w'))
                                    case atStart => exact ⟨(0), (by first | rfl | (simp; done) | (simp [*]; done)), H', ⟨Nat.le_refl _⟩, ⟨by (try simp only [hl8_3]); (with_reducible repeat (first | apply Kd.S_alloc | apply Kd.S_drewN | apply Kd.S_drew)); exact Kd.S_mono (Kd.S_far (p := ⟨gb251, 2, none⟩) (Kd.S_far (p := ⟨gb251, 1, none⟩) (Kd.S_far (p := ⟨gb251, 0, none⟩) (Kd.S_mono HO_6.out (fun k_ hk => (⟨hk, hk.2⟩ : _ ∧ k_ ≠ gb251))) (fun _ hk => hk.2) (.int .i64 ((rd_T35 t230 x74_4).f0))) (fun _ hk => hk.2) (.int .i64 ((rd_T35 t230 x74_4).f1))) (fun _ hk => hk.2) (.slice A250_2 ((rd_T35 t230 x74_4).f2).length c250_2)) (fun _ hk => ⟨hk.1.1.1, ⟨hk.1.1.2, hk.1.2⟩⟩)⟩, ⟨by (try simp only [hl8_3]); (with_reducible repeat (first | apply Kd.R_alloc | apply Kd.R_drewN | apply Kd.R_drew)); exact Kd.R_mono (Kd.R_far (p := ⟨gb251, 2, none⟩) (Kd.R_far (p := ⟨gb251, 1, none⟩) (Kd.R_far (p := ⟨gb251, 0, none⟩) (Kd.R_types HO_8.out BK251.out (by decide)) (fun _ hk => hk.2) (.int .i64 ((rd_T35 t230 x74_4).f0))) (fun _ hk => hk.2) (.int .i64 ((rd_T35 t230 x74_4).f1))) (fun _ hk => hk.2) (.slice A250_2 ((rd_T35 t230 x74_4).f2).length c250_2)) (fun _ hk => hk.1)⟩, ⟨by (try simp only [hl8_3]); (with_reducible repeat (first | apply Kd.R_alloc | apply Kd.R_drewN | apply Kd.R_drew)); exact Kd.R_mono (Kd.R_far (p := ⟨gb251, 2, none⟩) (Kd.R_far (p := ⟨gb251, 1, none⟩) (Kd.R_far (p := ⟨gb251, 0, none⟩) (Kd.R_types HO_10.out BK251.out (by decide)) (fun _ hk => hk.2) (.int .i64 ((rd_T35 t230 x74_4).f0))) (fun _ hk => hk.2) (.int .i64 ((rd_T35 t230 x74_4).f1))) (fun _ hk => hk.2) (.slice A250_2 ((rd_T35 t230 x74_4).f2).length c250_2)) (fun _ hk => hk.1)⟩, ⟨by (try simp only [hl8_3]); (with_reducible repeat (first | apply Kd.S_alloc | apply Kd.S_drewN | apply Kd.S_drew)); exact Kd.S_mono (Kd.S_far (p := ⟨gb251, 2, none⟩) (Kd.S_far (p := ⟨gb251, 1, none⟩) (Kd.S_far (p := ⟨gb251, 0, none⟩) (Kd.S_mono HO_72.out (fun k_ hk => (⟨hk, hk.2⟩ : _ ∧ k_ ≠ gb251))) (fun _ hk => hk.2) (.int .i64 ((rd_T35 t230 x74_4).f0))) (fun _ hk => hk.2) (.int .i64 ((rd_T35 t230 x74_4).f1))) (fun _ hk => hk.2) (.slice A250_2 ((rd_T35 t230 x74_4).f2).length c250_2)) (fun _ hk => ⟨hk.1.1.1, ⟨hk.1.1.2, hk.1.2⟩⟩)⟩, ⟨by (try simp only [hl8_3]); (with_reducible repeat (first | refine blk_drewN ?_ _ | refine blk_drew ?_ | refine blk_alloc ?_ _)); refine blk_put (cs := #[.int .i64 ((rd_T35 t230 x74_4).f0), .int .i64 ((rd_T35 t230 x74_4).f1), .slice none 0 0]) ?_ 2 _ rfl; (with_reducible repeat (first | refine blk_drewN ?_ _ | refine blk_drew ?_ | refine blk_alloc ?_ _)); refine blk_put (cs := #[.int .i64 ((rd_T35 t230 x74_4).f0), .int .i64 0, .slice none 0 0]) ?_ 1 _ rfl; (with_reducible repeat (first | refine blk_drewN ?_ _ | refine blk_drew ?_ | refine blk_alloc ?_ _)); refine blk_put (cs := #[.int .i64 0, .int .i64 0, .slice none 0 0]) ?_ 0 _ rfl; (with_reducible repeat (first | refine blk_drewN ?_ _ | refine blk_drew ?_ | refine blk_alloc ?_ _)); exact BK251.out⟩, ⟨(Kd.R_reads' (by (with_reducible repeat (first | apply Kd.R_alloc | apply Kd.R_drewN | apply Kd.R_drew)); exact (Kd.R_mono (Kd.R_far (p := ⟨gb251, 2, none⟩) (Kd.R_far (p := ⟨gb251, 1, none⟩) (Kd.R_far (p := ⟨gb251, 0, none⟩) (Kd.R_types HL250_2.out BK251.out (by decide)) (fun _ hk => hk.2) (.int .i64 ((rd_T35 t230 x74_4).f0))) (fun _ hk => hk.2) (.int .i64 ((rd_T35 t230 x74_4).f1))) (fun _ hk => hk.2) (.slice A250_2 ((rd_T35 t230 x74_4).f2).length c250_2)) (fun _ h_ => h_.1)))).2.2⟩, ⟨by repeat (first | (with_reducible first | exact HB.out | apply below_alloc | apply pw_below_drewN | apply below_drew1 | refine below_set ?_ GE251.out) | exact HB.out)⟩⟩
                                    case round =>
                                      clear H'
                                      try clear c2
                                      try clear p2
                                      try clear q2
                                      try clear hx2
                                      try clear qi2
                                      try clear c3
                                      try clear p3
                                      try clear q3
                                      try clear hx3
                                      try clear hf3
                                      try clear c4
                                      try clear c5
                                      try clear c5b0
                                      try clear c5b1
                                      try clear p6
                                      try clear c7
                                      try clear c20
                                      try clear c20b0
                                      try clear c20b1
                                      try clear c20b2
                                      try clear c21
                                      try clear c21b0
                                      try clear c21b1
                                      try clear p23
                                      try clear q23
                                      try clear hx23
                                      try clear qi23
                                      try clear p24
                                      try clear q24
                                      try clear hx24
                                      try clear c25
                                      try clear p25
                                      try clear q25
                                      try clear hx25
                                      try clear c26
                                      try clear c27
                                      try clear c27b0
                                      try clear c27b1
                                      try clear c28
                                      try clear c28b0
                                      try clear c28b1
                                      try clear c33
                                      try clear c33b0
                                      try clear c35
                                      try clear c35b0
                                      try clear c36
                                      try clear c36b0
                                      try clear p37
                                      try clear q37
                                      try clear hx37
                                      try clear hf37
                                      try clear c38
                                      try clear c38b0
                                      try clear c46
                                      try clear c51
                                      try clear c51b0
                                      try clear c52
                                      try clear c52b0
                                      try clear c53
                                      try clear c53b0
                                      try clear hcz55_0
                                      try clear hcz55_1
                                      try clear hcz55_2
                                      try clear hfz55_0
                                      try clear hfz55_1
                                      try clear hfz55_2
                                      try clear hx239_0
                                      try clear hx245_0
                                      try clear hx250_0
                                      try clear hx250_1
                                      try clear hx250_2
                                      try clear hx37_0
                                      try clear p2
                                      try clear p23
                                      try clear p239
                                      try clear p24
                                      try clear p245
                                      try clear p250
                                      try clear p3
                                      try clear p37
                                      try clear p6
                                      try clear q2
                                      try clear q23
                                      try clear q239
                                      try clear q24
                                      try clear q245
                                      try clear q250
                                      try clear q3
                                      try clear q37
                                      obtain ⟨x82_5, rfl, HA, HK5, HO_6, HO_8, HO_10, HO_72, BK251, HR250_2, HB⟩ := hrel
                                      cases gk with
                                      | zero => exact absurd HA.out (by simp [provisolaw05_FlowAhead.l2])
                                      | succ k5 =>
                                        have H := HA.out
                                        clear HA
                                        simp only [provisolaw05_FlowAhead.l2] at H
                                        by_cases c56 : x82_5 < (((rd_T35 t230 x74_4).f2).length : Int)
                                        · rw [if_pos c56] at H
                                          have c56b0 : decide (x82_5 < (((rd_T35 t230 x74_4).f2).length : Int)) = true := decide_eq_true c56
                                          (try rw [hl8_3] at c56b0)
                                          clear c56
                                          by_cases c57 : 0 ≤ x82_5
                                          · rw [if_pos c57] at H
                                            have c57b0 : decide (0 ≤ x82_5) = true := decide_eq_true c57
                                            (try rw [hl8_3] at c57b0)
                                            clear c57
                                            by_cases c58 : x82_5 < (((rd_T35 t230 x74_4).f2).length : Int)
                                            · rw [if_pos c58] at H
                                              have c58b0 : decide (x82_5 < (((rd_T35 t230 x74_4).f2).length : Int)) = true := decide_eq_true c58
                                              (try rw [hl8_3] at c58b0)
                                              clear c58
                                              replace H := Option.bind_eq_some_iff.mp H
                                              obtain ⟨t253, A590, H⟩ := H
                                              replace H : ((slices_Contains_int_int.f k5 t247 ((rd_T35 t230 x74_4).f0)).bind fun t254 => (if t254 = true then (if t253 ≥ 0 then (if 0 ≤ t253 then (if t253 < (x8_3.length : Int) then (if 0 ≤ x74_4 then (if x74_4 < (x8_3.length : Int) then (if (rd x8_3 t253) < (rd x8_3 x74_4) then (some false) else (provisolaw05_FlowAhead.l2 k5 t230 x8_3 t247 x74_4 t230 (t230.length : Int) x74_4 ((rd_T35 t230 x74_4).f2) (((rd_T35 t230 x74_4).f2).length : Int) (wrap64 (x82_5 + 1)) ((rd_T35 t230 x74_4).f0) ((rd_T35 t230 x74_4).f1) ((rd_T35 t230 x74_4).f2))) else (none)) else (none)) else (none)) else (none)) else (provisolaw05_FlowAhead.l2 k5 t230 x8_3 t247 x74_4 t230 (t230.length : Int) x74_4 ((rd_T35 t230 x74_4).f2) (((rd_T35 t230 x74_4).f2).length : Int) (wrap64 (x82_5 + 1)) ((rd_T35 t230 x74_4).f0) ((rd_T35 t230 x74_4).f1) ((rd_T35 t230 x74_4).f2))) else (provisolaw05_FlowAhead.l2 k5 t230 x8_3 t247 x74_4 t230 (t230.length : Int) x74_4 ((rd_T35 t230 x74_4).f2) (((rd_T35 t230 x74_4).f2).length : Int) (wrap64 (x82_5 + 1)) ((rd_T35 t230 x74_4).f0) ((rd_T35 t230 x74_4).f1) ((rd_T35 t230 x74_4).f2)))) = some r := H
                                              have A59 := Aside0.mk A590
                                              clear A590
                                              replace H := Option.bind_eq_some_iff.mp H
                                              obtain ⟨t254, A600, H⟩ := H
                                              replace H : (if t254 = true then (if t253 ≥ 0 then (if 0 ≤ t253 then (if t253 < (x8_3.length : Int) then (if 0 ≤ x74_4 then (if x74_4 < (x8_3.length : Int) then (if (rd x8_3 t253) < (rd x8_3 x74_4) then (some false) else (provisolaw05_FlowAhead.l2 k5 t230 x8_3 t247 x74_4 t230 (t230.length : Int) x74_4 ((rd_T35 t230 x74_4).f2) (((rd_T35 t230 x74_4).f2).length : Int) (wrap64 (x82_5 + 1)) ((rd_T35 t230 x74_4).f0) ((rd_T35 t230 x74_4).f1) ((rd_T35 t230 x74_4).f2))) else (none)) else (none)) else (none)) else (none)) else (provisolaw05_FlowAhead.l2 k5 t230 x8_3 t247 x74_4 t230 (t230.length : Int) x74_4 ((rd_T35 t230 x74_4).f2) (((rd_T35 t230 x74_4).f2).length : Int) (wrap64 (x82_5 + 1)) ((rd_T35 t230 x74_4).f0) ((rd_T35 t230 x74_4).f1) ((rd_T35 t230 x74_4).f2))) else (provisolaw05_FlowAhead.l2 k5 t230 x8_3 t247 x74_4 t230 (t230.length : Int) x74_4 ((rd_T35 t230 x74_4).f2) (((rd_T35 t230 x74_4).f2).length : Int) (wrap64 (x82_5 + 1)) ((rd_T35 t230 x74_4).f0) ((rd_T35 t230 x74_4).f1) ((rd_T35 t230 x74_4).f2))) = some r := H
                                              have A60 := Aside0.mk A600
                                              clear A600
                                              by_cases c61 : t254 = true
                                              · subst c61
                                                have H1 : (if t253 ≥ 0 then (if 0 ≤ t253 then (if t253 < (x8_3.length : Int) then (if 0 ≤ x74_4 then (if x74_4 < (x8_3.length : Int) then (if (rd x8_3 t253) < (rd x8_3 x74_4) then (some false) else (provisolaw05_FlowAhead.l2 k5 t230 x8_3 t247 x74_4 t230 (t230.length : Int) x74_4 ((rd_T35 t230 x74_4).f2) (((rd_T35 t230 x74_4).f2).length : Int) (wrap64 (x82_5 + 1)) ((rd_T35 t230 x74_4).f0) ((rd_T35 t230 x74_4).f1) ((rd_T35 t230 x74_4).f2))) else (none)) else (none)) else (none)) else (none)) else (provisolaw05_FlowAhead.l2 k5 t230 x8_3 t247 x74_4 t230 (t230.length : Int) x74_4 ((rd_T35 t230 x74_4).f2) (((rd_T35 t230 x74_4).f2).length : Int) (wrap64 (x82_5 + 1)) ((rd_T35 t230 x74_4).f0) ((rd_T35 t230 x74_4).f1) ((rd_T35 t230 x74_4).f2))) = some r := by rw [if_pos rfl] at H; exact H
                                                clear H
                                                have H := H1
                                                clear H1
                                                by_cases c62 : t253 ≥ 0
                                                · rw [if_pos c62] at H
                                                  have c62b0 : decide (0 ≤ t253) = true := decide_eq_true c62
                                                  (try rw [hl8_3] at c62b0)
                                                  clear c62
                                                  by_cases c63 : 0 ≤ t253
                                                  · rw [if_pos c63] at H
                                                    have c63b0 : decide (0 ≤ t253) = true := decide_eq_true c63
                                                    (try rw [hl8_3] at c63b0)
                                                    clear c63
                                                    by_cases c64 : t253 < (x8_3.length : Int)
                                                    · rw [if_pos c64] at H
                                                      have c64b0 : decide (t253 < (x8_3.length : Int)) = true := decide_eq_true c64
                                                      (try rw [hl8_3] at c64b0)
                                                      clear c64
                                                      by_cases c65 : 0 ≤ x74_4
                                                      · rw [if_pos c65] at H
                                                        have c65b0 : decide (0 ≤ x74_4) = true := decide_eq_true c65
                                                        (try rw [hl8_3] at c65b0)
                                                        clear c65
                                                        by_cases c66 : x74_4 < (x8_3.length : Int)
                                                        · rw [if_pos c66] at H
                                                          have c66b0 : decide (x74_4 < (x8_3.length : Int)) = true := decide_eq_true c66
                                                          (try rw [hl8_3] at c66b0)
                                                          clear c66
                                                          by_cases c67 : (rd x8_3 t253) < (rd x8_3 x74_4)
                                                          · rw [if_pos c67] at H
                                                            have c67b0 : decide ((rd x8_3 t253) < (rd x8_3 x74_4)) = true := decide_eq_true c67
                                                            (try rw [hl8_3] at c67b0)
                                                            clear c67
                                                            obtain rfl := Option.some.inj H
                                                            have p252 : 0 ≤ (x82_5 : Int) := of_decide_eq_true (by first | (with_reducible assumption) | assumption)
                                                            have q252 : x82_5 < (((rd_T35 t230 x74_4).f2).length : Int) := of_decide_eq_true (by first | (with_reducible assumption) | assumption)
                                                            obtain ⟨ad252, e252, hx252_0⟩ := Kd.at_int HR250_2.out x82_5 p252 q252
                                                            cases e252
                                                            first | replace hx252_0 := (HB.out.cell (World.block_lt_of_cell? w _ hx252_0)).trans hx252_0 | skip
                                                            replace p252 := eq_true p252
                                                            replace q252 := eq_true q252
                                                            go_wp2_with (first | (go_at_call 19; (with_reducible refine (provisolaw05_from.calls k5 _ _ t230 (rd ((rd_T35 t230 x74_4).f2) x82_5) t253 _ ?side1 ?side2 A59.out).mono ?_); (case side1 => repeat (first | exact (Kd.S_reads' HO_6.out).2.2 | (with_reducible refine Kd.C_alloc ?_ _) | (with_reducible refine Kd.C_drewN ?_ _) | (with_reducible refine Kd.C_drew ?_))); (case side2 => exact (Kd.S_reads' HO_6.out).2.1); rintro e w68 ⟨rfl, hb⟩; have n0_ := Aside0.mk (Kd.S_below (by (with_reducible repeat (first | apply Kd.S_alloc | apply Kd.S_drewN | apply Kd.S_drew)); exact HO_6.out) hb); have n1_ := Aside0.mk (Kd.R_below (by (with_reducible repeat (first | apply Kd.R_alloc | apply Kd.R_drewN | apply Kd.R_drew)); exact HO_8.out) hb); have n2_ := Aside0.mk (Kd.R_below (by (with_reducible repeat (first | apply Kd.R_alloc | apply Kd.R_drewN | apply Kd.R_drew)); exact HO_10.out) hb); have n3_ := Aside0.mk (Kd.S_below (by (with_reducible repeat (first | apply Kd.S_alloc | apply Kd.S_drewN | apply Kd.S_drew)); exact HO_72.out) hb); have n4_ := Aside0.mk (blk_below (g := gb251) (o := .cells #[.int .i64 ((rd_T35 t230 x74_4).f0), .int .i64 ((rd_T35 t230 x74_4).f1), .slice (some ad252) ((rd_T35 t230 x74_4).f2).length c250_2] 35 (0, 0)) (by (with_reducible repeat (first | refine blk_drewN ?_ _ | refine blk_drew ?_ | refine blk_alloc ?_ _)); exact BK251.out) hb); have n5_ := Aside0.mk (Kd.C_below (by repeat (first | (with_reducible exact HR250_2.out) | (with_reducible refine Kd.C_alloc ?_ _) | (with_reducible refine Kd.C_drewN ?_ _) | (with_reducible refine Kd.C_drew ?_) | exact HR250_2.out)) hb); have n6_ := Aside0.mk (below_step (by repeat (first | (with_reducible first | exact HB.out | apply below_alloc | apply pw_below_drewN | apply below_drew1 | refine below_set ?_ GE251.out) | exact HB.out)) hb); clear HO_6; clear HO_8; clear HO_10; clear HO_72; clear BK251; clear HR250_2; clear HB; have HO_6 := n0_; have HO_8 := n1_; have HO_10 := n2_; have HO_72 := n3_; have BK251 := n4_; have HR250_2 := n5_; have HB := n6_; clear n0_ n1_ n2_ n3_ n4_ n5_ n6_; (try clear hb); (try clear hb2); (try clear hk); (try clear hi); have hcz69_0 : w68.cell? ⟨gb251, 0, none⟩ = some (.int .i64 ((rd_T35 t230 x74_4).f0)) := (blk_cell BK251.out 0).trans rfl; have hcz69_1 : w68.cell? ⟨gb251, 1, none⟩ = some (.int .i64 ((rd_T35 t230 x74_4).f1)) := (blk_cell BK251.out 1).trans rfl; have hcz69_2 : w68.cell? ⟨gb251, 2, none⟩ = some (.slice (some ad252) ((rd_T35 t230 x74_4).f2).length c250_2) := (blk_cell BK251.out 2).trans rfl; have hfz69_0 := blk_frozen BK251.out 0; have hfz69_1 := blk_frozen BK251.out 1; have hfz69_2 := blk_frozen BK251.out 2; obtain ⟨Ao70, co70, eo70⟩ := Kd.R_slice HO_10.out; subst eo70) | (go_at_call 20; (with_reducible refine (slices_Contains_int_int.calls k5 _ _ t247 ((rd_T35 t230 x74_4).f0) true _ ?side1 ?side2 A60.out).mono ?_); (case side1 => repeat (first | exact (Kd.R_reads' HO_10.out).2.2 | (with_reducible refine Kd.C_alloc ?_ _) | (with_reducible refine Kd.C_drewN ?_ _) | (with_reducible refine Kd.C_drew ?_))); (case side2 => exact (Kd.R_reads' HO_10.out).2.1); rintro e w' ⟨rfl, ⟨nd, rfl⟩⟩; (try first | exact ⟨rfl, _, World.drewN_drewN _ _ _⟩ | exact ⟨rfl, _, Eq.trans (World.drewN_drewN _ _ _) (congrArg (World.drewN _) (Nat.add_assoc _ _ _))⟩); have p255 : 0 ≤ (t253 : Int) := of_decide_eq_true (by first | (with_reducible assumption) | assumption); have q255 : t253 < (x8_3.length : Int) := of_decide_eq_true (by first | (with_reducible assumption) | assumption); obtain ⟨ad255, e255, hx255_0⟩ := Kd.at_int (Kd.R_reads' HO_8.out).2.2 t253 p255 q255; cases e255; replace p255 := eq_true p255; replace q255 := eq_true q255; have p256 : 0 ≤ (x74_4 : Int) := of_decide_eq_true (by first | (with_reducible assumption) | assumption); have q256 : x74_4 < (x8_3.length : Int) := of_decide_eq_true (by first | (with_reducible assumption) | assumption); obtain ⟨ad256, e256, hx256_0⟩ := Kd.at_int (Kd.R_reads' HO_8.out).2.2 x74_4 p256 q256; obtain rfl : ad255 = ad256 := (by injection e256); replace p256 := eq_true p256; replace q256 := eq_true q256))
                                                            repeat (go_quiet (first | (go_at_call 19; (with_reducible refine (provisolaw05_from.calls k5 _ _ t230 (rd ((rd_T35 t230 x74_4).f2) x82_5) t253 _ ?side1 ?side2 A59.out).mono ?_); (case side1 => repeat (first | exact (Kd.S_reads' HO_6.out).2.2 | (with_reducible refine Kd.C_alloc ?_ _) | (with_reducible refine Kd.C_drewN ?_ _) | (with_reducible refine Kd.C_drew ?_))); (case side2 => exact (Kd.S_reads' HO_6.out).2.1); rintro e w68 ⟨rfl, hb⟩; have n0_ := Aside0.mk (Kd.S_below (by (with_reducible repeat (first | apply Kd.S_alloc | apply Kd.S_drewN | apply Kd.S_drew)); exact HO_6.out) hb); have n1_ := Aside0.mk (Kd.R_below (by (with_reducible repeat (first | apply Kd.R_alloc | apply Kd.R_drewN | apply Kd.R_drew)); exact HO_8.out) hb); have n2_ := Aside0.mk (Kd.R_below (by (with_reducible repeat (first | apply Kd.R_alloc | apply Kd.R_drewN | apply Kd.R_drew)); exact HO_10.out) hb); have n3_ := Aside0.mk (Kd.S_below (by (with_reducible repeat (first | apply Kd.S_alloc | apply Kd.S_drewN | apply Kd.S_drew)); exact HO_72.out) hb); have n4_ := Aside0.mk (blk_below (g := gb251) (o := .cells #[.int .i64 ((rd_T35 t230 x74_4).f0), .int .i64 ((rd_T35 t230 x74_4).f1), .slice (some ad252) ((rd_T35 t230 x74_4).f2).length c250_2] 35 (0, 0)) (by (with_reducible repeat (first | refine blk_drewN ?_ _ | refine blk_drew ?_ | refine blk_alloc ?_ _)); exact BK251.out) hb); have n5_ := Aside0.mk (Kd.C_below (by repeat (first | (with_reducible exact HR250_2.out) | (with_reducible refine Kd.C_alloc ?_ _) | (with_reducible refine Kd.C_drewN ?_ _) | (with_reducible refine Kd.C_drew ?_) | exact HR250_2.out)) hb); have n6_ := Aside0.mk (below_step (by repeat (first | (with_reducible first | exact HB.out | apply below_alloc | apply pw_below_drewN | apply below_drew1 | refine below_set ?_ GE251.out) | exact HB.out)) hb); clear HO_6; clear HO_8; clear HO_10; clear HO_72; clear BK251; clear HR250_2; clear HB; have HO_6 := n0_; have HO_8 := n1_; have HO_10 := n2_; have HO_72 := n3_; have BK251 := n4_; have HR250_2 := n5_; have HB := n6_; clear n0_ n1_ n2_ n3_ n4_ n5_ n6_; (try clear hb); (try clear hb2); (try clear hk); (try clear hi); have hcz69_0 : w68.cell? ⟨gb251, 0, none⟩ = some (.int .i64 ((rd_T35 t230 x74_4).f0)) := (blk_cell BK251.out 0).trans rfl; have hcz69_1 : w68.cell? ⟨gb251, 1, none⟩ = some (.int .i64 ((rd_T35 t230 x74_4).f1)) := (blk_cell BK251.out 1).trans rfl; have hcz69_2 : w68.cell? ⟨gb251, 2, none⟩ = some (.slice (some ad252) ((rd_T35 t230 x74_4).f2).length c250_2) := (blk_cell BK251.out 2).trans rfl; have hfz69_0 := blk_frozen BK251.out 0; have hfz69_1 := blk_frozen BK251.out 1; have hfz69_2 := blk_frozen BK251.out 2; obtain ⟨Ao70, co70, eo70⟩ := Kd.R_slice HO_10.out; subst eo70) | (go_at_call 20; (with_reducible refine (slices_Contains_int_int.calls k5 _ _ t247 ((rd_T35 t230 x74_4).f0) true _ ?side1 ?side2 A60.out).mono ?_); (case side1 => repeat (first | exact (Kd.R_reads' HO_10.out).2.2 | (with_reducible refine Kd.C_alloc ?_ _) | (with_reducible refine Kd.C_drewN ?_ _) | (with_reducible refine Kd.C_drew ?_))); (case side2 => exact (Kd.R_reads' HO_10.out).2.1); rintro e w' ⟨rfl, ⟨nd, rfl⟩⟩; (try first | exact ⟨rfl, _, World.drewN_drewN _ _ _⟩ | exact ⟨rfl, _, Eq.trans (World.drewN_drewN _ _ _) (congrArg (World.drewN _) (Nat.add_assoc _ _ _))⟩); have p255 : 0 ≤ (t253 : Int) := of_decide_eq_true (by first | (with_reducible assumption) | assumption); have q255 : t253 < (x8_3.length : Int) := of_decide_eq_true (by first | (with_reducible assumption) | assumption); obtain ⟨ad255, e255, hx255_0⟩ := Kd.at_int (Kd.R_reads' HO_8.out).2.2 t253 p255 q255; cases e255; replace p255 := eq_true p255; replace q255 := eq_true q255; have p256 : 0 ≤ (x74_4 : Int) := of_decide_eq_true (by first | (with_reducible assumption) | assumption); have q256 : x74_4 < (x8_3.length : Int) := of_decide_eq_true (by first | (with_reducible assumption) | assumption); obtain ⟨ad256, e256, hx256_0⟩ := Kd.at_int (Kd.R_reads' HO_8.out).2.2 x74_4 p256 q256; obtain rfl : ad255 = ad256 := (by injection e256); replace p256 := eq_true p256; replace q256 := eq_true q256)); try go_wp2_with (first | (go_at_call 19; (with_reducible refine (provisolaw05_from.calls k5 _ _ t230 (rd ((rd_T35 t230 x74_4).f2) x82_5) t253 _ ?side1 ?side2 A59.out).mono ?_); (case side1 => repeat (first | exact (Kd.S_reads' HO_6.out).2.2 | (with_reducible refine Kd.C_alloc ?_ _) | (with_reducible refine Kd.C_drewN ?_ _) | (with_reducible refine Kd.C_drew ?_))); (case side2 => exact (Kd.S_reads' HO_6.out).2.1); rintro e w68 ⟨rfl, hb⟩; have n0_ := Aside0.mk (Kd.S_below (by (with_reducible repeat (first | apply Kd.S_alloc | apply Kd.S_drewN | apply Kd.S_drew)); exact HO_6.out) hb); have n1_ := Aside0.mk (Kd.R_below (by (with_reducible repeat (first | apply Kd.R_alloc | apply Kd.R_drewN | apply Kd.R_drew)); exact HO_8.out) hb); have n2_ := Aside0.mk (Kd.R_below (by (with_reducible repeat (first | apply Kd.R_alloc | apply Kd.R_drewN | apply Kd.R_drew)); exact HO_10.out) hb); have n3_ := Aside0.mk (Kd.S_below (by (with_reducible repeat (first | apply Kd.S_alloc | apply Kd.S_drewN | apply Kd.S_drew)); exact HO_72.out) hb); have n4_ := Aside0.mk (blk_below (g := gb251) (o := .cells #[.int .i64 ((rd_T35 t230 x74_4).f0), .int .i64 ((rd_T35 t230 x74_4).f1), .slice (some ad252) ((rd_T35 t230 x74_4).f2).length c250_2] 35 (0, 0)) (by (with_reducible repeat (first | refine blk_drewN ?_ _ | refine blk_drew ?_ | refine blk_alloc ?_ _)); exact BK251.out) hb); have n5_ := Aside0.mk (Kd.C_below (by repeat (first | (with_reducible exact HR250_2.out) | (with_reducible refine Kd.C_alloc ?_ _) | (with_reducible refine Kd.C_drewN ?_ _) | (with_reducible refine Kd.C_drew ?_) | exact HR250_2.out)) hb); have n6_ := Aside0.mk (below_step (by repeat (first | (with_reducible first | exact HB.out | apply below_alloc | apply pw_below_drewN | apply below_drew1 | refine below_set ?_ GE251.out) | exact HB.out)) hb); clear HO_6; clear HO_8; clear HO_10; clear HO_72; clear BK251; clear HR250_2; clear HB; have HO_6 := n0_; have HO_8 := n1_; have HO_10 := n2_; have HO_72 := n3_; have BK251 := n4_; have HR250_2 := n5_; have HB := n6_; clear n0_ n1_ n2_ n3_ n4_ n5_ n6_; (try clear hb); (try clear hb2); (try clear hk); (try clear hi); have hcz69_0 : w68.cell? ⟨gb251, 0, none⟩ = some (.int .i64 ((rd_T35 t230 x74_4).f0)) := (blk_cell BK251.out 0).trans rfl; have hcz69_1 : w68.cell? ⟨gb251, 1, none⟩ = some (.int .i64 ((rd_T35 t230 x74_4).f1)) := (blk_cell BK251.out 1).trans rfl; have hcz69_2 : w68.cell? ⟨gb251, 2, none⟩ = some (.slice (some ad252) ((rd_T35 t230 x74_4).f2).length c250_2) := (blk_cell BK251.out 2).trans rfl; have hfz69_0 := blk_frozen BK251.out 0; have hfz69_1 := blk_frozen BK251.out 1; have hfz69_2 := blk_frozen BK251.out 2; obtain ⟨Ao70, co70, eo70⟩ := Kd.R_slice HO_10.out; subst eo70) | (go_at_call 20; (with_reducible refine (slices_Contains_int_int.calls k5 _ _ t247 ((rd_T35 t230 x74_4).f0) true _ ?side1 ?side2 A60.out).mono ?_); (case side1 => repeat (first | exact (Kd.R_reads' HO_10.out).2.2 | (with_reducible refine Kd.C_alloc ?_ _) | (with_reducible refine Kd.C_drewN ?_ _) | (with_reducible refine Kd.C_drew ?_))); (case side2 => exact (Kd.R_reads' HO_10.out).2.1); rintro e w' ⟨rfl, ⟨nd, rfl⟩⟩; (try first | exact ⟨rfl, _, World.drewN_drewN _ _ _⟩ | exact ⟨rfl, _, Eq.trans (World.drewN_drewN _ _ _) (congrArg (World.drewN _) (Nat.add_assoc _ _ _))⟩); have p255 : 0 ≤ (t253 : Int) := of_decide_eq_true (by first | (with_reducible assumption) | assumption); have q255 : t253 < (x8_3.length : Int) := of_decide_eq_true (by first | (with_reducible assumption) | assumption); obtain ⟨ad255, e255, hx255_0⟩ := Kd.at_int (Kd.R_reads' HO_8.out).2.2 t253 p255 q255; cases e255; replace p255 := eq_true p255; replace q255 := eq_true q255; have p256 : 0 ≤ (x74_4 : Int) := of_decide_eq_true (by first | (with_reducible assumption) | assumption); have q256 : x74_4 < (x8_3.length : Int) := of_decide_eq_true (by first | (with_reducible assumption) | assumption); obtain ⟨ad256, e256, hx256_0⟩ := Kd.at_int (Kd.R_reads' HO_8.out).2.2 x74_4 p256 q256; obtain rfl : ad255 = ad256 := (by injection e256); replace p256 := eq_true p256; replace q256 := eq_true q256)))
                                                            go_ret
                                                            exact ⟨by first | rfl | (simp [errW_none, errW_some] <;> rfl) | (simp [*, errW_none, errW_some] <;> rfl), by repeat (first | (with_reducible first | exact HB.out | apply below_alloc | apply pw_below_drewN | apply below_drew1 | refine below_set ?_ GE251.out) | exact HB.out)⟩
                                                          · rw [if_neg c67] at H
                                                            have c67b0 : decide ((rd x8_3 t253) < (rd x8_3 x74_4)) = false := decide_eq_false c67
                                                            (try rw [hl8_3] at c67b0)
                                                            clear c67
                                                            have H' := Aside0.mk H
                                                            clear H
                                                            have p252 : 0 ≤ (x82_5 : Int) := of_decide_eq_true (by first | (with_reducible assumption) | assumption)
                                                            have q252 : x82_5 < (((rd_T35 t230 x74_4).f2).length : Int) := of_decide_eq_true (by first | (with_reducible assumption) | assumption)
                                                            obtain ⟨ad252, e252, hx252_0⟩ := Kd.at_int HR250_2.out x82_5 p252 q252
                                                            cases e252
                                                            first | replace hx252_0 := (HB.out.cell (World.block_lt_of_cell? w _ hx252_0)).trans hx252_0 | skip
                                                            replace p252 := eq_true p252
                                                            replace q252 := eq_true q252
                                                            go_wp2_with (first | (go_at_call 19; (with_reducible refine (provisolaw05_from.calls k5 _ _ t230 (rd ((rd_T35 t230 x74_4).f2) x82_5) t253 _ ?side1 ?side2 A59.out).mono ?_); (case side1 => repeat (first | exact (Kd.S_reads' HO_6.out).2.2 | (with_reducible refine Kd.C_alloc ?_ _) | (with_reducible refine Kd.C_drewN ?_ _) | (with_reducible refine Kd.C_drew ?_))); (case side2 => exact (Kd.S_reads' HO_6.out).2.1); rintro e w71 ⟨rfl, hb⟩; have n0_ := Aside0.mk (Kd.S_below (by (with_reducible repeat (first | apply Kd.S_alloc | apply Kd.S_drewN | apply Kd.S_drew)); exact HO_6.out) hb); have n1_ := Aside0.mk (Kd.R_below (by (with_reducible repeat (first | apply Kd.R_alloc | apply Kd.R_drewN | apply Kd.R_drew)); exact HO_8.out) hb); have n2_ := Aside0.mk (Kd.R_below (by (with_reducible repeat (first | apply Kd.R_alloc | apply Kd.R_drewN | apply Kd.R_drew)); exact HO_10.out) hb); have n3_ := Aside0.mk (Kd.S_below (by (with_reducible repeat (first | apply Kd.S_alloc | apply Kd.S_drewN | apply Kd.S_drew)); exact HO_72.out) hb); have n4_ := Aside0.mk (blk_below (g := gb251) (o := .cells #[.int .i64 ((rd_T35 t230 x74_4).f0), .int .i64 ((rd_T35 t230 x74_4).f1), .slice (some ad252) ((rd_T35 t230 x74_4).f2).length c250_2] 35 (0, 0)) (by (with_reducible repeat (first | refine blk_drewN ?_ _ | refine blk_drew ?_ | refine blk_alloc ?_ _)); exact BK251.out) hb); have n5_ := Aside0.mk (Kd.C_below (by repeat (first | (with_reducible exact HR250_2.out) | (with_reducible refine Kd.C_alloc ?_ _) | (with_reducible refine Kd.C_drewN ?_ _) | (with_reducible refine Kd.C_drew ?_) | exact HR250_2.out)) hb); have n6_ := Aside0.mk (below_step (by repeat (first | (with_reducible first | exact HB.out | apply below_alloc | apply pw_below_drewN | apply below_drew1 | refine below_set ?_ GE251.out) | exact HB.out)) hb); clear HO_6; clear HO_8; clear HO_10; clear HO_72; clear BK251; clear HR250_2; clear HB; have HO_6 := n0_; have HO_8 := n1_; have HO_10 := n2_; have HO_72 := n3_; have BK251 := n4_; have HR250_2 := n5_; have HB := n6_; clear n0_ n1_ n2_ n3_ n4_ n5_ n6_; (try clear hb); (try clear hb2); (try clear hk); (try clear hi); have hcz72_0 : w71.cell? ⟨gb251, 0, none⟩ = some (.int .i64 ((rd_T35 t230 x74_4).f0)) := (blk_cell BK251.out 0).trans rfl; have hcz72_1 : w71.cell? ⟨gb251, 1, none⟩ = some (.int .i64 ((rd_T35 t230 x74_4).f1)) := (blk_cell BK251.out 1).trans rfl; have hcz72_2 : w71.cell? ⟨gb251, 2, none⟩ = some (.slice (some ad252) ((rd_T35 t230 x74_4).f2).length c250_2) := (blk_cell BK251.out 2).trans rfl; have hfz72_0 := blk_frozen BK251.out 0; have hfz72_1 := blk_frozen BK251.out 1; have hfz72_2 := blk_frozen BK251.out 2; obtain ⟨Ao73, co73, eo73⟩ := Kd.R_slice HO_10.out; subst eo73) | (go_at_call 20; (with_reducible refine (slices_Contains_int_int.calls k5 _ _ t247 ((rd_T35 t230 x74_4).f0) true _ ?side1 ?side2 A60.out).mono ?_); (case side1 => repeat (first | exact (Kd.R_reads' HO_10.out).2.2 | (with_reducible refine Kd.C_alloc ?_ _) | (with_reducible refine Kd.C_drewN ?_ _) | (with_reducible refine Kd.C_drew ?_))); (case side2 => exact (Kd.R_reads' HO_10.out).2.1); rintro e w' ⟨rfl, ⟨nd, rfl⟩⟩; (try first | exact ⟨rfl, _, World.drewN_drewN _ _ _⟩ | exact ⟨rfl, _, Eq.trans (World.drewN_drewN _ _ _) (congrArg (World.drewN _) (Nat.add_assoc _ _ _))⟩); have p255 : 0 ≤ (t253 : Int) := of_decide_eq_true (by first | (with_reducible assumption) | assumption); have q255 : t253 < (x8_3.length : Int) := of_decide_eq_true (by first | (with_reducible assumption) | assumption); obtain ⟨ad255, e255, hx255_0⟩ := Kd.at_int (Kd.R_reads' HO_8.out).2.2 t253 p255 q255; cases e255; replace p255 := eq_true p255; replace q255 := eq_true q255; have p256 : 0 ≤ (x74_4 : Int) := of_decide_eq_true (by first | (with_reducible assumption) | assumption); have q256 : x74_4 < (x8_3.length : Int) := of_decide_eq_true (by first | (with_reducible assumption) | assumption); obtain ⟨ad256, e256, hx256_0⟩ := Kd.at_int (Kd.R_reads' HO_8.out).2.2 x74_4 p256 q256; obtain rfl : ad255 = ad256 := (by injection e256); replace p256 := eq_true p256; replace q256 := eq_true q256))
                                                            repeat (go_quiet (first | (go_at_call 19; (with_reducible refine (provisolaw05_from.calls k5 _ _ t230 (rd ((rd_T35 t230 x74_4).f2) x82_5) t253 _ ?side1 ?side2 A59.out).mono ?_); (case side1 => repeat (first | exact (Kd.S_reads' HO_6.out).2.2 | (with_reducible refine Kd.C_alloc ?_ _) | (with_reducible refine Kd.C_drewN ?_ _) | (with_reducible refine Kd.C_drew ?_))); (case side2 => exact (Kd.S_reads' HO_6.out).2.1); rintro e w71 ⟨rfl, hb⟩; have n0_ := Aside0.mk (Kd.S_below (by (with_reducible repeat (first | apply Kd.S_alloc | apply Kd.S_drewN | apply Kd.S_drew)); exact HO_6.out) hb); have n1_ := Aside0.mk (Kd.R_below (by (with_reducible repeat (first | apply Kd.R_alloc | apply Kd.R_drewN | apply Kd.R_drew)); exact HO_8.out) hb); have n2_ := Aside0.mk (Kd.R_below (by (with_reducible repeat (first | apply Kd.R_alloc | apply Kd.R_drewN | apply Kd.R_drew)); exact HO_10.out) hb); have n3_ := Aside0.mk (Kd.S_below (by (with_reducible repeat (first | apply Kd.S_alloc | apply Kd.S_drewN | apply Kd.S_drew)); exact HO_72.out) hb); have n4_ := Aside0.mk (blk_below (g := gb251) (o := .cells #[.int .i64 ((rd_T35 t230 x74_4).f0), .int .i64 ((rd_T35 t230 x74_4).f1), .slice (some ad252) ((rd_T35 t230 x74_4).f2).length c250_2] 35 (0, 0)) (by (with_reducible repeat (first | refine blk_drewN ?_ _ | refine blk_drew ?_ | refine blk_alloc ?_ _)); exact BK251.out) hb); have n5_ := Aside0.mk (Kd.C_below (by repeat (first | (with_reducible exact HR250_2.out) | (with_reducible refine Kd.C_alloc ?_ _) | (with_reducible refine Kd.C_drewN ?_ _) | (with_reducible refine Kd.C_drew ?_) | exact HR250_2.out)) hb); have n6_ := Aside0.mk (below_step (by repeat (first | (with_reducible first | exact HB.out | apply below_alloc | apply pw_below_drewN | apply below_drew1 | refine below_set ?_ GE251.out) | exact HB.out)) hb); clear HO_6; clear HO_8; clear HO_10; clear HO_72; clear BK251; clear HR250_2; clear HB; have HO_6 := n0_; have HO_8 := n1_; have HO_10 := n2_; have HO_72 := n3_; have BK251 := n4_; have HR250_2 := n5_; have HB := n6_; clear n0_ n1_ n2_ n3_ n4_ n5_ n6_; (try clear hb); (try clear hb2); (try clear hk); (try clear hi); have hcz72_0 : w71.cell? ⟨gb251, 0, none⟩ = some (.int .i64 ((rd_T35 t230 x74_4).f0)) := (blk_cell BK251.out 0).trans rfl; have hcz72_1 : w71.cell? ⟨gb251, 1, none⟩ = some (.int .i64 ((rd_T35 t230 x74_4).f1)) := (blk_cell BK251.out 1).trans rfl; have hcz72_2 : w71.cell? ⟨gb251, 2, none⟩ = some (.slice (some ad252) ((rd_T35 t230 x74_4).f2).length c250_2) := (blk_cell BK251.out 2).trans rfl; have hfz72_0 := blk_frozen BK251.out 0; have hfz72_1 := blk_frozen BK251.out 1; have hfz72_2 := blk_frozen BK251.out 2; obtain ⟨Ao73, co73, eo73⟩ := Kd.R_slice HO_10.out; subst eo73) | (go_at_call 20; (with_reducible refine (slices_Contains_int_int.calls k5 _ _ t247 ((rd_T35 t230 x74_4).f0) true _ ?side1 ?side2 A60.out).mono ?_); (case side1 => repeat (first | exact (Kd.R_reads' HO_10.out).2.2 | (with_reducible refine Kd.C_alloc ?_ _) | (with_reducible refine Kd.C_drewN ?_ _) | (with_reducible refine Kd.C_drew ?_))); (case side2 => exact (Kd.R_reads' HO_10.out).2.1); rintro e w' ⟨rfl, ⟨nd, rfl⟩⟩; (try first | exact ⟨rfl, _, World.drewN_drewN _ _ _⟩ | exact ⟨rfl, _, Eq.trans (World.drewN_drewN _ _ _) (congrArg (World.drewN _) (Nat.add_assoc _ _ _))⟩); have p255 : 0 ≤ (t253 : Int) := of_decide_eq_true (by first | (with_reducible assumption) | assumption); have q255 : t253 < (x8_3.length : Int) := of_decide_eq_true (by first | (with_reducible assumption) | assumption); obtain ⟨ad255, e255, hx255_0⟩ := Kd.at_int (Kd.R_reads' HO_8.out).2.2 t253 p255 q255; cases e255; replace p255 := eq_true p255; replace q255 := eq_true q255; have p256 : 0 ≤ (x74_4 : Int) := of_decide_eq_true (by first | (with_reducible assumption) | assumption); have q256 : x74_4 < (x8_3.length : Int) := of_decide_eq_true (by first | (with_reducible assumption) | assumption); obtain ⟨ad256, e256, hx256_0⟩ := Kd.at_int (Kd.R_reads' HO_8.out).2.2 x74_4 p256 q256; obtain rfl : ad255 = ad256 := (by injection e256); replace p256 := eq_true p256; replace q256 := eq_true q256)); try go_wp2_with (first | (go_at_call 19; (with_reducible refine (provisolaw05_from.calls k5 _ _ t230 (rd ((rd_T35 t230 x74_4).f2) x82_5) t253 _ ?side1 ?side2 A59.out).mono ?_); (case side1 => repeat (first | exact (Kd.S_reads' HO_6.out).2.2 | (with_reducible refine Kd.C_alloc ?_ _) | (with_reducible refine Kd.C_drewN ?_ _) | (with_reducible refine Kd.C_drew ?_))); (case side2 => exact (Kd.S_reads' HO_6.out).2.1); rintro e w71 ⟨rfl, hb⟩; have n0_ := Aside0.mk (Kd.S_below (by (with_reducible repeat (first | apply Kd.S_alloc | apply Kd.S_drewN | apply Kd.S_drew)); exact HO_6.out) hb); have n1_ := Aside0.mk (Kd.R_below (by (with_reducible repeat (first | apply Kd.R_alloc | apply Kd.R_drewN | apply Kd.R_drew)); exact HO_8.out) hb); have n2_ := Aside0.mk (Kd.R_below (by (with_reducible repeat (first | apply Kd.R_alloc | apply Kd.R_drewN | apply Kd.R_drew)); exact HO_10.out) hb); have n3_ := Aside0.mk (Kd.S_below (by (with_reducible repeat (first | apply Kd.S_alloc | apply Kd.S_drewN | apply Kd.S_drew)); exact HO_72.out) hb); have n4_ := Aside0.mk (blk_below (g := gb251) (o := .cells #[.int .i64 ((rd_T35 t230 x74_4).f0), .int .i64 ((rd_T35 t230 x74_4).f1), .slice (some ad252) ((rd_T35 t230 x74_4).f2).length c250_2] 35 (0, 0)) (by (with_reducible repeat (first | refine blk_drewN ?_ _ | refine blk_drew ?_ | refine blk_alloc ?_ _)); exact BK251.out) hb); have n5_ := Aside0.mk (Kd.C_below (by repeat (first | (with_reducible exact HR250_2.out) | (with_reducible refine Kd.C_alloc ?_ _) | (with_reducible refine Kd.C_drewN ?_ _) | (with_reducible refine Kd.C_drew ?_) | exact HR250_2.out)) hb); have n6_ := Aside0.mk (below_step (by repeat (first | (with_reducible first | exact HB.out | apply below_alloc | apply pw_below_drewN | apply below_drew1 | refine below_set ?_ GE251.out) | exact HB.out)) hb); clear HO_6; clear HO_8; clear HO_10; clear HO_72; clear BK251; clear HR250_2; clear HB; have HO_6 := n0_; have HO_8 := n1_; have HO_10 := n2_; have HO_72 := n3_; have BK251 := n4_; have HR250_2 := n5_; have HB := n6_; clear n0_ n1_ n2_ n3_ n4_ n5_ n6_; (try clear hb); (try clear hb2); (try clear hk); (try clear hi); have hcz72_0 : w71.cell? ⟨gb251, 0, none⟩ = some (.int .i64 ((rd_T35 t230 x74_4).f0)) := (blk_cell BK251.out 0).trans rfl; have hcz72_1 : w71.cell? ⟨gb251, 1, none⟩ = some (.int .i64 ((rd_T35 t230 x74_4).f1)) := (blk_cell BK251.out 1).trans rfl; have hcz72_2 : w71.cell? ⟨gb251, 2, none⟩ = some (.slice (some ad252) ((rd_T35 t230 x74_4).f2).length c250_2) := (blk_cell BK251.out 2).trans rfl; have hfz72_0 := blk_frozen BK251.out 0; have hfz72_1 := blk_frozen BK251.out 1; have hfz72_2 := blk_frozen BK251.out 2; obtain ⟨Ao73, co73, eo73⟩ := Kd.R_slice HO_10.out; subst eo73) | (go_at_call 20; (with_reducible refine (slices_Contains_int_int.calls k5 _ _ t247 ((rd_T35 t230 x74_4).f0) true _ ?side1 ?side2 A60.out).mono ?_); (case side1 => repeat (first | exact (Kd.R_reads' HO_10.out).2.2 | (with_reducible refine Kd.C_alloc ?_ _) | (with_reducible refine Kd.C_drewN ?_ _) | (with_reducible refine Kd.C_drew ?_))); (case side2 => exact (Kd.R_reads' HO_10.out).2.1); rintro e w' ⟨rfl, ⟨nd, rfl⟩⟩; (try first | exact ⟨rfl, _, World.drewN_drewN _ _ _⟩ | exact ⟨rfl, _, Eq.trans (World.drewN_drewN _ _ _) (congrArg (World.drewN _) (Nat.add_assoc _ _ _))⟩); have p255 : 0 ≤ (t253 : Int) := of_decide_eq_true (by first | (with_reducible assumption) | assumption); have q255 : t253 < (x8_3.length : Int) := of_decide_eq_true (by first | (with_reducible assumption) | assumption); obtain ⟨ad255, e255, hx255_0⟩ := Kd.at_int (Kd.R_reads' HO_8.out).2.2 t253 p255 q255; cases e255; replace p255 := eq_true p255; replace q255 := eq_true q255; have p256 : 0 ≤ (x74_4 : Int) := of_decide_eq_true (by first | (with_reducible assumption) | assumption); have q256 : x74_4 < (x8_3.length : Int) := of_decide_eq_true (by first | (with_reducible assumption) | assumption); obtain ⟨ad256, e256, hx256_0⟩ := Kd.at_int (Kd.R_reads' HO_8.out).2.2 x74_4 p256 q256; obtain rfl : ad255 = ad256 := (by injection e256); replace p256 := eq_true p256; replace q256 := eq_true q256)))
                                                            go_roundg k5
                                                            case measure => have := HJ2.out; have := HJ13.out; have := HK3.out; have := HK4.out; have := HK5.out; omega
                                                            case rel => exact ⟨(wrap64 (x82_5 + 1)), (by first | rfl | (simp; done) | (simp [*]; done)), H', ⟨by have := HJ2.out; have := HJ13.out; have := HK3.out; have := HK4.out; have := HK5.out; omega⟩, ⟨by (try simp only [hl8_3]); (with_reducible repeat (first | apply Kd.S_alloc | apply Kd.S_drewN | apply Kd.S_drew)); exact HO_6.out⟩, ⟨by (try simp only [hl8_3]); (with_reducible repeat (first | apply Kd.R_alloc | apply Kd.R_drewN | apply Kd.R_drew)); exact HO_8.out⟩, ⟨by (try simp only [hl8_3]); (with_reducible repeat (first | apply Kd.R_alloc | apply Kd.R_drewN | apply Kd.R_drew)); exact HO_10.out⟩, ⟨by (try simp only [hl8_3]); (with_reducible repeat (first | apply Kd.S_alloc | apply Kd.S_drewN | apply Kd.S_drew)); exact HO_72.out⟩, ⟨by (try simp only [hl8_3]); (with_reducible repeat (first | refine blk_drewN ?_ _ | refine blk_drew ?_ | refine blk_alloc ?_ _)); exact BK251.out⟩, ⟨by repeat (first | (with_reducible exact HR250_2.out) | (with_reducible refine Kd.C_alloc ?_ _) | (with_reducible refine Kd.C_drewN ?_ _) | (with_reducible refine Kd.C_drew ?_) | exact HR250_2.out)⟩, ⟨by repeat (first | (with_reducible first | exact HB.out | apply below_alloc | apply pw_below_drewN | apply below_drew1 | refine below_set ?_ GE251.out) | exact HB.out)⟩⟩
                                                        · rw [if_neg c66] at H
                                                          exact absurd H (by simp)
                                                      · rw [if_neg c65] at H
                                                        exact absurd H (by simp)
                                                    · rw [if_neg c64] at H
                                                      exact absurd H (by simp)
                                                  · rw [if_neg c63] at H
                                                    exact absurd H (by simp)
                                                · rw [if_neg c62] at H
                                                  have c62b0 : decide (0 ≤ t253) = false := decide_eq_false c62
                                                  (try rw [hl8_3] at c62b0)
                                                  clear c62
                                                  have H' := Aside0.mk H
                                                  clear H
                                                  have p252 : 0 ≤ (x82_5 : Int) := of_decide_eq_true (by first | (with_reducible assumption) | assumption)
                                                  have q252 : x82_5 < (((rd_T35 t230 x74_4).f2).length : Int) := of_decide_eq_true (by first | (with_reducible assumption) | assumption)
                                                  obtain ⟨ad252, e252, hx252_0⟩ := Kd.at_int HR250_2.out x82_5 p252 q252
                                                  cases e252
                                                  first | replace hx252_0 := (HB.out.cell (World.block_lt_of_cell? w _ hx252_0)).trans hx252_0 | skip
                                                  replace p252 := eq_true p252
                                                  replace q252 := eq_true q252
                                                  go_wp2_with (first | (go_at_call 19; (with_reducible refine (provisolaw05_from.calls k5 _ _ t230 (rd ((rd_T35 t230 x74_4).f2) x82_5) t253 _ ?side1 ?side2 A59.out).mono ?_); (case side1 => repeat (first | exact (Kd.S_reads' HO_6.out).2.2 | (with_reducible refine Kd.C_alloc ?_ _) | (with_reducible refine Kd.C_drewN ?_ _) | (with_reducible refine Kd.C_drew ?_))); (case side2 => exact (Kd.S_reads' HO_6.out).2.1); rintro e w74 ⟨rfl, hb⟩; have n0_ := Aside0.mk (Kd.S_below (by (with_reducible repeat (first | apply Kd.S_alloc | apply Kd.S_drewN | apply Kd.S_drew)); exact HO_6.out) hb); have n1_ := Aside0.mk (Kd.R_below (by (with_reducible repeat (first | apply Kd.R_alloc | apply Kd.R_drewN | apply Kd.R_drew)); exact HO_8.out) hb); have n2_ := Aside0.mk (Kd.R_below (by (with_reducible repeat (first | apply Kd.R_alloc | apply Kd.R_drewN | apply Kd.R_drew)); exact HO_10.out) hb); have n3_ := Aside0.mk (Kd.S_below (by (with_reducible repeat (first | apply Kd.S_alloc | apply Kd.S_drewN | apply Kd.S_drew)); exact HO_72.out) hb); have n4_ := Aside0.mk (blk_below (g := gb251) (o := .cells #[.int .i64 ((rd_T35 t230 x74_4).f0), .int .i64 ((rd_T35 t230 x74_4).f1), .slice (some ad252) ((rd_T35 t230 x74_4).f2).length c250_2] 35 (0, 0)) (by (with_reducible repeat (first | refine blk_drewN ?_ _ | refine blk_drew ?_ | refine blk_alloc ?_ _)); exact BK251.out) hb); have n5_ := Aside0.mk (Kd.C_below (by repeat (first | (with_reducible exact HR250_2.out) | (with_reducible refine Kd.C_alloc ?_ _) | (with_reducible refine Kd.C_drewN ?_ _) | (with_reducible refine Kd.C_drew ?_) | exact HR250_2.out)) hb); have n6_ := Aside0.mk (below_step (by repeat (first | (with_reducible first | exact HB.out | apply below_alloc | apply pw_below_drewN | apply below_drew1 | refine below_set ?_ GE251.out) | exact HB.out)) hb); clear HO_6; clear HO_8; clear HO_10; clear HO_72; clear BK251; clear HR250_2; clear HB; have HO_6 := n0_; have HO_8 := n1_; have HO_10 := n2_; have HO_72 := n3_; have BK251 := n4_; have HR250_2 := n5_; have HB := n6_; clear n0_ n1_ n2_ n3_ n4_ n5_ n6_; (try clear hb); (try clear hb2); (try clear hk); (try clear hi); have hcz75_0 : w74.cell? ⟨gb251, 0, none⟩ = some (.int .i64 ((rd_T35 t230 x74_4).f0)) := (blk_cell BK251.out 0).trans rfl; have hcz75_1 : w74.cell? ⟨gb251, 1, none⟩ = some (.int .i64 ((rd_T35 t230 x74_4).f1)) := (blk_cell BK251.out 1).trans rfl; have hcz75_2 : w74.cell? ⟨gb251, 2, none⟩ = some (.slice (some ad252) ((rd_T35 t230 x74_4).f2).length c250_2) := (blk_cell BK251.out 2).trans rfl; have hfz75_0 := blk_frozen BK251.out 0; have hfz75_1 := blk_frozen BK251.out 1; have hfz75_2 := blk_frozen BK251.out 2; obtain ⟨Ao76, co76, eo76⟩ := Kd.R_slice HO_10.out; subst eo76) | (go_at_call 20; (with_reducible refine (slices_Contains_int_int.calls k5 _ _ t247 ((rd_T35 t230 x74_4).f0) true _ ?side1 ?side2 A60.out).mono ?_); (case side1 => repeat (first | exact (Kd.R_reads' HO_10.out).2.2 | (with_reducible refine Kd.C_alloc ?_ _) | (with_reducible refine Kd.C_drewN ?_ _) | (with_reducible refine Kd.C_drew ?_))); (case side2 => exact (Kd.R_reads' HO_10.out).2.1); rintro e w' ⟨rfl, ⟨nd, rfl⟩⟩; (try first | exact ⟨rfl, _, World.drewN_drewN _ _ _⟩ | exact ⟨rfl, _, Eq.trans (World.drewN_drewN _ _ _) (congrArg (World.drewN _) (Nat.add_assoc _ _ _))⟩)))
                                                  repeat (go_quiet (first | (go_at_call 19; (with_reducible refine (provisolaw05_from.calls k5 _ _ t230 (rd ((rd_T35 t230 x74_4).f2) x82_5) t253 _ ?side1 ?side2 A59.out).mono ?_); (case side1 => repeat (first | exact (Kd.S_reads' HO_6.out).2.2 | (with_reducible refine Kd.C_alloc ?_ _) | (with_reducible refine Kd.C_drewN ?_ _) | (with_reducible refine Kd.C_drew ?_))); (case side2 => exact (Kd.S_reads' HO_6.out).2.1); rintro e w74 ⟨rfl, hb⟩; have n0_ := Aside0.mk (Kd.S_below (by (with_reducible repeat (first | apply Kd.S_alloc | apply Kd.S_drewN | apply Kd.S_drew)); exact HO_6.out) hb); have n1_ := Aside0.mk (Kd.R_below (by (with_reducible repeat (first | apply Kd.R_alloc | apply Kd.R_drewN | apply Kd.R_drew)); exact HO_8.out) hb); have n2_ := Aside0.mk (Kd.R_below (by (with_reducible repeat (first | apply Kd.R_alloc | apply Kd.R_drewN | apply Kd.R_drew)); exact HO_10.out) hb); have n3_ := Aside0.mk (Kd.S_below (by (with_reducible repeat (first | apply Kd.S_alloc | apply Kd.S_drewN | apply Kd.S_drew)); exact HO_72.out) hb); have n4_ := Aside0.mk (blk_below (g := gb251) (o := .cells #[.int .i64 ((rd_T35 t230 x74_4).f0), .int .i64 ((rd_T35 t230 x74_4).f1), .slice (some ad252) ((rd_T35 t230 x74_4).f2).length c250_2] 35 (0, 0)) (by (with_reducible repeat (first | refine blk_drewN ?_ _ | refine blk_drew ?_ | refine blk_alloc ?_ _)); exact BK251.out) hb); have n5_ := Aside0.mk (Kd.C_below (by repeat (first | (with_reducible exact HR250_2.out) | (with_reducible refine Kd.C_alloc ?_ _) | (with_reducible refine Kd.C_drewN ?_ _) | (with_reducible refine Kd.C_drew ?_) | exact HR250_2.out)) hb); have n6_ := Aside0.mk (below_step (by repeat (first | (with_reducible first | exact HB.out | apply below_alloc | apply pw_below_drewN | apply below_drew1 | refine below_set ?_ GE251.out) | exact HB.out)) hb); clear HO_6; clear HO_8; clear HO_10; clear HO_72; clear BK251; clear HR250_2; clear HB; have HO_6 := n0_; have HO_8 := n1_; have HO_10 := n2_; have HO_72 := n3_; have BK251 := n4_; have HR250_2 := n5_; have HB := n6_; clear n0_ n1_ n2_ n3_ n4_ n5_ n6_; (try clear hb); (try clear hb2); (try clear hk); (try clear hi); have hcz75_0 : w74.cell? ⟨gb251, 0, none⟩ = some (.int .i64 ((rd_T35 t230 x74_4).f0)) := (blk_cell BK251.out 0).trans rfl; have hcz75_1 : w74.cell? ⟨gb251, 1, none⟩ = some (.int .i64 ((rd_T35 t230 x74_4).f1)) := (blk_cell BK251.out 1).trans rfl; have hcz75_2 : w74.cell? ⟨gb251, 2, none⟩ = some (.slice (some ad252) ((rd_T35 t230 x74_4).f2).length c250_2) := (blk_cell BK251.out 2).trans rfl; have hfz75_0 := blk_frozen BK251.out 0; have hfz75_1 := blk_frozen BK251.out 1; have hfz75_2 := blk_frozen BK251.out 2; obtain ⟨Ao76, co76, eo76⟩ := Kd.R_slice HO_10.out; subst eo76) | (go_at_call 20; (with_reducible refine (slices_Contains_int_int.calls k5 _ _ t247 ((rd_T35 t230 x74_4).f0) true _ ?side1 ?side2 A60.out).mono ?_); (case side1 => repeat (first | exact (Kd.R_reads' HO_10.out).2.2 | (with_reducible refine Kd.C_alloc ?_ _) | (with_reducible refine Kd.C_drewN ?_ _) | (with_reducible refine Kd.C_drew ?_))); (case side2 => exact (Kd.R_reads' HO_10.out).2.1); rintro e w' ⟨rfl, ⟨nd, rfl⟩⟩; (try first | exact ⟨rfl, _, World.drewN_drewN _ _ _⟩ | exact ⟨rfl, _, Eq.trans (World.drewN_drewN _ _ _) (congrArg (World.drewN _) (Nat.add_assoc _ _ _))⟩))); try go_wp2_with (first | (go_at_call 19; (with_reducible refine (provisolaw05_from.calls k5 _ _ t230 (rd ((rd_T35 t230 x74_4).f2) x82_5) t253 _ ?side1 ?side2 A59.out).mono ?_); (case side1 => repeat (first | exact (Kd.S_reads' HO_6.out).2.2 | (with_reducible refine Kd.C_alloc ?_ _) | (with_reducible refine Kd.C_drewN ?_ _) | (with_reducible refine Kd.C_drew ?_))); (case side2 => exact (Kd.S_reads' HO_6.out).2.1); rintro e w74 ⟨rfl, hb⟩; have n0_ := Aside0.mk (Kd.S_below (by (with_reducible repeat (first | apply Kd.S_alloc | apply Kd.S_drewN | apply Kd.S_drew)); exact HO_6.out) hb); have n1_ := Aside0.mk (Kd.R_below (by (with_reducible repeat (first | apply Kd.R_alloc | apply Kd.R_drewN | apply Kd.R_drew)); exact HO_8.out) hb); have n2_ := Aside0.mk (Kd.R_below (by (with_reducible repeat (first | apply Kd.R_alloc | apply Kd.R_drewN | apply Kd.R_drew)); exact HO_10.out) hb); have n3_ := Aside0.mk (Kd.S_below (by (with_reducible repeat (first | apply Kd.S_alloc | apply Kd.S_drewN | apply Kd.S_drew)); exact HO_72.out) hb); have n4_ := Aside0.mk (blk_below (g := gb251) (o := .cells #[.int .i64 ((rd_T35 t230 x74_4).f0), .int .i64 ((rd_T35 t230 x74_4).f1), .slice (some ad252) ((rd_T35 t230 x74_4).f2).length c250_2] 35 (0, 0)) (by (with_reducible repeat (first | refine blk_drewN ?_ _ | refine blk_drew ?_ | refine blk_alloc ?_ _)); exact BK251.out) hb); have n5_ := Aside0.mk (Kd.C_below (by repeat (first | (with_reducible exact HR250_2.out) | (with_reducible refine Kd.C_alloc ?_ _) | (with_reducible refine Kd.C_drewN ?_ _) | (with_reducible refine Kd.C_drew ?_) | exact HR250_2.out)) hb); have n6_ := Aside0.mk (below_step (by repeat (first | (with_reducible first | exact HB.out | apply below_alloc | apply pw_below_drewN | apply below_drew1 | refine below_set ?_ GE251.out) | exact HB.out)) hb); clear HO_6; clear HO_8; clear HO_10; clear HO_72; clear BK251; clear HR250_2; clear HB; have HO_6 := n0_; have HO_8 := n1_; have HO_10 := n2_; have HO_72 := n3_; have BK251 := n4_; have HR250_2 := n5_; have HB := n6_; clear n0_ n1_ n2_ n3_ n4_ n5_ n6_; (try clear hb); (try clear hb2); (try clear hk); (try clear hi); have hcz75_0 : w74.cell? ⟨gb251, 0, none⟩ = some (.int .i64 ((rd_T35 t230 x74_4).f0)) := (blk_cell BK251.out 0).trans rfl; have hcz75_1 : w74.cell? ⟨gb251, 1, none⟩ = some (.int .i64 ((rd_T35 t230 x74_4).f1)) := (blk_cell BK251.out 1).trans rfl; have hcz75_2 : w74.cell? ⟨gb251, 2, none⟩ = some (.slice (some ad252) ((rd_T35 t230 x74_4).f2).length c250_2) := (blk_cell BK251.out 2).trans rfl; have hfz75_0 := blk_frozen BK251.out 0; have hfz75_1 := blk_frozen BK251.out 1; have hfz75_2 := blk_frozen BK251.out 2; obtain ⟨Ao76, co76, eo76⟩ := Kd.R_slice HO_10.out; subst eo76) | (go_at_call 20; (with_reducible refine (slices_Contains_int_int.calls k5 _ _ t247 ((rd_T35 t230 x74_4).f0) true _ ?side1 ?side2 A60.out).mono ?_); (case side1 => repeat (first | exact (Kd.R_reads' HO_10.out).2.2 | (with_reducible refine Kd.C_alloc ?_ _) | (with_reducible refine Kd.C_drewN ?_ _) | (with_reducible refine Kd.C_drew ?_))); (case side2 => exact (Kd.R_reads' HO_10.out).2.1); rintro e w' ⟨rfl, ⟨nd, rfl⟩⟩; (try first | exact ⟨rfl, _, World.drewN_drewN _ _ _⟩ | exact ⟨rfl, _, Eq.trans (World.drewN_drewN _ _ _) (congrArg (World.drewN _) (Nat.add_assoc _ _ _))⟩))))
                                                  go_roundg k5
                                                  case measure => have := HJ2.out; have := HJ13.out; have := HK3.out; have := HK4.out; have := HK5.out; omega
                                                  case rel => exact ⟨(wrap64 (x82_5 + 1)), (by first | rfl | (simp; done) | (simp [*]; done)), H', ⟨by have := HJ2.out; have := HJ13.out; have := HK3.out; have := HK4.out; have := HK5.out; omega⟩, ⟨by (try simp only [hl8_3]); (with_reducible repeat (first | apply Kd.S_alloc | apply Kd.S_drewN | apply Kd.S_drew)); exact HO_6.out⟩, ⟨by (try simp only [hl8_3]); (with_reducible repeat (first | apply Kd.R_alloc | apply Kd.R_drewN | apply Kd.R_drew)); exact HO_8.out⟩, ⟨by (try simp only [hl8_3]); (with_reducible repeat (first | apply Kd.R_alloc | apply Kd.R_drewN | apply Kd.R_drew)); exact HO_10.out⟩, ⟨by (try simp only [hl8_3]); (with_reducible repeat (first | apply Kd.S_alloc | apply Kd.S_drewN | apply Kd.S_drew)); exact HO_72.out⟩, ⟨by (try simp only [hl8_3]); (with_reducible repeat (first | refine blk_drewN ?_ _ | refine blk_drew ?_ | refine blk_alloc ?_ _)); exact BK251.out⟩, ⟨by repeat (first | (with_reducible exact HR250_2.out) | (with_reducible refine Kd.C_alloc ?_ _) | (with_reducible refine Kd.C_drewN ?_ _) | (with_reducible refine Kd.C_drew ?_) | exact HR250_2.out)⟩, ⟨by repeat (first | (with_reducible first | exact HB.out | apply below_alloc | apply pw_below_drewN | apply below_drew1 | refine below_set ?_ GE251.out) | exact HB.out)⟩⟩
                                              · replace c61 := Bool.eq_false_iff.mpr c61
                                                subst c61
                                                have H1 : (provisolaw05_FlowAhead.l2 k5 t230 x8_3 t247 x74_4 t230 (t230.length : Int) x74_4 ((rd_T35 t230 x74_4).f2) (((rd_T35 t230 x74_4).f2).length : Int) (wrap64 (x82_5 + 1)) ((rd_T35 t230 x74_4).f0) ((rd_T35 t230 x74_4).f1) ((rd_T35 t230 x74_4).f2)) = some r := by rw [if_neg (show ¬ (false = true) by decide)] at H; exact H
                                                clear H
                                                have H := H1
                                                clear H1
                                                have H' := Aside0.mk H
                                                clear H
                                                have p252 : 0 ≤ (x82_5 : Int) := of_decide_eq_true (by first | (with_reducible assumption) | assumption)
                                                have q252 : x82_5 < (((rd_T35 t230 x74_4).f2).length : Int) := of_decide_eq_true (by first | (with_reducible assumption) | assumption)
                                                obtain ⟨ad252, e252, hx252_0⟩ := Kd.at_int HR250_2.out x82_5 p252 q252
                                                cases e252
                                                first | replace hx252_0 := (HB.out.cell (World.block_lt_of_cell? w _ hx252_0)).trans hx252_0 | skip
                                                replace p252 := eq_true p252
                                                replace q252 := eq_true q252
                                                go_wp2_with (first | (go_at_call 19; (with_reducible refine (provisolaw05_from.calls k5 _ _ t230 (rd ((rd_T35 t230 x74_4).f2) x82_5) t253 _ ?side1 ?side2 A59.out).mono ?_); (case side1 => repeat (first | exact (Kd.S_reads' HO_6.out).2.2 | (with_reducible refine Kd.C_alloc ?_ _) | (with_reducible refine Kd.C_drewN ?_ _) | (with_reducible refine Kd.C_drew ?_))); (case side2 => exact (Kd.S_reads' HO_6.out).2.1); rintro e w77 ⟨rfl, hb⟩; have n0_ := Aside0.mk (Kd.S_below (by (with_reducible repeat (first | apply Kd.S_alloc | apply Kd.S_drewN | apply Kd.S_drew)); exact HO_6.out) hb); have n1_ := Aside0.mk (Kd.R_below (by (with_reducible repeat (first | apply Kd.R_alloc | apply Kd.R_drewN | apply Kd.R_drew)); exact HO_8.out) hb); have n2_ := Aside0.mk (Kd.R_below (by (with_reducible repeat (first | apply Kd.R_alloc | apply Kd.R_drewN | apply Kd.R_drew)); exact HO_10.out) hb); have n3_ := Aside0.mk (Kd.S_below (by (with_reducible repeat (first | apply Kd.S_alloc | apply Kd.S_drewN | apply Kd.S_drew)); exact HO_72.out) hb); have n4_ := Aside0.mk (blk_below (g := gb251) (o := .cells #[.int .i64 ((rd_T35 t230 x74_4).f0), .int .i64 ((rd_T35 t230 x74_4).f1), .slice (some ad252) ((rd_T35 t230 x74_4).f2).length c250_2] 35 (0, 0)) (by (with_reducible repeat (first | refine blk_drewN ?_ _ | refine blk_drew ?_ | refine blk_alloc ?_ _)); exact BK251.out) hb); have n5_ := Aside0.mk (Kd.C_below (by repeat (first | (with_reducible exact HR250_2.out) | (with_reducible refine Kd.C_alloc ?_ _) | (with_reducible refine Kd.C_drewN ?_ _) | (with_reducible refine Kd.C_drew ?_) | exact HR250_2.out)) hb); have n6_ := Aside0.mk (below_step (by repeat (first | (with_reducible first | exact HB.out | apply below_alloc | apply pw_below_drewN | apply below_drew1 | refine below_set ?_ GE251.out) | exact HB.out)) hb); clear HO_6; clear HO_8; clear HO_10; clear HO_72; clear BK251; clear HR250_2; clear HB; have HO_6 := n0_; have HO_8 := n1_; have HO_10 := n2_; have HO_72 := n3_; have BK251 := n4_; have HR250_2 := n5_; have HB := n6_; clear n0_ n1_ n2_ n3_ n4_ n5_ n6_; (try clear hb); (try clear hb2); (try clear hk); (try clear hi); have hcz78_0 : w77.cell? ⟨gb251, 0, none⟩ = some (.int .i64 ((rd_T35 t230 x74_4).f0)) := (blk_cell BK251.out 0).trans rfl; have hcz78_1 : w77.cell? ⟨gb251, 1, none⟩ = some (.int .i64 ((rd_T35 t230 x74_4).f1)) := (blk_cell BK251.out 1).trans rfl; have hcz78_2 : w77.cell? ⟨gb251, 2, none⟩ = some (.slice (some ad252) ((rd_T35 t230 x74_4).f2).length c250_2) := (blk_cell BK251.out 2).trans rfl; have hfz78_0 := blk_frozen BK251.out 0; have hfz78_1 := blk_frozen BK251.out 1; have hfz78_2 := blk_frozen BK251.out 2; obtain ⟨Ao79, co79, eo79⟩ := Kd.R_slice HO_10.out; subst eo79) | (go_at_call 20; (with_reducible refine (slices_Contains_int_int.calls k5 _ _ t247 ((rd_T35 t230 x74_4).f0) false _ ?side1 ?side2 A60.out).mono ?_); (case side1 => repeat (first | exact (Kd.R_reads' HO_10.out).2.2 | (with_reducible refine Kd.C_alloc ?_ _) | (with_reducible refine Kd.C_drewN ?_ _) | (with_reducible refine Kd.C_drew ?_))); (case side2 => exact (Kd.R_reads' HO_10.out).2.1); rintro e w' ⟨rfl, ⟨nd, rfl⟩⟩; (try first | exact ⟨rfl, _, World.drewN_drewN _ _ _⟩ | exact ⟨rfl, _, Eq.trans (World.drewN_drewN _ _ _) (congrArg (World.drewN _) (Nat.add_assoc _ _ _))⟩)))
                                                repeat (go_quiet (first | (go_at_call 19; (with_reducible refine (provisolaw05_from.calls k5 _ _ t230 (rd ((rd_T35 t230 x74_4).f2) x82_5) t253 _ ?side1 ?side2 A59.out).mono ?_); (case side1 => repeat (first | exact (Kd.S_reads' HO_6.out).2.2 | (with_reducible refine Kd.C_alloc ?_ _) | (with_reducible refine Kd.C_drewN ?_ _) | (with_reducible refine Kd.C_drew ?_))); (case side2 => exact (Kd.S_reads' HO_6.out).2.1); rintro e w77 ⟨rfl, hb⟩; have n0_ := Aside0.mk (Kd.S_below (by (with_reducible repeat (first | apply Kd.S_alloc | apply Kd.S_drewN | apply Kd.S_drew)); exact HO_6.out) hb); have n1_ := Aside0.mk (Kd.R_below (by (with_reducible repeat (first | apply Kd.R_alloc | apply Kd.R_drewN | apply Kd.R_drew)); exact HO_8.out) hb); have n2_ := Aside0.mk (Kd.R_below (by (with_reducible repeat (first | apply Kd.R_alloc | apply Kd.R_drewN | apply Kd.R_drew)); exact HO_10.out) hb); have n3_ := Aside0.mk (Kd.S_below (by (with_reducible repeat (first | apply Kd.S_alloc | apply Kd.S_drewN | apply Kd.S_drew)); exact HO_72.out) hb); have n4_ := Aside0.mk (blk_below (g := gb251) (o := .cells #[.int .i64 ((rd_T35 t230 x74_4).f0), .int .i64 ((rd_T35 t230 x74_4).f1), .slice (some ad252) ((rd_T35 t230 x74_4).f2).length c250_2] 35 (0, 0)) (by (with_reducible repeat (first | refine blk_drewN ?_ _ | refine blk_drew ?_ | refine blk_alloc ?_ _)); exact BK251.out) hb); have n5_ := Aside0.mk (Kd.C_below (by repeat (first | (with_reducible exact HR250_2.out) | (with_reducible refine Kd.C_alloc ?_ _) | (with_reducible refine Kd.C_drewN ?_ _) | (with_reducible refine Kd.C_drew ?_) | exact HR250_2.out)) hb); have n6_ := Aside0.mk (below_step (by repeat (first | (with_reducible first | exact HB.out | apply below_alloc | apply pw_below_drewN | apply below_drew1 | refine below_set ?_ GE251.out) | exact HB.out)) hb); clear HO_6; clear HO_8; clear HO_10; clear HO_72; clear BK251; clear HR250_2; clear HB; have HO_6 := n0_; have HO_8 := n1_; have HO_10 := n2_; have HO_72 := n3_; have BK251 := n4_; have HR250_2 := n5_; have HB := n6_; clear n0_ n1_ n2_ n3_ n4_ n5_ n6_; (try clear hb); (try clear hb2); (try clear hk); (try clear hi); have hcz78_0 : w77.cell? ⟨gb251, 0, none⟩ = some (.int .i64 ((rd_T35 t230 x74_4).f0)) := (blk_cell BK251.out 0).trans rfl; have hcz78_1 : w77.cell? ⟨gb251, 1, none⟩ = some (.int .i64 ((rd_T35 t230 x74_4).f1)) := (blk_cell BK251.out 1).trans rfl; have hcz78_2 : w77.cell? ⟨gb251, 2, none⟩ = some (.slice (some ad252) ((rd_T35 t230 x74_4).f2).length c250_2) := (blk_cell BK251.out 2).trans rfl; have hfz78_0 := blk_frozen BK251.out 0; have hfz78_1 := blk_frozen BK251.out 1; have hfz78_2 := blk_frozen BK251.out 2; obtain ⟨Ao79, co79, eo79⟩ := Kd.R_slice HO_10.out; subst eo79) | (go_at_call 20; (with_reducible refine (slices_Contains_int_int.calls k5 _ _ t247 ((rd_T35 t230 x74_4).f0) false _ ?side1 ?side2 A60.out).mono ?_); (case side1 => repeat (first | exact (Kd.R_reads' HO_10.out).2.2 | (with_reducible refine Kd.C_alloc ?_ _) | (with_reducible refine Kd.C_drewN ?_ _) | (with_reducible refine Kd.C_drew ?_))); (case side2 => exact (Kd.R_reads' HO_10.out).2.1); rintro e w' ⟨rfl, ⟨nd, rfl⟩⟩; (try first | exact ⟨rfl, _, World.drewN_drewN _ _ _⟩ | exact ⟨rfl, _, Eq.trans (World.drewN_drewN _ _ _) (congrArg (World.drewN _) (Nat.add_assoc _ _ _))⟩))); try go_wp2_with (first | (go_at_call 19; (with_reducible refine (provisolaw05_from.calls k5 _ _ t230 (rd ((rd_T35 t230 x74_4).f2) x82_5) t253 _ ?side1 ?side2 A59.out).mono ?_); (case side1 => repeat (first | exact (Kd.S_reads' HO_6.out).2.2 | (with_reducible refine Kd.C_alloc ?_ _) | (with_reducible refine Kd.C_drewN ?_ _) | (with_reducible refine Kd.C_drew ?_))); (case side2 => exact (Kd.S_reads' HO_6.out).2.1); rintro e w77 ⟨rfl, hb⟩; have n0_ := Aside0.mk (Kd.S_below (by (with_reducible repeat (first | apply Kd.S_alloc | apply Kd.S_drewN | apply Kd.S_drew)); exact HO_6.out) hb); have n1_ := Aside0.mk (Kd.R_below (by (with_reducible repeat (first | apply Kd.R_alloc | apply Kd.R_drewN | apply Kd.R_drew)); exact HO_8.out) hb); have n2_ := Aside0.mk (Kd.R_below (by (with_reducible repeat (first | apply Kd.R_alloc | apply Kd.R_drewN | apply Kd.R_drew)); exact HO_10.out) hb); have n3_ := Aside0.mk (Kd.S_below (by (with_reducible repeat (first | apply Kd.S_alloc | apply Kd.S_drewN | apply Kd.S_drew)); exact HO_72.out) hb); have n4_ := Aside0.mk (blk_below (g := gb251) (o := .cells #[.int .i64 ((rd_T35 t230 x74_4).f0), .int .i64 ((rd_T35 t230 x74_4).f1), .slice (some ad252) ((rd_T35 t230 x74_4).f2).length c250_2] 35 (0, 0)) (by (with_reducible repeat (first | refine blk_drewN ?_ _ | refine blk_drew ?_ | refine blk_alloc ?_ _)); exact BK251.out) hb); have n5_ := Aside0.mk (Kd.C_below (by repeat (first | (with_reducible exact HR250_2.out) | (with_reducible refine Kd.C_alloc ?_ _) | (with_reducible refine Kd.C_drewN ?_ _) | (with_reducible refine Kd.C_drew ?_) | exact HR250_2.out)) hb); have n6_ := Aside0.mk (below_step (by repeat (first | (with_reducible first | exact HB.out | apply below_alloc | apply pw_below_drewN | apply below_drew1 | refine below_set ?_ GE251.out) | exact HB.out)) hb); clear HO_6; clear HO_8; clear HO_10; clear HO_72; clear BK251; clear HR250_2; clear HB; have HO_6 := n0_; have HO_8 := n1_; have HO_10 := n2_; have HO_72 := n3_; have BK251 := n4_; have HR250_2 := n5_; have HB := n6_; clear n0_ n1_ n2_ n3_ n4_ n5_ n6_; (try clear hb); (try clear hb2); (try clear hk); (try clear hi); have hcz78_0 : w77.cell? ⟨gb251, 0, none⟩ = some (.int .i64 ((rd_T35 t230 x74_4).f0)) := (blk_cell BK251.out 0).trans rfl; have hcz78_1 : w77.cell? ⟨gb251, 1, none⟩ = some (.int .i64 ((rd_T35 t230 x74_4).f1)) := (blk_cell BK251.out 1).trans rfl; have hcz78_2 : w77.cell? ⟨gb251, 2, none⟩ = some (.slice (some ad252) ((rd_T35 t230 x74_4).f2).length c250_2) := (blk_cell BK251.out 2).trans rfl; have hfz78_0 := blk_frozen BK251.out 0; have hfz78_1 := blk_frozen BK251.out 1; have hfz78_2 := blk_frozen BK251.out 2; obtain ⟨Ao79, co79, eo79⟩ := Kd.R_slice HO_10.out; subst eo79) | (go_at_call 20; (with_reducible refine (slices_Contains_int_int.calls k5 _ _ t247 ((rd_T35 t230 x74_4).f0) false _ ?side1 ?side2 A60.out).mono ?_); (case side1 => repeat (first | exact (Kd.R_reads' HO_10.out).2.2 | (with_reducible refine Kd.C_alloc ?_ _) | (with_reducible refine Kd.C_drewN ?_ _) | (with_reducible refine Kd.C_drew ?_))); (case side2 => exact (Kd.R_reads' HO_10.out).2.1); rintro e w' ⟨rfl, ⟨nd, rfl⟩⟩; (try first | exact ⟨rfl, _, World.drewN_drewN _ _ _⟩ | exact ⟨rfl, _, Eq.trans (World.drewN_drewN _ _ _) (congrArg (World.drewN _) (Nat.add_assoc _ _ _))⟩))))
                                                go_roundg k5
                                                case measure => have := HJ2.out; have := HJ13.out; have := HK3.out; have := HK4.out; have := HK5.out; omega
                                                case rel => exact ⟨(wrap64 (x82_5 + 1)), (by first | rfl | (simp; done) | (simp [*]; done)), H', ⟨by have := HJ2.out; have := HJ13.out; have := HK3.out; have := HK4.out; have := HK5.out; omega⟩, ⟨by (try simp only [hl8_3]); (with_reducible repeat (first | apply Kd.S_alloc | apply Kd.S_drewN | apply Kd.S_drew)); exact HO_6.out⟩, ⟨by (try simp only [hl8_3]); (with_reducible repeat (first | apply Kd.R_alloc | apply Kd.R_drewN | apply Kd.R_drew)); exact HO_8.out⟩, ⟨by (try simp only [hl8_3]); (with_reducible repeat (first | apply Kd.R_alloc | apply Kd.R_drewN | apply Kd.R_drew)); exact HO_10.out⟩, ⟨by (try simp only [hl8_3]); (with_reducible repeat (first | apply Kd.S_alloc | apply Kd.S_drewN | apply Kd.S_drew)); exact HO_72.out⟩, ⟨by (try simp only [hl8_3]); (with_reducible repeat (first | refine blk_drewN ?_ _ | refine blk_drew ?_ | refine blk_alloc ?_ _)); exact BK251.out⟩, ⟨by repeat (first | (with_reducible exact HR250_2.out) | (with_reducible refine Kd.C_alloc ?_ _) | (with_reducible refine Kd.C_drewN ?_ _) | (with_reducible refine Kd.C_drew ?_) | exact HR250_2.out)⟩, ⟨by repeat (first | (with_reducible first | exact HB.out | apply below_alloc | apply pw_below_drewN | apply below_drew1 | refine below_set ?_ GE251.out) | exact HB.out)⟩⟩
                                            · rw [if_neg c58] at H
                                              exact absurd H (by simp)
                                          · rw [if_neg c57] at H
                                            exact absurd H (by simp)
                                        · rw [if_neg c56] at H
                                          have c56b0 : decide (x82_5 < (((rd_T35 t230 x74_4).f2).length : Int)) = false := decide_eq_false c56
                                          (try rw [hl8_3] at c56b0)
                                          clear c56
                                          have H' := Aside0.mk H
                                          clear H
                                          go_wp2
                                          repeat (go_quiet (fail); try go_wp2)
                                          go_roundg k5
                                          case measure => have := HJ2.out; have := HJ13.out; have := HK3.out; have := HK4.out; have := HK5.out; omega
                                          case rel => exact ⟨(wrap64 (x74_4 + 1)), (by first | rfl | (simp; done) | (simp [*]; done)), H', ⟨by have := HJ2.out; have := HJ13.out; have := HK3.out; have := HK4.out; have := HK5.out; omega⟩, ⟨by (try simp only [hl8_3]); (with_reducible repeat (first | apply Kd.S_alloc | apply Kd.S_drewN | apply Kd.S_drew)); exact Kd.S_mono HO_6.out (fun _ hk => ⟨hk.1, hk.2.1⟩)⟩, ⟨by (try simp only [hl8_3]); (with_reducible repeat (first | apply Kd.R_alloc | apply Kd.R_drewN | apply Kd.R_drew)); exact HO_8.out⟩, ⟨by (try simp only [hl8_3]); (with_reducible repeat (first | apply Kd.R_alloc | apply Kd.R_drewN | apply Kd.R_drew)); exact HO_10.out⟩, ⟨by (try simp only [hl8_3]); (with_reducible repeat (first | apply Kd.S_alloc | apply Kd.S_drewN | apply Kd.S_drew)); exact Kd.S_mono HO_72.out (fun _ hk => ⟨hk.1, hk.2.1⟩)⟩, ⟨by repeat (first | (with_reducible first | exact HB.out | apply below_alloc | apply pw_below_drewN | apply below_drew1 | refine below_set ?_ GE251.out) | exact HB.out)⟩⟩
                                  · rw [if_neg c53] at H
                                    exact absurd H (by simp)
                                · rw [if_neg c52] at H
                                  exact absurd H (by simp)
                              · rw [if_neg c51] at H
                                have c51b0 : decide (x74_4 < (t230.length : Int)) = false := decide_eq_false c51
                                (try rw [hl8_3] at c51b0)
                                clear c51
                                obtain rfl := Option.some.inj H
                                go_wp2
                                repeat (go_quiet (fail); try go_wp2)
                                go_ret
                                exact ⟨by first | rfl | (simp [errW_none, errW_some] <;> rfl) | (simp [*, errW_none, errW_some] <;> rfl), by repeat (first | (with_reducible first | exact HB.out | apply below_alloc | apply pw_below_drewN | apply below_drew1) | exact HB.out)⟩
                · rw [if_neg c28] at H
                  exact absurd H (by simp)
              · rw [if_neg c27] at H
                exact absurd H (by simp)

end Go.Proofs.Ytcffniaieegbgaa.P

end

section
namespace Go.Proofs.Ytcffniaieegbgaa.P
open Go.RowKit Go.Proofs.YtcffniaieegbgaaW.PrintWords
def provisolaw05_FlowAhead.PureR : Prop := ∀ (l0 : List (Int)), (fun l : List (Int) => l.length ≤ 9223372036854775807 ∧ l.length * 1 ≤ 140737488351232 ∧ ∀ x ∈ l, (fun n : Int => (Lit.int .u8 n).wf = true) x) l0 → ∃ k, provisolaw05_FlowAhead.f k l0 = some true
end Go.Proofs.Ytcffniaieegbgaa.P

end

section
namespace Go.Proofs.Ytcffniaieegbgaa.Pure
open Go.RowKit Go.Proofs.Ytcffniaieegbgaa.P Go.Proofs.YtcffniaieegbgaaW.PrintWords
set_option linter.unusedSimpArgs false
set_option linter.unusedVariables false
theorem wrap_one {i n : Nat} (h : i < n) (hn : n ≤ 9223372036854775807) : wrap64 ((i : Int) + 1) = ((i + 1 : Nat) : Int) := by unfold wrap64; omega
theorem wide_is (k : Nat) (op : Int) : provisoref04_wide.f (k + 2) op = code_widths.f 3 op := by
  by_cases h1 : op = 1
  · subst h1; rfl
  by_cases h2 : op = 19
  · subst h2; rfl
  by_cases h3 : op = 20
  · subst h3; rfl
  by_cases h4 : op = 24
  · subst h4; rfl
  by_cases h5 : op = 25
  · subst h5; rfl
  by_cases h6 : op = 2
  · subst h6; rfl
  by_cases h7 : op = 4
  · subst h7; rfl
  by_cases h8 : op = 5
  · subst h8; rfl
  have e20 : (op == 20) = false := by rw [beq_eq_false_iff_ne]; exact h3
  have e25 : (op == 25) = false := by rw [beq_eq_false_iff_ne]; exact h5
  have e5 : (op == 5) = false := by rw [beq_eq_false_iff_ne]; exact h8
  simp only [provisoref04_wide.f, provisoref04_wide.j0, provisoref04_wide.j1, code_widths.f, code_widths.j0, code_widths.j1, code_widths.j2, if_neg h1, if_neg h2, if_neg h4, if_neg h6, if_neg h7, if_neg h8, e20, e25, e5, Bool.false_eq_true, if_false]
theorem rsize_is (k : Nat) (op : Int) : provisoref04_Size.f (k + 2) op = some (szOf op) := by
  have h := size_is 0 op
  rw [← h]
  unfold provisoref04_Size.f code_Size.f
  rw [wide_is k op]
theorem rsize_ev (op : Int) : Ev (fun k => provisoref04_Size.f k op) (szOf op) := ⟨2, fun k hk => by
  obtain ⟨m, rfl⟩ : ∃ m, k = m + 2 := ⟨k - 2, by omega⟩
  exact rsize_is m op⟩
theorem rjumps_is (op : Int) : provisoref04_Jumps.f op = some (jumpsB op) := jumps_is op
theorem rends_is (op : Int) : provisoref04_Ends.f op = some (endsB op) := ends_is op
theorem rplaced_is (a b c d : Int) : provisoref05_placed.f a b c d = some (placedB a) := placed_is a b c d
theorem drop_at {l : List Int} {i : Nat} (h : i < l.length) : l.drop i = rd l (i : Int) :: l.drop (i + 1) := by
  rw [List.drop_eq_getElem_cons h]
  congr 1
  show l[i] = l.getD (i : Int).toNat 0
  rw [Int.toNat_natCast, List.getD_eq_getElem?_getD, List.getElem?_eq_getElem h]
  rfl
theorem drop_atI {l : List S46} {i : Nat} (h : i < l.length) : l.drop i = rd_T46 l (i : Int) :: l.drop (i + 1) := by
  rw [List.drop_eq_getElem_cons h]
  congr 1
  show l[i] = l.getD (i : Int).toNat z46
  rw [Int.toNat_natCast, List.getD_eq_getElem?_getD, List.getElem?_eq_getElem h]
  rfl
theorem put_done (n : Int) (l : List Int) (hl : l.length ≤ 9223372036854775807) : ∀ (d i : Nat) (out : List Int), l.length - i = d → i ≤ l.length → out.length + d + 2 ≤ 17592186044416 → Ev (fun k => provisoref05_put.l0 k n out true l (l.length : Int) (i : Int)) (out ++ l.drop i)
  | 0, i, out, hd, hi, ho => by
    obtain rfl : i = l.length := by omega
    refine Ev.step (f := fun _ => some out) (fun k => ?_) (by rw [List.drop_length, List.append_nil]; exact Ev.now _)
    simp only [provisoref05_put.l0]
    rw [if_neg (by omega), if_pos True.intro]
  | d + 1, i, out, hd, hi, ho => by
    have h1 : i < l.length := by omega
    have ih := put_done n l hl d (i + 1) (out ++ [rd l (i : Int)]) (by omega) (by omega) (by simp; omega)
    rw [drop_at h1]
    rw [List.append_assoc, List.singleton_append] at ih
    refine Ev.step (f := fun k => provisoref05_put.j1 k n out true (rd l (i : Int)) l (l.length : Int) (i : Int) false) (fun k => ?_) (Ev.step (f := fun k => provisoref05_put.l0 k n (out ++ [rd l (i : Int)]) true l (l.length : Int) ((i + 1 : Nat) : Int)) (fun k => ?_) ih)
    · simp only [provisoref05_put.l0]
      rw [if_pos (by omega), if_pos (by omega), if_pos (by omega), if_pos True.intro]
    · simp only [provisoref05_put.j1]
      rw [if_neg (by decide), if_pos (by omega), wrap_one h1 hl]
theorem put_go (n : Int) (l : List Int) (hl : l.length ≤ 9223372036854775807) : ∀ (d i : Nat) (out : List Int), l.length - i = d → i ≤ l.length → out.length + d + 3 ≤ 17592186044416 → Ev (fun k => provisoref05_put.l0 k n out false l (l.length : Int) (i : Int)) (out ++ ins n (l.drop i))
  | 0, i, out, hd, hi, ho => by
    obtain rfl : i = l.length := by omega
    refine Ev.step (f := fun _ => some (out ++ [n])) (fun k => ?_) (by rw [List.drop_length]; exact Ev.now _)
    simp only [provisoref05_put.l0]
    rw [if_neg (by omega), if_neg (by decide), if_pos (by omega)]
  | d + 1, i, out, hd, hi, ho => by
    have h1 : i < l.length := by omega
    rw [drop_at h1]
    refine Ev.step (f := fun k => provisoref05_put.j1 k n out false (rd l (i : Int)) l (l.length : Int) (i : Int) (decide (n ≤ rd l (i : Int)))) (fun k => ?_) ?_
    · simp only [provisoref05_put.l0]
      rw [if_pos (by omega), if_pos (by omega), if_pos (by omega), if_neg (by decide)]
    by_cases h2 : n < rd l (i : Int)
    · have ih := put_done n l hl d (i + 1) (out ++ [n] ++ [rd l (i : Int)]) (by omega) (by omega) (by simp; omega)
      unfold ins
      rw [if_pos h2]
      rw [show (out ++ [n] ++ [rd l (i : Int)]) ++ l.drop (i + 1) = out ++ n :: rd l (i : Int) :: l.drop (i + 1) by simp] at ih
      refine Ev.step (f := fun k => provisoref05_put.l0 k n (out ++ [n] ++ [rd l (i : Int)]) true l (l.length : Int) ((i + 1 : Nat) : Int)) (fun k => ?_) ih
      simp only [provisoref05_put.j1]
      rw [if_pos (decide_eq_true (by omega)), if_pos h2, if_pos (by omega)]
      simp only [Option.bind_some]
      rw [if_pos (by simp; omega), wrap_one h1 hl]
    · unfold ins
      rw [if_neg h2]
      by_cases h3 : n = rd l (i : Int)
      · have ih := put_done n l hl d (i + 1) (out ++ [rd l (i : Int)]) (by omega) (by omega) (by simp; omega)
        rw [if_pos h3]
        rw [List.append_assoc, List.singleton_append] at ih
        refine Ev.step (f := fun k => provisoref05_put.l0 k n (out ++ [rd l (i : Int)]) true l (l.length : Int) ((i + 1 : Nat) : Int)) (fun k => ?_) ih
        simp only [provisoref05_put.j1]
        rw [if_pos (decide_eq_true (by omega)), if_neg h2, if_pos (by omega), wrap_one h1 hl]
      · have ih := put_go n l hl d (i + 1) (out ++ [rd l (i : Int)]) (by omega) (by omega) (by simp; omega)
        rw [if_neg h3]
        rw [List.append_assoc, List.singleton_append] at ih
        refine Ev.step (f := fun k => provisoref05_put.l0 k n (out ++ [rd l (i : Int)]) false l (l.length : Int) ((i + 1 : Nat) : Int)) (fun k => ?_) ih
        simp only [provisoref05_put.j1]
        rw [if_neg (fun h => by have := of_decide_eq_true h; omega), if_pos (by omega), wrap_one h1 hl]
theorem put_ev (n : Int) (l : List Int) (hl : l.length + 3 ≤ 17592186044416) : Ev (fun k => provisoref05_put.f k l n) (ins n l) := by
  have h := put_go n l (by omega) l.length 0 [] (by omega) (by omega) (by simp; omega)
  rw [List.drop_zero, List.nil_append] at h
  exact h
theorem ins_len (n : Int) : ∀ l : List Int, (ins n l).length ≤ l.length + 1
  | [] => by simp [ins]
  | x :: r => by
    unfold ins
    split
    · simp
    · split
      · simp
      · have := ins_len n r
        simp
        omega
theorem next_ev (x : S46) : Ev (fun k => provisoref05_Next.f k x.f0 x.f1 x.f2 x.f3) (nextL x) := by
  unfold nextL
  refine Ev.congr (f := fun k => (provisoref04_Size.f k x.f1).bind (fun t => if t = 0 then (provisoref05_Next.j0 k ([] : List Int) t true x.f0 x.f1 x.f2 x.f3) else ((provisoref05_placed.f x.f0 x.f1 x.f2 x.f3).bind fun t148 => (provisoref05_Next.j0 k ([] : List Int) t (!t148) x.f0 x.f1 x.f2 x.f3)))) (fun k => rfl) (Ev.bind (rsize_ev x.f1) ?_)
  by_cases h0 : szOf x.f1 = 0
  · simp only [h0, if_true]
    refine Ev.step (f := fun _ => some []) (fun k => ?_) (Ev.now _)
    simp only [provisoref05_Next.j0, if_true]
  · simp only [if_neg h0, rplaced_is, Option.bind_some]
    by_cases hp : placedB x.f0 = true
    · simp only [hp, if_true, Bool.not_true]
      have hz := szOf_range x.f1
      have hpl : 0 ≤ x.f0 ∧ x.f0 < 4096 := by unfold placedB at hp; simpa using hp
      have hw : wrap64 (x.f0 + szOf x.f1) = x.f0 + szOf x.f1 := by unfold wrap64; omega
      have hj : ∀ acc : List Int, acc.length ≤ 5 → Ev (fun k => provisoref05_Next.j1 k acc x.f0 x.f1 x.f2 x.f3) (if jumpsB x.f1 = true then ins x.f2 acc else acc) := fun acc ha => by
        by_cases hj : jumpsB x.f1 = true
        · rw [if_pos hj]
          refine Ev.step (f := fun k => (provisoref05_put.f k acc x.f2).bind (fun t => some t)) (fun k => ?_) (Ev.bind (put_ev x.f2 acc (by omega)) (Ev.now _))
          simp only [provisoref05_Next.j1, rjumps_is, Option.bind_some]
          rw [if_pos hj]
        · rw [if_neg hj]
          refine Ev.step (f := fun _ => some acc) (fun k => ?_) (Ev.now _)
          simp only [provisoref05_Next.j1, rjumps_is, Option.bind_some]
          rw [if_neg hj]
      by_cases he : endsB x.f1 = true
      · refine Ev.step (f := fun k => provisoref05_Next.j1 k [] x.f0 x.f1 x.f2 x.f3) (fun k => ?_) ?_
        · simp only [provisoref05_Next.j0, rends_is, Option.bind_some, Bool.false_eq_true, if_false]
          rw [if_pos he]
        · have h := hj [] (by simp)
          unfold nextKeys
          rw [if_pos he]
          split at h
          · rename_i hjj; rw [if_pos hjj]; exact h
          · rename_i hjj; rw [if_neg hjj]; exact h
      · refine Ev.step (f := fun k => (provisoref05_put.f k [] (x.f0 + szOf x.f1)).bind (fun t => provisoref05_Next.j1 k t x.f0 x.f1 x.f2 x.f3)) (fun k => ?_) ?_
        · simp only [provisoref05_Next.j0, rends_is, Option.bind_some, Bool.false_eq_true, if_false]
          rw [if_neg he, hw]
        · refine Ev.bind (put_ev _ [] (by simp)) ?_
          have h := hj (ins (x.f0 + szOf x.f1) []) (by simp [ins])
          unfold nextKeys
          rw [if_neg he]
          split at h
          · rename_i hjj; rw [if_pos hjj]; exact h
          · rename_i hjj; rw [if_neg hjj]; exact h
    · have hp' : placedB x.f0 = false := by simpa using hp
      simp only [hp', Bool.not_false, Bool.false_eq_true, if_false]
      refine Ev.step (f := fun _ => some []) (fun k => ?_) (Ev.now _)
      simp only [provisoref05_Next.j0, if_true]
theorem nextL_len (x : S46) : (nextL x).length ≤ 2 := by
  unfold nextL
  split
  · simp
  · split
    · unfold nextKeys srt
      have h1 := ins_len (x.f0 + szOf x.f1) []
      have h2 := ins_len x.f2 []
      have h3 := ins_len x.f2 (ins (x.f0 + szOf x.f1) [])
      split <;> split <;> simp at * <;> omega
    · simp
end Go.Proofs.Ytcffniaieegbgaa.Pure

end

section
namespace Go.Proofs.Ytcffniaieegbgaa.Pure
open Go.RowKit Go.Proofs.Ytcffniaieegbgaa.P Go.Proofs.YtcffniaieegbgaaW.PrintWords
set_option linter.unusedSimpArgs false
set_option linter.unusedVariables false
theorem nodup_len : ∀ (a m : List Int), a.Nodup → (∀ x ∈ a, x ∈ m) → a.length ≤ m.length
  | [], m, _, _ => by simp
  | x :: r, m, hn, hs => by
    have h1 := List.nodup_cons.1 hn
    have hx := hs x List.mem_cons_self
    have h2 : r.length ≤ (m.erase x).length := nodup_len r (m.erase x) h1.2 (fun y hy => by
      have hne : y ≠ x := fun e => h1.1 (e ▸ hy)
      exact (List.mem_erase_of_ne hne).2 (hs y (List.mem_cons_of_mem _ hy)))
    rw [List.length_erase_of_mem hx] at h2
    have : 0 < m.length := List.length_pos_of_mem hx
    simp
    omega
theorem firstAt_mem : ∀ (l : List S46) (j : Nat) (x v : Int), firstAt l j x = some v → x ∈ l.map (·.f0)
  | [], j, x, v, h => by cases h
  | y :: r, j, x, v, h => by
    unfold firstAt at h
    split at h
    · rename_i e; rw [← e]; simp
    · exact List.mem_map.2 (by
        obtain ⟨z, hz, e⟩ := List.mem_map.1 (firstAt_mem r (j + 1) x v h)
        exact ⟨z, List.mem_cons_of_mem _ hz, e⟩)
theorem firstAt_at : ∀ (l : List S46) (j i : Nat) (x : Int), firstAt l j x = some ((j + i : Nat) : Int) → i < l.length → (l.getD i z46).f0 = x
  | [], j, i, x, h, _ => by cases h
  | y :: r, j, i, x, h, hi => by
    unfold firstAt at h
    split at h
    · rename_i e
      have h9 := Option.some.inj h
      have : i = 0 := by omega
      subst this
      exact e
    · cases i with
      | zero =>
        obtain ⟨i', h1, h2⟩ := firstAt_lt r (j + 1) x _ h
        omega
      | succ i =>
        have h9 := firstAt_at r (j + 1) i x (by rw [h]; congr 2; omega) (by simpa using hi)
        simpa using h9
theorem firstAt_idx {l : List S46} {x v : Int} (h : firstAt l 0 x = some v) : ∃ i : Nat, v = (i : Int) ∧ i < l.length ∧ (rd_T46 l v).f0 = x := by
  obtain ⟨i, h1, h2⟩ := firstAt_lt l 0 x v h
  rw [Nat.zero_add] at h1
  subst h1
  refine ⟨i, rfl, h2, ?_⟩
  unfold rd_T46
  rw [Int.toNat_natCast]
  exact firstAt_at l 0 i x (by rw [Nat.zero_add]; exact h) h2
def nxA (l : List S46) (a : Int) : List Int := match firstAt l 0 a with | some i => nextL (rd_T46 l i) | none => []
inductive Rch (l : List S46) (a0 : Int) : Int → Prop
  | base : (firstAt l 0 a0).isSome = true → Rch l a0 a0
  | step {a b : Int} : Rch l a0 a → b ∈ nxA l a → (firstAt l 0 b).isSome = true → Rch l a0 b
theorem Rch.there {l : List S46} {a0 a : Int} (h : Rch l a0 a) : (firstAt l 0 a).isSome = true := by cases h <;> assumption
theorem Rch.le {l : List S46} {a0 : Int} {s : List Int} (hn : s.Nodup) (h : ∀ x ∈ s, Rch l a0 x) : s.length ≤ l.length := by
  have := nodup_len s (l.map (·.f0)) hn (fun x hx => by
    have h1 := (h x hx).there
    cases h2 : firstAt l 0 x with
    | none => rw [h2] at h1; cases h1
    | some v => exact firstAt_mem l 0 x v h2)
  simpa using this
theorem Rch.closed {l : List S46} {a0 : Int} {s : List Int} (h0 : (firstAt l 0 a0).isSome = true → a0 ∈ s) (hc : ∀ a ∈ s, ∀ b ∈ nxA l a, (firstAt l 0 b).isSome = true → b ∈ s) {a : Int} (h : Rch l a0 a) : a ∈ s := by
  induction h with
  | base h => exact h0 h
  | step _ hb hs ih => exact hc _ ih _ hb hs
end Go.Proofs.Ytcffniaieegbgaa.Pure

end

section
namespace Go.Proofs.Ytcffniaieegbgaa.Pure
open Go.RowKit Go.Proofs.Ytcffniaieegbgaa.P Go.Proofs.YtcffniaieegbgaaW.PrintWords
set_option linter.unusedSimpArgs false
set_option linter.unusedVariables false
def plc (l : List S46) (a : Int) : Int := (firstAt l 0 a).getD (-1)
theorem place_go (l : List S46) (hl : l.length ≤ 9223372036854775807) (a : Int) : ∀ (d i : Nat), l.length - i = d → i ≤ l.length → Ev (fun k => provisoref05_Place.l0 k a l (l.length : Int) (i : Int)) ((firstAt (l.drop i) i a).getD (-1))
  | 0, i, hd, hi => by
    obtain rfl : i = l.length := by omega
    refine Ev.step (f := fun _ => some (-1)) (fun k => ?_) (by rw [List.drop_length]; exact Ev.now _)
    simp only [provisoref05_Place.l0]
    rw [if_neg (by omega)]
  | d + 1, i, hd, hi => by
    have h1 : i < l.length := by omega
    rw [drop_atI h1]
    unfold firstAt
    by_cases h2 : (rd_T46 l (i : Int)).f0 = a
    · rw [if_pos h2]
      refine Ev.step (f := fun _ => some (i : Int)) (fun k => ?_) (Ev.now _)
      simp only [provisoref05_Place.l0]
      rw [if_pos (by omega), if_pos (by omega), if_pos (by omega), if_pos h2]
    · rw [if_neg h2]
      have ih := place_go l hl a d (i + 1) (by omega) (by omega)
      refine Ev.step (fun k => ?_) ih
      simp only [provisoref05_Place.l0]
      rw [if_pos (by omega), if_pos (by omega), if_pos (by omega), if_neg h2, wrap_one h1 hl]
theorem place_ev (l : List S46) (hl : l.length ≤ 9223372036854775807) (a : Int) : Ev (fun k => provisoref05_Place.f k l a) (plc l a) := by
  have h := place_go l hl a l.length 0 (by omega) (by omega)
  rw [List.drop_zero] at h
  exact h
def stepM (l : List S46) (s : List Bool × List Int) (b : Int) : List Bool × List Int := match firstAt l 0 b with
  | none => s
  | some j => if rdOf false s.1 j = true then s else (s.1.set j.toNat true, s.2 ++ [j])
theorem set_count : ∀ (m : List Bool) (j : Nat), j < m.length → m.getD j false = false → (m.set j true).count false + 1 = m.count false
  | [], j, h, _ => by simp at h
  | b :: m, 0, h, h2 => by
    have : b = false := h2
    subst this
    simp
  | b :: m, j + 1, h, h2 => by
    have ih := set_count m j (by simpa using h) (by simpa using h2)
    cases b <;> simp [List.set_cons_succ, List.count_cons] <;> omega
structure Inv (l : List S46) (a0 : Int) (met : List Bool) (op : List Int) : Prop where
  len : met.length = l.length
  inn : ∀ j ∈ op, ∃ i : Nat, j = (i : Int) ∧ i < l.length ∧ met.getD i false = true
  rch : ∀ i : Nat, met.getD i false = true → firstAt l 0 (l.getD i z46).f0 = some (i : Int) ∧ Rch l a0 (l.getD i z46).f0
def Marked (l : List S46) (met : List Bool) (b : Int) : Prop := ∃ i : Nat, firstAt l 0 b = some (i : Int) ∧ met.getD i false = true
theorem getD_set (m : List Bool) (j i : Nat) (hj : j < m.length) : (m.set j true).getD i false = if i = j then true else m.getD i false := by
  simp only [List.getD_eq_getElem?_getD, List.getElem?_set]
  by_cases e : j = i
  · subst e
    rw [if_pos rfl, if_pos hj, if_pos rfl]; rfl
  · rw [if_neg e, if_neg (Ne.symm e)]
theorem stepM_ok {l : List S46} {a0 : Int} {met : List Bool} {op : List Int} (h : Inv l a0 met op) {a : Int} (ha : Rch l a0 a) {b : Int} (hb : b ∈ nxA l a) :
    Inv l a0 (stepM l (met, op) b).1 (stepM l (met, op) b).2 ∧ (stepM l (met, op) b).2.length + (stepM l (met, op) b).1.count false = op.length + met.count false ∧ (∀ i : Nat, met.getD i false = true → (stepM l (met, op) b).1.getD i false = true) ∧ ((firstAt l 0 b).isSome = true → Marked l (stepM l (met, op) b).1 b) ∧ (∀ i : Nat, (stepM l (met, op) b).1.getD i false = true → met.getD i false = true ∨ (i : Int) ∈ (stepM l (met, op) b).2) ∧ (∀ j ∈ op, j ∈ (stepM l (met, op) b).2) := by
  unfold stepM
  cases hf : firstAt l 0 b with
  | none => exact ⟨h, rfl, fun _ h => h, (fun h => by cases h), fun _ h => .inl h, fun _ h => h⟩
  | some j =>
    obtain ⟨i, rfl, hi, he⟩ := firstAt_idx hf
    have hr : rdOf false met (i : Int) = met.getD i false := by unfold rdOf; rw [Int.toNat_natCast]
    simp only [hr, Int.toNat_natCast]
    by_cases hm : met.getD i false = true
    · rw [if_pos hm]
      exact ⟨h, rfl, fun _ h => h, fun _ => ⟨i, hf, hm⟩, fun _ h => .inl h, fun _ h => h⟩
    · rw [if_neg hm]
      have hml : i < met.length := by rw [h.len]; exact hi
      have hm' : met.getD i false = false := by simpa using hm
      have hg := fun x => getD_set met i x hml
      have hrch : Rch l a0 b := Rch.step ha hb (by rw [hf]; rfl)
      have he' : (l.getD i z46).f0 = b := by
        unfold rd_T46 at he
        rw [Int.toNat_natCast] at he
        exact he
      refine ⟨⟨by simp [h.len], fun j hj => ?_, fun x hx => ?_⟩, ?_, fun x hx => ?_, fun _ => ⟨i, hf, ?_⟩, fun x hx => ?_, fun j hj => List.mem_append.2 (.inl hj)⟩
      · rcases List.mem_append.1 hj with hj | hj
        · obtain ⟨x, h1, h2, h3⟩ := h.inn j hj
          exact ⟨x, h1, h2, by rw [hg]; split <;> first | rfl | exact h3⟩
        · exact ⟨i, List.mem_singleton.1 hj, hi, by rw [hg, if_pos rfl]⟩
      · rw [hg] at hx
        by_cases e : x = i
        · subst e
          rw [he']
          exact ⟨hf, hrch⟩
        · rw [if_neg e] at hx
          exact h.rch x hx
      · have := set_count met i hml hm'
        simp only [List.length_append, List.length_singleton]
        omega
      · rw [hg]; split <;> first | rfl | exact hx
      · rw [hg, if_pos rfl]
      · rw [hg] at hx
        by_cases e : x = i
        · subst e; exact .inr (by simp)
        · rw [if_neg e] at hx
          exact .inl hx
theorem fold_ok {l : List S46} {a0 : Int} {a : Int} (ha : Rch l a0 a) : ∀ (bs : List Int), (∀ b ∈ bs, b ∈ nxA l a) → ∀ (met : List Bool) (op : List Int), Inv l a0 met op →
    Inv l a0 (bs.foldl (stepM l) (met, op)).1 (bs.foldl (stepM l) (met, op)).2 ∧ (bs.foldl (stepM l) (met, op)).2.length + (bs.foldl (stepM l) (met, op)).1.count false = op.length + met.count false ∧ (∀ i : Nat, met.getD i false = true → (bs.foldl (stepM l) (met, op)).1.getD i false = true) ∧ (∀ b ∈ bs, (firstAt l 0 b).isSome = true → Marked l (bs.foldl (stepM l) (met, op)).1 b) ∧ (∀ i : Nat, (bs.foldl (stepM l) (met, op)).1.getD i false = true → met.getD i false = true ∨ (i : Int) ∈ (bs.foldl (stepM l) (met, op)).2) ∧ (∀ j ∈ op, j ∈ (bs.foldl (stepM l) (met, op)).2)
  | [], _, met, op, h => ⟨h, rfl, fun _ h => h, (fun b hb => by cases hb), fun _ h => .inl h, fun _ h => h⟩
  | b :: bs, hbs, met, op, h => by
    obtain ⟨i1, c1, k1, m1, w1, o1⟩ := stepM_ok h ha (hbs b List.mem_cons_self)
    obtain ⟨i2, c2, k2, m2, w2, o2⟩ := fold_ok ha bs (fun x hx => hbs x (List.mem_cons_of_mem _ hx)) (stepM l (met, op) b).1 (stepM l (met, op) b).2 i1
    rw [List.foldl_cons]
    refine ⟨i2, by rw [c2, c1], fun i hi => k2 i (k1 i hi), fun x hx hp => ?_, fun i hi => ?_, fun j hj => o2 j (o1 j hj)⟩
    · rcases List.mem_cons.1 hx with rfl | hx
      · obtain ⟨i, h1, h2⟩ := m1 hp
        exact ⟨i, h1, k2 i h2⟩
      · exact m2 x hx hp
    · rcases w2 i hi with h | h
      · rcases w1 i h with h | h
        · exact .inl h
        · exact .inr (o2 _ h)
      · exact .inr h
theorem inner_go (l : List S46) (hl : l.length < 4398046511104) (out bs : List Int) (hbl : bs.length ≤ 9223372036854775807) (r : List Int) : ∀ (d i : Nat) (met : List Bool) (op : List Int), bs.length - i = d → i ≤ bs.length → met.length = l.length → op.length + d ≤ 17592186044416 → Ev (fun k => provisoref05_Reach.l0 k l ((bs.drop i).foldl (stepM l) (met, op)).1 ((bs.drop i).foldl (stepM l) (met, op)).2 out) r → Ev (fun k => provisoref05_Reach.l1 k l met op out bs (bs.length : Int) (i : Int)) r
  | 0, i, met, op, hd, hi, hm, ho, h => by
    obtain rfl : i = bs.length := by omega
    rw [List.drop_length] at h
    refine Ev.step (fun k => ?_) h
    simp only [provisoref05_Reach.l1]
    rw [if_neg (by omega)]
    rfl
  | d + 1, i, met, op, hd, hi, hm, ho, h => by
    have h1 : i < bs.length := by omega
    rw [drop_at h1, List.foldl_cons] at h
    have hp := place_ev l (by omega) (rd bs (i : Int))
    refine Ev.step (f := fun k => (provisoref05_Place.f k l (rd bs (i : Int))).bind (fun t222 => (if t222 ≥ 0 then (if 0 ≤ t222 then (if t222 < (met.length : Int) then (if rdOf false met t222 = true then (provisoref05_Reach.l1 k l met op out bs (bs.length : Int) (wrap64 ((i : Int) + 1))) else (if op.length < 17592186044416 then (provisoref05_Reach.l1 k l (met.set (t222 : Int).toNat true) (op ++ [t222]) out bs (bs.length : Int) (wrap64 ((i : Int) + 1))) else (none))) else (none)) else (none)) else (provisoref05_Reach.l1 k l met op out bs (bs.length : Int) (wrap64 ((i : Int) + 1)))))) (fun k => ?_) (Ev.bind hp ?_)
    · simp only [provisoref05_Reach.l1]
      rw [if_pos (by omega), if_pos (by omega), if_pos (by omega)]
    · rw [wrap_one h1 hbl]
      unfold plc
      unfold stepM at h
      cases hf : firstAt l 0 (rd bs (i : Int)) with
      | none =>
        rw [hf] at h
        simp only [Option.getD_none]
        have ih := inner_go l hl out bs hbl r d (i + 1) met op (by omega) (by omega) hm (by omega) h
        refine Ev.congr (fun k => ?_) ih
        rw [if_neg (by omega)]
      | some j =>
        obtain ⟨jj, rfl, hj, _⟩ := firstAt_idx hf
        rw [hf] at h
        simp only [Option.getD_some]
        by_cases hm2 : rdOf false met (jj : Int) = true
        · simp only [if_pos hm2] at h
          have ih := inner_go l hl out bs hbl r d (i + 1) met op (by omega) (by omega) hm (by omega) h
          refine Ev.congr (fun k => ?_) ih
          rw [if_pos (by omega), if_pos (by omega), if_pos (by omega), if_pos hm2]
        · simp only [if_neg hm2] at h
          have ih := inner_go l hl out bs hbl r d (i + 1) (met.set (jj : Int).toNat true) (op ++ [(jj : Int)]) (by omega) (by omega) (by simp [hm]) (by simp; omega) h
          refine Ev.congr (fun k => ?_) ih
          rw [if_pos (by omega), if_pos (by omega), if_pos (by omega), if_neg hm2, if_pos (by omega)]
theorem strict_nodup {l : List Int} (h : l.Pairwise (· < ·)) : l.Nodup := h.imp (fun h => by omega)
theorem rreach_go (l : List S46) (hl : l.length < 4398046511104) (a0 : Int) : ∀ (d : Nat) (met : List Bool) (op out : List Int), op.length + met.count false = d → op.length + met.count false ≤ l.length → Inv l a0 met op → out.Pairwise (· < ·) → (∀ x ∈ out, Rch l a0 x) → (∀ x ∈ out, ∀ b ∈ nxA l x, (firstAt l 0 b).isSome = true → Marked l met b) → (∀ i : Nat, met.getD i false = true → (l.getD i z46).f0 ∈ out ∨ (i : Int) ∈ op) → ((firstAt l 0 a0).isSome = true → Marked l met a0) →
    ∃ r, Ev (fun k => provisoref05_Reach.l0 k l met op out) r ∧ r.Pairwise (· < ·) ∧ (∀ x, x ∈ r ↔ Rch l a0 x) := by
  intro d
  induction d with
  | zero =>
    intro met op out hd hlen hI hs hr hc hm h0
    have : op = [] := List.length_eq_zero_iff.1 (by omega)
    subst this
    refine ⟨out, Ev.step (f := fun _ => some out) (fun k => by simp only [provisoref05_Reach.l0]; rw [if_neg (by simp)]) (Ev.now _), hs, fun x => ⟨hr x, fun h => h.closed (s := out) (fun h9 => ?_) (fun a ha b hb hb2 => ?_)⟩⟩
    · obtain ⟨i, h1, h2⟩ := h0 h9
      rcases hm i h2 with h | h
      · obtain ⟨i', e1, _, e2⟩ := firstAt_idx h1
        have e1 : i = i' := by omega
        subst e1
        unfold rd_T46 at e2
        rw [Int.toNat_natCast] at e2
        rwa [e2] at h
      · cases h
    · obtain ⟨i, h1, h2⟩ := hc a ha b hb hb2
      rcases hm i h2 with h | h
      · obtain ⟨i', e1, _, e2⟩ := firstAt_idx h1
        have e1 : i = i' := by omega
        subst e1
        unfold rd_T46 at e2
        rw [Int.toNat_natCast] at e2
        rwa [e2] at h
      · cases h
  | succ d ih =>
    intro met op out hd hlen hI hs hr hc hm h0
    cases op with
    | nil =>
      refine ⟨out, Ev.step (f := fun _ => some out) (fun k => by simp only [provisoref05_Reach.l0]; rw [if_neg (by simp)]) (Ev.now _), hs, fun x => ⟨hr x, fun h => h.closed (s := out) (fun h9 => ?_) (fun a ha b hb hb2 => ?_)⟩⟩
      · obtain ⟨i, h1, h2⟩ := h0 h9
        rcases hm i h2 with h | h
        · obtain ⟨i', e1, _, e2⟩ := firstAt_idx h1
          have e1 : i = i' := by omega
          subst e1
          unfold rd_T46 at e2
          rw [Int.toNat_natCast] at e2
          rwa [e2] at h
        · cases h
      · obtain ⟨i, h1, h2⟩ := hc a ha b hb hb2
        rcases hm i h2 with h | h
        · obtain ⟨i', e1, _, e2⟩ := firstAt_idx h1
          have e1 : i = i' := by omega
          subst e1
          unfold rd_T46 at e2
          rw [Int.toNat_natCast] at e2
          rwa [e2] at h
        · cases h
    | cons j op =>
      obtain ⟨i, rfl, hi, hmi⟩ := hI.inn j List.mem_cons_self
      obtain ⟨hfi, hRi⟩ := hI.rch i hmi
      obtain ⟨x, hx⟩ : ∃ x, x = l.getD i z46 := ⟨_, rfl⟩
      have hxr : rd_T46 l (i : Int) = x := by rw [hx]; unfold rd_T46; rw [Int.toNat_natCast]
      rw [← hx] at hfi hRi
      have hnx : nxA l x.f0 = nextL x := by unfold nxA; rw [hfi]; simp only [hxr]
      have hnl := nextL_len x
      have hol := Rch.le (strict_nodup hs) hr
      simp only [List.length_cons] at hd hlen
      have hI2 : Inv l a0 met op := ⟨hI.len, fun j hj => hI.inn j (List.mem_cons_of_mem _ hj), hI.rch⟩
      obtain ⟨q1, q2, q3, q4, q5, q6⟩ := fold_ok hRi (nextL x) (fun b hb => by rw [hnx]; exact hb) met op hI2
      obtain ⟨r, h1, h2⟩ := ih ((nextL x).foldl (stepM l) (met, op)).1 ((nextL x).foldl (stepM l) (met, op)).2 (ins x.f0 out) (by omega) (by omega) q1 (ins_strict _ _ hs)
        (fun y hy => by
          rcases (ins_mem _ _ _).1 hy with rfl | h
          · exact hRi
          · exact hr y h)
        (fun y hy b hb hb2 => by
          rcases (ins_mem _ _ _).1 hy with rfl | h
          · exact q4 b (by rw [← hnx]; exact hb) hb2
          · obtain ⟨z, e1, e2⟩ := hc y h b hb hb2
            exact ⟨z, e1, q3 z e2⟩)
        (fun z hz => by
          rcases q5 z hz with h | h
          · rcases hm z h with h | h
            · exact .inl ((ins_mem _ _ _).2 (.inr h))
            · rcases List.mem_cons.1 h with h | h
              · have : z = i := by omega
                subst this
                rw [← hx]
                exact .inl ((ins_mem _ _ _).2 (.inl rfl))
              · exact .inr (q6 _ h)
          · exact .inr h)
        (fun h9 => by
          obtain ⟨z, e1, e2⟩ := h0 h9
          exact ⟨z, e1, q3 z e2⟩)
      refine ⟨r, ?_, h2⟩
      have hin := inner_go l hl (ins x.f0 out) (nextL x) (by omega) r (nextL x).length 0 met op (by omega) (by omega) hI.len (by omega) (by rw [List.drop_zero]; exact h1)
      refine Ev.step (f := fun k => (provisoref05_put.f k out x.f0).bind (fun t214 => ((provisoref05_Next.f k x.f0 x.f1 x.f2 x.f3).bind fun t218 => (provisoref05_Reach.l1 k l met op t214 t218 (t218.length : Int) 0)))) (fun k => ?_) (Ev.bind (put_ev _ _ (by omega)) (Ev.bind (next_ev x) hin))
      have hr0 : rd ((i : Int) :: op) 0 = (i : Int) := rfl
      simp only [provisoref05_Reach.l0, hr0, hxr]
      rw [if_pos (by simp only [List.length_cons]; omega), if_pos (by simp only [List.length_cons]; omega), if_pos (by simp only [List.length_cons]; omega), if_pos (by omega), if_pos (by omega)]
      rfl
theorem rreach_ev (l : List S46) (hl : l.length < 4398046511104) (a0 : Int) : ∃ r, Ev (fun k => provisoref05_Reach.f k l a0) r ∧ r.Pairwise (· < ·) ∧ (∀ x, x ∈ r ↔ Rch l a0 x) := by
  have hp := place_ev l (by omega) a0
  have hbeg : ∀ k, provisoref05_Reach.f k l a0 = (provisoref05_Place.f k l a0).bind fun t204 => (if t204 < 0 then (some ([] : List Int)) else (if 0 ≤ t204 then (if t204 < (l.length : Int) then (provisoref05_Reach.l0 k l ((List.replicate l.length false).set (t204 : Int).toNat true) (([t204] : List Int)) ([] : List Int)) else (none)) else (none))) := fun k => by
    unfold provisoref05_Reach.f
    rw [if_pos (by omega), if_pos (by omega)]
    simp only [Option.bind_some, Int.toNat_natCast, List.length_replicate]
  cases hf : firstAt l 0 a0 with
  | none =>
    refine ⟨[], Ev.congr hbeg (Ev.bind hp ?_), List.Pairwise.nil, fun x => ⟨fun h => (by cases h), fun h => ?_⟩⟩
    · unfold plc
      rw [hf]
      exact Ev.now _
    · have : ∀ x, Rch l a0 x → False := fun x h => by
        induction h with
        | base h => rw [hf] at h; cases h
        | step _ _ _ ih => exact ih
      exact (this x h).elim
  | some j =>
    obtain ⟨i, rfl, hi, he⟩ := firstAt_idx hf
    have he' : (l.getD i z46).f0 = a0 := by
      unfold rd_T46 at he
      rw [Int.toNat_natCast] at he
      exact he
    have hg : ∀ x, ((List.replicate l.length false).set i true).getD x false = if x = i then true else false := fun x => by
      rw [getD_set _ _ _ (by simpa using hi)]
      by_cases e : x = i
      · rw [if_pos e, if_pos e]
      · rw [if_neg e, if_neg e, List.getD_eq_getElem?_getD, List.getElem?_replicate]
        split <;> rfl
    have hcnt := set_count (List.replicate l.length false) i (by simpa using hi) (by rw [List.getD_eq_getElem?_getD, List.getElem?_replicate]; split <;> rfl)
    rw [List.count_replicate_self] at hcnt
    obtain ⟨r, h1, h2⟩ := rreach_go l hl a0 _ ((List.replicate l.length false).set i true) [(i : Int)] [] rfl (by simp only [List.length_singleton]; omega)
      ⟨by simp, fun j hj => ⟨i, List.mem_singleton.1 hj, hi, by rw [hg, if_pos rfl]⟩, fun x hx => by
        rw [hg] at hx
        by_cases e : x = i
        · subst e
          rw [he']
          exact ⟨hf, Rch.base (by rw [hf]; rfl)⟩
        · rw [if_neg e] at hx; cases hx⟩ List.Pairwise.nil (fun x hx => by cases hx) (fun x hx => by cases hx) (fun x hx => by
        rw [hg] at hx
        by_cases e : x = i
        · subst e; exact .inr (by simp)
        · rw [if_neg e] at hx; cases hx) (fun _ => ⟨i, hf, by rw [hg, if_pos rfl]⟩)
    refine ⟨r, Ev.congr hbeg (Ev.bind hp ?_), h2⟩
    unfold plc
    rw [hf]
    simp only [Option.getD_some]
    refine Ev.congr (fun k => ?_) h1
    rw [if_neg (by omega), if_pos (by omega), if_pos (by omega), Int.toNat_natCast]
end Go.Proofs.Ytcffniaieegbgaa.Pure

end

section
namespace Go.Proofs.Ytcffniaieegbgaa.Pure
open Go.RowKit Go.Proofs.Ytcffniaieegbgaa.P Go.Proofs.YtcffniaieegbgaaW.PrintWords
set_option linter.unusedSimpArgs false
set_option linter.unusedVariables false
theorem rd_mem {l : List Int} {i : Nat} (h : i < l.length) : rd l (i : Int) ∈ l := by
  have hr : rd l (i : Int) = l[i] := by simp [rd, List.getD_eq_getElem?_getD, h]
  rw [hr]; exact List.getElem_mem h
theorem take_go (l : List Int) (hb : ∀ x ∈ l, 0 ≤ x ∧ x ≤ 255) (wd : Nat) (h4 : wd ≤ 4) (hl : wd ≤ l.length) (hm : l.length ≤ 9223372036854775807) : ∀ (d i : Nat), wd - i = d → i ≤ wd → Ev (fun k => provisoref04_take.l0 k l (wd : Int) (numOf (l.take i)) (i : Int)) (opnd (l.take wd))
  | 0, i, hd, hi => by
    obtain rfl : i = wd := by omega
    have hlt : (l.take i).length = i := by rw [List.length_take]; omega
    have hs := num_small (l.take i) (fun x hx => hb x (List.mem_of_mem_take hx)) (by omega)
    refine Ev.step (f := fun _ => some (opnd (l.take i))) (fun k => ?_) (Ev.now _)
    simp only [provisoref04_take.l0]
    rw [if_neg (by omega)]
    unfold opnd
    rw [hlt]
    by_cases e : i = 4
    · rw [if_pos (by omega), if_pos e]
      split
      · congr 1
        unfold wrap64; omega
      · rfl
    · rw [if_neg (by omega), if_neg e]
  | d + 1, i, hd, hi => by
    have h1 : i < l.length := by omega
    have ih := take_go l hb wd h4 hl hm d (i + 1) (by omega) (by omega)
    have hs := num_small (l.take i) (fun x hx => hb x (List.mem_of_mem_take hx)) (by rw [List.length_take]; omega)
    have hx := hb _ (rd_mem h1)
    rw [num_take l i h1] at ih
    have hs2 : numOf (l.take i) < 16777216 := by
      have h9 := num_bound (l.take i) (fun x hx => hb x (List.mem_of_mem_take hx)) 0 (Int.le_refl _)
      rw [List.length_take, Nat.min_eq_left (by omega)] at h9
      have hp : (256 : Int) ^ i ≤ 16777216 := by
        have : i = 0 ∨ i = 1 ∨ i = 2 ∨ i = 3 := by omega
        rcases this with rfl | rfl | rfl | rfl <;> decide
      unfold numOf
      omega
    refine Ev.step (fun k => ?_) ih
    simp only [provisoref04_take.l0]
    rw [if_pos (by omega), if_pos (by omega), if_pos (by omega), wrap_one h1 hm]
    have e1 : wrap64 ((wrap64 (256 * numOf (l.take i))) + (wrap64 (rd l (i : Int)))) = numOf (l.take i) * 256 + rd l (i : Int) := by unfold wrap64; omega
    rw [e1]
theorem take_ev (l : List Int) (hb : ∀ x ∈ l, 0 ≤ x ∧ x ≤ 255) (wd : Nat) (h4 : wd ≤ 4) (hl : wd ≤ l.length) (hm : l.length ≤ 9223372036854775807) : Ev (fun k => provisoref04_take.f k l (wd : Int)) (opnd (l.take wd)) := by
  have h := take_go l hb wd h4 hl hm wd 0 (by omega) (by omega)
  exact h
theorem opnd_range (seg : List Int) (hb : ∀ x ∈ seg, 0 ≤ x ∧ x ≤ 255) (h4 : seg.length ≤ 4) : -2147483648 ≤ opnd seg ∧ opnd seg ≤ 4294967295 := by
  have := num_small seg hb h4
  unfold opnd
  split
  · split <;> omega
  · omega
theorem decW_nat (op : Int) : ∃ wa wb : Nat, (decW op).1 = (wa : Int) ∧ (decW op).2 = (wb : Int) ∧ wa ≤ 4 ∧ wb ≤ 1 := by
  have h := decW_range op
  generalize (decW op).1 = a at h ⊢
  generalize (decW op).2 = b at h ⊢
  exact ⟨a.toNat, b.toNat, by omega, by omega, by omega, by omega⟩
theorem dec_len (op : Int) (n i : Nat) (h0 : ¬ szOf op = 0) (h1 : ¬ (n : Int) - (i : Int) < szOf op) : ∃ wa wb : Nat, (decW op).1 = (wa : Int) ∧ (decW op).2 = (wb : Int) ∧ wa ≤ 4 ∧ wb ≤ 1 ∧ wa + wb + i + 1 ≤ n := by
  obtain ⟨wa, wb, hwa, hwb, hwa4, hwb1⟩ := decW_nat op
  have hsz : szOf op = if op ≥ 34 then 0 else 1 + (wa : Int) + (wb : Int) := by rw [szOf_is, hwa, hwb]
  refine ⟨wa, wb, hwa, hwb, hwa4, hwb1, ?_⟩
  clear hwa hwb
  generalize szOf op = s at h0 h1 hsz
  split at hsz
  · exact absurd hsz h0
  · omega
theorem decode_ev (l : List Int) (hb : ∀ x ∈ l, 0 ≤ x ∧ x ≤ 255) (hm : l.length ≤ 4096) (i : Nat) (hi : i < l.length) : Ev (fun k => provisoref04_Decode.f k l (i : Int)) (decL l i) := by
  unfold decL
  obtain ⟨op, hop⟩ : ∃ op, op = rd l (i : Int) := ⟨_, rfl⟩
  rw [← hop]
  have hbeg : ∀ k, provisoref04_Decode.f k l (i : Int) = provisoref04_Decode.j0 k l (i : Int) false 0 0 0 0 := fun k => by
    unfold provisoref04_Decode.f
    rw [if_neg (by omega), decide_eq_false (by omega)]
  refine Ev.congr hbeg ?_
  have hstep : ∀ k, provisoref04_Decode.j0 (k + 1) l (i : Int) false 0 0 0 0 = (provisoref04_Size.f k op).bind fun t107 => (if t107 = 0 then (some (0, 0, 0, 0, 40)) else (if ((l.length : Int) - (i : Int)) < t107 then (some (0, 0, 0, 0, 2)) else ((provisoref04_wide.f k op).bind fun bt108 => (if 0 ≤ ((i : Int) + 1) then (if ((i : Int) + 1) ≤ (l.length : Int) then ((provisoref04_take.f k (l.drop (i + 1)) bt108.1).bind fun t111 => (if 0 ≤ (wrap64 ((i : Int) + 1 + bt108.1)) then (if (wrap64 ((i : Int) + 1 + bt108.1)) ≤ (l.length : Int) then ((provisoref04_take.f k (l.drop ((wrap64 ((i : Int) + 1 + bt108.1)) : Int).toNat) bt108.2).bind fun t113 => (if op = 2 then (if t111 > 1 then (some (0, 0, 0, 0, 5)) else (some ((i : Int), op, t111, t113, 0))) else (some ((i : Int), op, t111, t113, 0)))) else (none)) else (none))) else (none)) else (none))))) := fun k => by
    simp only [provisoref04_Decode.j0]
    have e1 : wrap64 ((l.length : Int) - (i : Int)) = (l.length : Int) - (i : Int) := by unfold wrap64; omega
    have e2 : wrap64 ((i : Int) + 1) = (i : Int) + 1 := by unfold wrap64; omega
    rw [if_neg (by decide), if_neg (by omega), if_pos (by omega), if_pos (by omega), ← hop, e1, e2, show ((i : Int) + 1).toNat = i + 1 by omega]
  refine Ev.step hstep (Ev.bind (rsize_ev op) ?_)
  by_cases h0 : szOf op = 0
  · simp only [if_pos h0]
    exact Ev.now _
  simp only [if_neg h0]
  by_cases h1 : (l.length : Int) - (i : Int) < szOf op
  · simp only [if_pos h1]
    exact Ev.now _
  simp only [if_neg h1]
  obtain ⟨wa, wb, hwa, hwb, hwa4, hwb1, hlen⟩ := dec_len op l.length i h0 h1
  clear h1
  have hwide : Ev (fun k => provisoref04_wide.f k op) ((wa : Int), (wb : Int)) := ⟨2, fun k hk => by
    obtain ⟨m, rfl⟩ : ∃ m, k = m + 2 := ⟨k - 2, by omega⟩
    show provisoref04_wide.f (m + 2) op = _
    rw [wide_is, decW_is, hwa, hwb]⟩
  rw [hwa, hwb, Int.toNat_natCast, Int.toNat_natCast]
  refine Ev.bind hwide ?_
  have hbd : ∀ x ∈ l.drop (i + 1), 0 ≤ x ∧ x ≤ 255 := fun x hx => hb x (List.mem_of_mem_drop hx)
  have hta := take_ev (l.drop (i + 1)) hbd wa (by omega) (by rw [List.length_drop]; omega) (by rw [List.length_drop]; omega)
  have htb := take_ev ((l.drop (i + 1)).drop wa) (fun x hx => hbd x (List.mem_of_mem_drop hx)) wb (by omega) (by rw [List.length_drop, List.length_drop]; omega) (by rw [List.length_drop, List.length_drop]; omega)
  have e3 : wrap64 ((i : Int) + 1 + (wa : Int)) = ((i + 1 + wa : Nat) : Int) := by unfold wrap64; omega
  simp only [e3]
  refine Ev.congr (f := fun k => (provisoref04_take.f k (l.drop (i + 1)) (wa : Int)).bind fun t111 => ((provisoref04_take.f k ((l.drop (i + 1)).drop wa) (wb : Int)).bind fun t113 => (if op = 2 then (if t111 > 1 then (some (0, 0, 0, 0, 5)) else (some ((i : Int), op, t111, t113, 0))) else (some ((i : Int), op, t111, t113, 0))))) (fun k => ?_) (Ev.bind hta (Ev.bind htb ?_))
  · have c1 : (0 : Int) ≤ ((i + 1 + wa : Nat) : Int) := by omega
    have c2 : ((i + 1 + wa : Nat) : Int) ≤ (l.length : Int) := by omega
    rw [if_pos (by omega), if_pos (by omega)]
    simp only [if_pos c1, if_pos c2, Int.toNat_natCast, List.drop_drop]
  · by_cases h2 : op = 2
    · by_cases h3 : opnd ((l.drop (i + 1)).take wa) > 1
      · simp only [if_pos h2, if_pos h3, if_pos (And.intro h2 h3)]
        exact Ev.now _
      · simp only [if_pos h2, if_neg h3, if_neg (show ¬ (op = 2 ∧ opnd ((l.drop (i + 1)).take wa) > 1) from fun h => h3 h.2)]
        exact Ev.now _
    · simp only [if_neg h2, if_neg (show ¬ (op = 2 ∧ opnd ((l.drop (i + 1)).take wa) > 1) from fun h => h2 h.1)]
      exact Ev.now _
theorem pdecode_is (l : List Int) (hb : bytesOk l = true) (i : Nat) (hi : i < l.length) : code_Decode.f l (i : Int) = some (decL l i) := by
  unfold code_Decode.f
  rw [if_pos ⟨by omega, by omega, hb⟩, Int.toNat_natCast]
inductive Seq (l : List Int) : List S46 → Nat → Prop
  | nil : Seq l [] 0
  | snoc {acc : List S46} {i : Nat} {op a b : Int} : Seq l acc i → i < l.length → decL l i = ((i : Int), op, a, b, 0) → 1 ≤ szOf op → (i : Int) + szOf op ≤ (l.length : Int) → I64 a → Seq l (acc ++ [⟨(i : Int), op, a, b⟩]) (i + (szOf op).toNat)
theorem decL_ok {l : List Int} (hb : ∀ x ∈ l, 0 ≤ x ∧ x ≤ 255) {i : Nat} (hi : i < l.length) (h : (decL l i).2.2.2.2 = 0) : ∃ op a b, decL l i = ((i : Int), op, a, b, 0) ∧ 1 ≤ szOf op ∧ (i : Int) + szOf op ≤ (l.length : Int) ∧ I64 a := by
  have hbd : ∀ x ∈ l.drop (i + 1), 0 ≤ x ∧ x ≤ 255 := fun x hx => hb x (List.mem_of_mem_drop hx)
  obtain ⟨wa, wb, hwa, hwb, hwa4, hwb1⟩ := decW_nat (rd l (i : Int))
  have hge : 0 ≤ szOf (rd l (i : Int)) := (szOf_range _).1
  unfold decL at h ⊢
  by_cases h0 : szOf (rd l (i : Int)) = 0
  · rw [if_pos h0] at h
    simp at h
  rw [if_neg h0] at h ⊢
  by_cases h1 : (l.length : Int) - (i : Int) < szOf (rd l (i : Int))
  · rw [if_pos h1] at h
    simp at h
  rw [if_neg h1] at h ⊢
  split at h
  · simp at h
  · rename_i h2
    rw [if_neg h2]
    refine ⟨_, _, _, rfl, (by clear h h2 hwa hwb; generalize szOf (rd l (i : Int)) = s at *; omega), (by clear h h2 hwa hwb; generalize szOf (rd l (i : Int)) = s at *; omega), ?_⟩
    have := opnd_range ((l.drop (i + 1)).take (decW (rd l (i : Int))).1.toNat) (fun x hx => hbd x (List.mem_of_mem_take hx)) (by rw [List.length_take]; omega)
    constructor <;> omega
theorem Seq.le {l : List Int} {acc : List S46} {i : Nat} (h : Seq l acc i) : acc.length ≤ i ∧ i ≤ l.length := by
  induction h with
  | nil => simp
  | snoc _ h1 _ h2 h3 _ ih =>
    rw [List.length_append, List.length_singleton]
    omega
theorem scan_go (l : List Int) (hb : bytesOk l = true) (hm : l.length ≤ 4096) : ∀ (d i : Nat) (acc : List S46), l.length - i ≤ d → Seq l acc i → ∃ (ls : List S46) (a e : Int), Ev (fun k => flow_Scan.l0 k l acc (i : Int)) (ls, a, e) ∧ Ev (fun k => provisoref05_Scan.l0 k l acc (i : Int)) (ls, a, e) ∧ ((e = 0 ∧ a = 0 ∧ Seq l ls l.length) ∨ (e ≠ 0 ∧ ls = [] ∧ (l ≠ [] ∨ True))) := by
  intro d
  induction d with
  | zero =>
    intro i acc hd hs
    have := hs.le
    have e : i = l.length := by omega
    subst e
    refine ⟨acc, 0, 0, Ev.step (f := fun _ => some (acc, 0, 0)) (fun k => ?_) (Ev.now _), Ev.step (f := fun _ => some (acc, 0, 0)) (fun k => ?_) (Ev.now _), .inl ⟨rfl, rfl, hs⟩⟩
    · simp only [flow_Scan.l0]
      rw [if_neg (by omega)]
    · simp only [provisoref05_Scan.l0]
      rw [if_neg (by omega)]
  | succ d ih =>
    intro i acc hd hs
    have hle := hs.le
    by_cases hi : i < l.length
    · have hde := decode_ev l (bytesOk_is hb) hm i hi
      have hdp := pdecode_is l hb i hi
      by_cases h0 : (decL l i).2.2.2.2 = 0
      · obtain ⟨op, a, b, hd1, h1, h2, h3⟩ := decL_ok (bytesOk_is hb) hi h0
        have hz := szOf_range op
        have hs2 := Seq.snoc hs hi hd1 h1 h2 h3
        obtain ⟨ls, a9, e9, e1, e2, hr⟩ := ih (i + (szOf op).toNat) (acc ++ [⟨(i : Int), op, a, b⟩]) (by omega) hs2
        have hw : wrap64 ((i : Int) + szOf op) = ((i + (szOf op).toNat : Nat) : Int) := by unfold wrap64; omega
        refine ⟨ls, a9, e9, ?_, ?_, hr⟩
        · refine Ev.step (f := fun k => (code_Size.f k op).bind (fun t => flow_Scan.l0 k l (acc ++ [⟨(i : Int), op, a, b⟩]) (wrap64 ((i : Int) + t)))) (fun k => ?_) (Ev.bind ?_ (by rw [hw]; exact e1))
          · simp only [flow_Scan.l0]
            rw [if_pos (by omega), hdp, hd1]
            simp only [Option.bind_some, if_true]
            rw [if_pos (by omega)]
          · exact ⟨3, fun k hk => by
              obtain ⟨m, rfl⟩ : ∃ m, k = m + 3 := ⟨k - 3, by omega⟩
              exact size_is m op⟩
        · rw [hd1] at hde
          refine Ev.step (f := fun k => (provisoref04_Decode.f k l (i : Int)).bind (fun bt115 => (if bt115.2.2.2.2 = 0 then (if acc.length < 4398046511104 then ((provisoref04_Size.f k bt115.2.1).bind fun t124 => (provisoref05_Scan.l0 k l (acc ++ [(⟨bt115.1, bt115.2.1, bt115.2.2.1, bt115.2.2.2.1⟩ : S46)]) (wrap64 ((i : Int) + t124)))) else (none)) else (some (([] : List (S46)), (i : Int), bt115.2.2.2.2))))) (fun k => ?_) (Ev.bind hde ?_)
          · simp only [provisoref05_Scan.l0]
            rw [if_pos (by omega)]
          · simp only [if_true]
            refine Ev.congr (fun k => by rw [if_pos (by omega)]) (Ev.bind (rsize_ev op) (by rw [hw]; exact e2))
      · refine ⟨[], (i : Int), (decL l i).2.2.2.2, ?_, ?_, .inr ⟨h0, rfl, .inr trivial⟩⟩
        · refine Ev.step (f := fun _ => some ([], (i : Int), (decL l i).2.2.2.2)) (fun k => ?_) (Ev.now _)
          simp only [flow_Scan.l0]
          rw [if_pos (by omega), hdp]
          simp only [Option.bind_some]
          rw [if_neg h0]
        · refine Ev.step (f := fun k => (provisoref04_Decode.f k l (i : Int)).bind (fun bt115 => (if bt115.2.2.2.2 = 0 then (if acc.length < 4398046511104 then ((provisoref04_Size.f k bt115.2.1).bind fun t124 => (provisoref05_Scan.l0 k l (acc ++ [(⟨bt115.1, bt115.2.1, bt115.2.2.1, bt115.2.2.2.1⟩ : S46)]) (wrap64 ((i : Int) + t124)))) else (none)) else (some (([] : List (S46)), (i : Int), bt115.2.2.2.2))))) (fun k => ?_) (Ev.bind hde ?_)
          · simp only [provisoref05_Scan.l0]
            rw [if_pos (by omega)]
          · simp only [if_neg h0]
            exact Ev.now _
    · have e : i = l.length := by omega
      subst e
      refine ⟨acc, 0, 0, Ev.step (f := fun _ => some (acc, 0, 0)) (fun k => ?_) (Ev.now _), Ev.step (f := fun _ => some (acc, 0, 0)) (fun k => ?_) (Ev.now _), .inl ⟨rfl, rfl, hs⟩⟩
      · simp only [flow_Scan.l0]
        rw [if_neg (by omega)]
      · simp only [provisoref05_Scan.l0]
        rw [if_neg (by omega)]
theorem scan_ev (l : List Int) (hb : bytesOk l = true) : ∃ (ls : List S46) (a e : Int), Ev (fun k => flow_Scan.f k l) (ls, a, e) ∧ Ev (fun k => provisoref05_Scan.f k l) (ls, a, e) ∧ ((e = 0 ∧ a = 0 ∧ l.length ≤ 4096 ∧ Seq l ls l.length) ∨ (e ≠ 0 ∧ ls = [])) := by
  by_cases h : (l.length : Int) > 4096
  · refine ⟨[], 0, 4, Ev.congr (f := fun _ => some ([], 0, 4)) (fun k => ?_) (Ev.now _), Ev.congr (f := fun _ => some ([], 0, 4)) (fun k => ?_) (Ev.now _), .inr ⟨by decide, rfl⟩⟩
    · unfold flow_Scan.f; rw [if_pos h]
    · unfold provisoref05_Scan.f; rw [if_pos h]
  · obtain ⟨ls, a, e, e1, e2, hr⟩ := scan_go l hb (by omega) l.length 0 [] (by omega) Seq.nil
    refine ⟨ls, a, e, Ev.congr (fun k => ?_) e1, Ev.congr (fun k => ?_) e2, hr.imp (fun h9 => ⟨h9.1, h9.2.1, by omega, h9.2.2⟩) (fun h9 => ⟨h9.1, h9.2.1⟩)⟩
    · unfold flow_Scan.f; rw [if_neg h]; rfl
    · unfold provisoref05_Scan.f; rw [if_neg h]; rfl
theorem Seq.all {l : List Int} {acc : List S46} {i : Nat} (h : Seq l acc i) : ∀ x ∈ acc, 0 ≤ x.f0 ∧ x.f0 + szOf x.f1 ≤ (i : Int) ∧ 1 ≤ szOf x.f1 ∧ I64 x.f2 := by
  induction h with
  | nil => intro x hx; cases hx
  | @snoc acc i op a b h0 h1 hd h2 h3 h4 ih =>
    intro x hx
    rcases List.mem_append.1 hx with hx | hx
    · have := ih x hx
      exact ⟨this.1, by omega, this.2.2⟩
    · rw [List.mem_singleton.1 hx]
      exact ⟨(show (0 : Int) ≤ (i : Int) by omega), (show (i : Int) + szOf op ≤ ((i + (szOf op).toNat : Nat) : Int) by omega), h2, h4⟩
theorem Seq.ok {l : List Int} {acc : List S46} {i : Nat} (h : Seq l acc i) (hi : i ≤ 4096) : asOk acc = true ∧ atsOk acc = true := by
  constructor
  · refine List.all_eq_true.2 fun x hx => ?_
    obtain ⟨h1, h2, h3, h4⟩ := h.all x hx
    unfold I64 at h4
    simp [h4.1, h4.2]
  · refine List.all_eq_true.2 fun x hx => ?_
    obtain ⟨h1, h2, h3, h4⟩ := h.all x hx
    have hz := szOf_range x.f1
    simp
    omega
theorem Seq.next {l : List Int} {acc : List S46} {i : Nat} (h : Seq l acc i) : ∀ j : Nat, j < acc.length → (acc.getD j z46).f0 + szOf (acc.getD j z46).f1 = if j + 1 < acc.length then (acc.getD (j + 1) z46).f0 else (i : Int) := by
  induction h with
  | nil => intro j hj; simp at hj
  | @snoc acc i op a b h0 h1 _ h2 h3 h4 ih =>
    intro j hj
    rw [List.length_append, List.length_singleton] at hj ⊢
    have hz := szOf_range op
    simp only [List.getD_eq_getElem?_getD] at ih ⊢
    by_cases e : j = acc.length
    · subst e
      rw [if_neg (by omega)]
      simp
      omega
    · have hj' : j < acc.length := by omega
      rw [if_pos (by omega), List.getElem?_append_left hj', ih j hj']
      by_cases e2 : j + 1 < acc.length
      · rw [if_pos e2, List.getElem?_append_left e2]
      · have : j + 1 = acc.length := by omega
        rw [if_neg e2, this]
        simp
theorem Seq.zero {l : List Int} {acc : List S46} {i : Nat} (h : Seq l acc i) (h0 : acc = []) : i = 0 := by
  induction h with
  | nil => rfl
  | snoc => simp at h0
theorem Seq.first {l : List Int} {acc : List S46} {i : Nat} (h : Seq l acc i) (h0 : acc ≠ []) : (acc.getD 0 z46).f0 = 0 := by
  induction h with
  | nil => exact absurd rfl h0
  | @snoc acc i op a b h1 _ _ _ _ _ ih =>
    cases acc with
    | nil =>
      have hle := h1.zero rfl
      subst hle
      rfl
    | cons y r => exact ih (by simp)
end Go.Proofs.Ytcffniaieegbgaa.Pure

end

section
namespace Go.Proofs.Ytcffniaieegbgaa.Pure
open Go.RowKit Go.Proofs.Ytcffniaieegbgaa.P Go.Proofs.YtcffniaieegbgaaW.PrintWords
set_option linter.unusedSimpArgs false
set_option linter.unusedVariables false
theorem bytes_of {l : List Int} (h : ∀ x ∈ l, (Lit.int .u8 x).wf = true) : bytesOk l = true := by
  refine List.all_eq_true.2 fun x hx => ?_
  have := h x hx
  simp [Lit.wf, IntKind.min, IntKind.max, IntKind.signed, IntKind.bits] at this
  rw [decide_eq_true (by omega), decide_eq_true (by omega)]
  rfl
theorem index_go (l : List Int) (hl : l.length ≤ 9223372036854775807) (x : Int) : ∀ (d i : Nat), l.length - i = d → i ≤ l.length → ∃ r : Int, Ev (fun k => slices_Index_int_int.l0 k l x (l.length : Int) (i : Int)) r ∧ (0 ≤ r ↔ x ∈ l.drop i) ∧ r < (l.length : Int) ∧ (0 ≤ r → rd l r = x)
  | 0, i, hd, hi => by
    obtain rfl : i = l.length := by omega
    refine ⟨-1, Ev.step (f := fun _ => some (-1)) (fun k => ?_) (Ev.now _), ?_, by omega, fun h => by omega⟩
    · simp only [slices_Index_int_int.l0]
      rw [if_neg (by omega)]
    · rw [List.drop_length]
      exact ⟨fun h => by omega, fun h => by cases h⟩
  | d + 1, i, hd, hi => by
    have h1 : i < l.length := by omega
    rw [drop_at h1]
    by_cases h2 : x = rd l (i : Int)
    · refine ⟨(i : Int), Ev.step (f := fun _ => some (i : Int)) (fun k => ?_) (Ev.now _), ⟨fun _ => by rw [h2]; simp, fun _ => by omega⟩, by omega, fun _ => h2.symm⟩
      simp only [slices_Index_int_int.l0]
      rw [if_pos (by omega), if_pos (by omega), if_pos (by omega), if_pos h2]
    · obtain ⟨r, hr, hm, hb, hx⟩ := index_go l hl x d (i + 1) (by omega) (by omega)
      refine ⟨r, Ev.step (fun k => ?_) hr, ?_, hb, hx⟩
      · simp only [slices_Index_int_int.l0]
        rw [if_pos (by omega), if_pos (by omega), if_pos (by omega), if_neg h2, wrap_one h1 hl]
      · rw [hm, List.mem_cons]
        exact ⟨fun h => .inr h, fun h => h.resolve_left h2⟩
theorem index_ev (l : List Int) (hl : l.length ≤ 9223372036854775807) (x : Int) : ∃ r : Int, Ev (fun k => slices_Index_int_int.f k l x) r ∧ (0 ≤ r ↔ x ∈ l) ∧ r < (l.length : Int) ∧ (0 ≤ r → rd l r = x) := by
  have h := index_go l hl x l.length 0 (by omega) (by omega)
  rw [List.drop_zero] at h
  exact h
theorem contains_ev (l : List Int) (hl : l.length ≤ 9223372036854775807) (x : Int) : Ev (fun k => slices_Contains_int_int.f k l x) (decide (x ∈ l)) := by
  obtain ⟨r, h1, h2, _⟩ := index_ev l hl x
  refine Ev.congr (f := fun k => (slices_Index_int_int.f k l x).bind fun t => some (decide (t ≥ 0))) (fun k => rfl) (Ev.bind h1 ?_)
  have e : decide (r ≥ 0) = decide (x ∈ l) := by
    by_cases h : x ∈ l
    · rw [decide_eq_true h, decide_eq_true (h2.2 h)]
    · rw [decide_eq_false h, decide_eq_false (fun h9 => h (h2.1 h9))]
  simp only [e]
  exact Ev.now _
end Go.Proofs.Ytcffniaieegbgaa.Pure

end

section
namespace Go.Proofs.Ytcffniaieegbgaa.Pure
open Go.RowKit Go.Proofs.Ytcffniaieegbgaa.P Go.Proofs.YtcffniaieegbgaaW.PrintWords
set_option linter.unusedSimpArgs false
set_option linter.unusedVariables false
theorem firstAt_some : ∀ (l : List S46) (j : Nat) (x : Int), x ∈ l.map (·.f0) → (firstAt l j x).isSome = true
  | [], j, x, h => by cases h
  | y :: r, j, x, h => by
    unfold firstAt
    split
    · rfl
    · rename_i hne
      simp only [List.map_cons, List.mem_cons] at h
      exact firstAt_some r (j + 1) x (h.resolve_left (fun e => hne e.symm))
theorem getD_mem {l : List S46} {i : Nat} (h : i < l.length) : l.getD i z46 ∈ l := by
  rw [List.getD_eq_getElem?_getD, List.getElem?_eq_getElem h]
  exact List.getElem_mem h
theorem Seq.lt {l : List Int} {acc : List S46} {n : Nat} (h : Seq l acc n) : ∀ (d i : Nat), i + d + 1 < acc.length → (acc.getD i z46).f0 < (acc.getD (i + d + 1) z46).f0
  | 0, i, hi => by
    have h1 := h.next i (by omega)
    rw [if_pos (by omega)] at h1
    have h2 := (h.all _ (getD_mem (show i < acc.length by omega))).2.2.1
    show _ < (acc.getD (i + 1) z46).f0
    omega
  | d + 1, i, hi => by
    have ih := Seq.lt h d i (by omega)
    have h1 := h.next (i + d + 1) (by omega)
    rw [if_pos (by omega)] at h1
    have h2 := (h.all _ (getD_mem (show i + d + 1 < acc.length by omega))).2.2.1
    show _ < (acc.getD (i + d + 1 + 1) z46).f0
    omega
theorem Seq.inj {l : List Int} {acc : List S46} {n : Nat} (h : Seq l acc n) {i j : Nat} (hi : i < acc.length) (hj : j < acc.length) (he : (acc.getD i z46).f0 = (acc.getD j z46).f0) : i = j := by
  rcases Nat.lt_trichotomy i j with h1 | h1 | h1
  · have := h.lt (j - i - 1) i (by omega)
    rw [show i + (j - i - 1) + 1 = j by omega] at this
    omega
  · exact h1
  · have := h.lt (i - j - 1) j (by omega)
    rw [show j + (i - j - 1) + 1 = i by omega] at this
    omega
theorem Seq.place {l : List Int} {acc : List S46} {n : Nat} (h : Seq l acc n) {i : Nat} (hi : i < acc.length) : firstAt acc 0 (acc.getD i z46).f0 = some (i : Int) := by
  have h1 := firstAt_some acc 0 (acc.getD i z46).f0 (List.mem_map.2 ⟨_, getD_mem hi, rfl⟩)
  cases hf : firstAt acc 0 (acc.getD i z46).f0 with
  | none => rw [hf] at h1; cases h1
  | some v =>
    obtain ⟨j, rfl, hj, he⟩ := firstAt_idx hf
    unfold rd_T46 at he
    rw [Int.toNat_natCast] at he
    rw [h.inj hj hi he]
end Go.Proofs.Ytcffniaieegbgaa.Pure

end

section
namespace Go.Proofs.Ytcffniaieegbgaa.Pure
open Go.RowKit Go.Proofs.Ytcffniaieegbgaa.P Go.Proofs.YtcffniaieegbgaaW.PrintWords
set_option linter.unusedSimpArgs false
set_option linter.unusedVariables false
theorem blocks_len (l : List S46) : ∀ (d i fr : Nat), (blocksL l fr i d).length ≤ d
  | 0, i, fr => by simp [blocksL]
  | d + 1, i, fr => by
    unfold blocksL
    split
    · exact Nat.le_succ_of_le (blocks_len l d (i + 1) fr)
    · rw [List.length_cons]
      exact Nat.succ_le_succ (blocks_len l d (i + 1) (i + 1))
theorem blocks_head (l : List S46) (fr : Nat) : ∀ (d i : Nat), i + (d + 1) = l.length → ∃ e, i ≤ e ∧ e < l.length ∧ (∀ m, i ≤ m → m < e → goesOn l m = true) ∧ goesOn l e = false ∧ blocksL l fr i (d + 1) = blkOf l fr e :: blocksL l (e + 1) (e + 1) (l.length - (e + 1))
  | 0, i, h => by
    have hg : goesOn l i = false := by unfold goesOn; rw [decide_eq_false (by omega)]; rfl
    refine ⟨i, Nat.le_refl _, by omega, fun m h1 h2 => by omega, hg, ?_⟩
    rw [blocksL, hg, if_neg (by decide), show l.length - (i + 1) = 0 by omega]
  | d + 1, i, h => by
    by_cases hg : goesOn l i = true
    · obtain ⟨e, h1, h2, h3, h4, h5⟩ := blocks_head l fr d (i + 1) (by omega)
      refine ⟨e, by omega, h2, fun m h6 h7 => ?_, h4, ?_⟩
      · by_cases hm : m = i
        · rw [hm]; exact hg
        · exact h3 m (by omega) h7
      · rw [blocksL, if_pos hg]
        exact h5
    · refine ⟨i, Nat.le_refl _, by omega, fun m h1 h2 => by omega, by simpa using hg, ?_⟩
      rw [blocksL, if_neg hg, show l.length - (i + 1) = d + 1 by omega]
theorem blocks_froms (l : List S46) : ∀ (d i fr : Nat), i + (d + 1) = l.length → fr ≤ i → (l.getD fr z46).f0 ∈ (blocksL l fr i (d + 1)).map (·.f0) ∧ ∀ j, i ≤ j → j + 1 < l.length → goesOn l j = false → (l.getD (j + 1) z46).f0 ∈ (blocksL l fr i (d + 1)).map (·.f0)
  | 0, i, fr, h, hf => by
    have hg : ¬ goesOn l i = true := by unfold goesOn; rw [decide_eq_false (by omega)]; simp
    rw [blocksL, if_neg hg]
    exact ⟨by simp [blkOf, rd_T46], fun j h1 h2 => by omega⟩
  | d + 1, i, fr, h, hf => by
    rw [blocksL]
    by_cases hg : goesOn l i = true
    · rw [if_pos hg]
      obtain ⟨h1, h2⟩ := blocks_froms l d (i + 1) fr (by omega) (by omega)
      refine ⟨h1, fun j h3 h4 h5 => ?_⟩
      by_cases hj : j = i
      · rw [hj, hg] at h5; cases h5
      · exact h2 j (by omega) h4 h5
    · rw [if_neg hg]
      obtain ⟨h1, h2⟩ := blocks_froms l d (i + 1) (i + 1) (by omega) (Nat.le_refl _)
      refine ⟨by simp [blkOf, rd_T46], fun j h3 h4 h5 => ?_⟩
      rw [List.map_cons]
      refine List.mem_cons_of_mem _ ?_
      by_cases hj : j = i
      · rw [hj]; exact h1
      · exact h2 j (by omega) h4 h5
theorem follow_mem (l : List S46) (x : Int) : ∀ (n m : Nat), m < n → x ∈ P.follow l (m + 1) → x ∈ P.follow l n
  | 0, m, h, _ => by omega
  | n + 1, m, h, hx => by
    by_cases hm : m = n
    · rw [← hm]; exact hx
    · rw [P.follow]
      exact List.mem_append_left _ (follow_mem l x n m (by omega) hx)
theorem goesOn_true {l : List S46} {i : Nat} (h : goesOn l i = true) : i + 1 < l.length ∧ (l.getD (i + 1) z46).f0 ∉ leadK l := by
  unfold goesOn rd_T46 at h
  rw [Bool.and_eq_true, Int.toNat_natCast] at h
  exact ⟨of_decide_eq_true h.1, by have := h.2; simpa using this⟩
theorem goesOn_plain {l : List S46} {i : Nat} (h : goesOn l i = true) : jumpsB (l.getD i z46).f1 = false ∧ endsB (l.getD i z46).f1 = false := by
  obtain ⟨h1, h2⟩ := goesOn_true h
  have h3 : followB (l.getD i z46) = false := by
    cases hb : followB (l.getD i z46) with
    | false => rfl
    | true =>
      refine absurd ?_ h2
      unfold leadK
      refine List.mem_append_right _ (follow_mem l _ l.length i (by omega) ?_)
      unfold P.follow rd_T46
      rw [Int.toNat_natCast, Int.toNat_natCast, decide_eq_true h1, hb]
      simp
  unfold followB at h3
  rw [Bool.or_eq_false_iff] at h3
  exact h3
theorem plain_next {l : List Int} {acc : List S46} {n : Nat} (h : Seq l acc n) (hn : n ≤ 4096) {i : Nat} (hg : goesOn acc i = true) : nextL (acc.getD i z46) = [(acc.getD (i + 1) z46).f0] := by
  obtain ⟨h1, _⟩ := goesOn_true hg
  obtain ⟨h2, h3⟩ := goesOn_plain hg
  obtain ⟨h4, h5, h6, _⟩ := h.all _ (getD_mem (show i < acc.length by omega))
  have h7 := h.next i (by omega)
  rw [if_pos h1] at h7
  unfold nextL
  rw [if_neg (by omega), if_pos (by unfold placedB; rw [decide_eq_true h4, decide_eq_true (by omega)]; rfl)]
  unfold nextKeys
  rw [h2, h3, ← h7]
  rfl
theorem next_keys {x : S46} {b : Int} (h : b ∈ nextL x) : b = x.f0 + szOf x.f1 ∨ (jumpsB x.f1 = true ∧ b = x.f2) := by
  unfold nextL at h
  split at h
  · cases h
  · split at h
    · rw [srt_mem] at h
      unfold nextKeys at h
      rcases List.mem_append.1 h with h | h
      · split at h
        · cases h
        · exact .inl (List.mem_singleton.1 h)
      · split at h
        · rename_i hj
          exact .inr ⟨hj, List.mem_singleton.1 h⟩
        · cases h
    · cases h
theorem next_from {l : List Int} {acc : List S46} {n : Nat} (h : Seq l acc n) {e : Nat} (he : e < acc.length) (hg : goesOn acc e = false) {b : Int} (hb : b ∈ nextL (acc.getD e z46)) (hs : (firstAt acc 0 b).isSome = true) : b ∈ (blocksL acc 0 0 acc.length).map (·.f0) := by
  cases hf : firstAt acc 0 b with
  | none => rw [hf] at hs; cases hs
  | some v =>
    obtain ⟨p, rfl, hp, hq⟩ := firstAt_idx hf
    unfold rd_T46 at hq
    rw [Int.toNat_natCast] at hq
    obtain ⟨d, hd⟩ : ∃ d, acc.length = 0 + (d + 1) := ⟨acc.length - 1, by omega⟩
    obtain ⟨f1, f2⟩ := blocks_froms acc d 0 0 hd.symm (Nat.le_refl _)
    have hd2 : blocksL acc 0 0 acc.length = blocksL acc 0 0 (d + 1) := by rw [hd, Nat.zero_add]
    rw [hd2]
    rcases next_keys hb with hk | ⟨hj, hk⟩
    · have h7 := h.next e he
      by_cases hl : e + 1 < acc.length
      · rw [if_pos hl] at h7
        rw [hk, h7]
        exact f2 e (Nat.zero_le _) hl hg
      · rw [if_neg hl] at h7
        obtain ⟨g1, g2, g3, _⟩ := h.all _ (getD_mem hp)
        omega
    · cases p with
      | zero => rw [← hq]; exact f1
      | succ p =>
        rw [← hq]
        refine f2 p (Nat.zero_le _) hp ?_
        have hm : (acc.getD (p + 1) z46).f0 ∈ leadK acc := by
          unfold leadK
          refine List.mem_append_left _ ?_
          rw [srt_mem, hq, hk]
          unfold tgts
          exact List.mem_map.2 ⟨_, List.mem_filter.2 ⟨getD_mem he, hj⟩, rfl⟩
        unfold goesOn rd_T46
        rw [Int.toNat_natCast, decide_eq_true hm]
        simp
end Go.Proofs.Ytcffniaieegbgaa.Pure

end

section
namespace Go.Proofs.Ytcffniaieegbgaa.Pure
open Go.RowKit Go.Proofs.Ytcffniaieegbgaa.P Go.Proofs.YtcffniaieegbgaaW.PrintWords
set_option linter.unusedSimpArgs false
set_option linter.unusedVariables false
abbrev atD (l : List S46) (i : Nat) : S46 := l.getD i z46
theorem rdN (l : List S46) (i : Nat) : rd_T46 l (i : Int) = atD l i := by unfold rd_T46; rw [Int.toNat_natCast]
def Rise (l : List S46) : Prop := ∀ i j : Nat, i < j → j < l.length → (atD l i).f0 < (atD l j).f0
theorem riseTo_step {l : List S46} : ∀ n, riseTo l n = true → ∀ i, i + 1 < n → (atD l i).f0 < (atD l (i + 1)).f0
  | 0, h, i, hi => by omega
  | n + 1, h, i, hi => by
    rw [riseTo, Bool.and_eq_true] at h
    by_cases hn : i + 1 = n
    · have h2 := h.2
      rw [← hn, rdN, rdN, decide_eq_true (show 0 < i + 1 by omega), Bool.true_and, Bool.not_eq_true', decide_eq_false_iff_not, show i + 1 - 1 = i by omega] at h2
      omega
    · exact riseTo_step n h.1 i (by omega)
theorem riseTo_rise {l : List S46} (h : riseTo l l.length = true) : Rise l := by
  have h1 : ∀ d i : Nat, i + d + 1 < l.length → (atD l i).f0 < (atD l (i + d + 1)).f0 := by
    intro d
    induction d with
    | zero => intro i hi; exact riseTo_step _ h i hi
    | succ d ih =>
      intro i hi
      have h2 := ih i (by omega)
      have h3 := riseTo_step _ h (i + d + 1) hi
      show _ < (atD l (i + d + 1 + 1)).f0
      omega
  intro i j hij hj
  have := h1 (j - i - 1) i (by omega)
  rw [show i + (j - i - 1) + 1 = j by omega] at this
  exact this
theorem Rise.inj {l : List S46} (h : Rise l) {i j : Nat} (hi : i < l.length) (hj : j < l.length) (he : (atD l i).f0 = (atD l j).f0) : i = j := by
  rcases Nat.lt_trichotomy i j with h1 | h1 | h1
  · have := h i j h1 hj; omega
  · exact h1
  · have := h j i h1 hi; omega
theorem Rise.place {l : List S46} (h : Rise l) {j : Nat} (hj : j < l.length) (a : Int) : firstAt l 0 a = some (j : Int) ↔ (atD l j).f0 = a := by
  constructor
  · intro h1
    obtain ⟨i, h2, h3, h4⟩ := firstAt_idx h1
    rw [h2, rdN] at h4
    obtain rfl : j = i := by omega
    exact h4
  · intro h1
    have h2 := firstAt_some l 0 a (List.mem_map.2 ⟨_, getD_mem hj, h1⟩)
    cases hf : firstAt l 0 a with
    | none => rw [hf] at h2; cases h2
    | some v =>
      obtain ⟨i, rfl, h3, h4⟩ := firstAt_idx hf
      rw [rdN] at h4
      rw [h.inj h3 hj (h4.trans h1.symm)]
theorem placeI_nat {l : List S46} {a : Int} : (0 ≤ placeI l a ↔ (firstAt l 0 a).isSome = true) ∧ ∀ j : Nat, placeI l a = (j : Int) ↔ firstAt l 0 a = some (j : Int) := by
  unfold placeI
  cases hf : firstAt l 0 a with
  | none => exact ⟨by simp, fun j => ⟨fun h => (by exfalso; revert h; simp), fun h => (by cases h)⟩⟩
  | some v =>
    obtain ⟨i, rfl, _⟩ := firstAt_idx hf
    exact ⟨by simp, fun j => by simp⟩
theorem getD_set0 (m : List Bool) (j i : Nat) (hi : i < m.length) : (m.set j true).getD i false = (decide (i = j) || m.getD i false) := by
  by_cases h : i = j
  · subst h
    rw [decide_eq_true rfl, Bool.true_or, List.getD_eq_getElem?_getD, List.getElem?_set_self hi]
    rfl
  · rw [decide_eq_false h, Bool.false_or, List.getD_eq_getElem?_getD, List.getD_eq_getElem?_getD, List.getElem?_set_ne (fun e => h e.symm)]
theorem markR_is {l : List S46} {j : Nat} (hj : j < l.length) : ∀ n, n ≤ l.length → ((markR l n).getD j false = true ↔ (j = 0 ∧ 0 < n) ∨ (∃ m, m < n ∧ m + 1 = j ∧ followB (atD l m) = true) ∨ (∃ m, m < n ∧ jumpsB (atD l m).f1 = true ∧ placeI l (atD l m).f2 = (j : Int)))
  | 0, hn => by
    rw [markR, List.getD_eq_getElem?_getD, List.getElem?_replicate, if_pos hj]
    constructor
    · intro h; cases h
    · rintro (⟨_, h⟩ | ⟨m, h, _⟩ | ⟨m, h, _⟩) <;> omega
  | n + 1, hn => by
    have ih := markR_is hj n (by omega)
    have hlen := markR_len l n
    have e1 : (markR l (n + 1)).getD j false = ((markR l n).getD j false || (decide (n = 0) && decide (j = n)) || (followB (atD l n) && decide (n + 1 < l.length) && decide (j = n + 1)) || (jumpsB (atD l n).f1 && decide (placeI l (atD l n).f2 = (j : Int)))) := by
      simp only [markR]
      rw [rdN]
      have hf : (jumpsB (atD l n).f1 || endsB (atD l n).f1) = followB (atD l n) := rfl
      rw [hf]
      have s1 : (if n = 0 then (markR l n).set n true else markR l n).length = l.length := by split <;> simp [hlen]
      have v1 : (if n = 0 then (markR l n).set n true else markR l n).getD j false = ((markR l n).getD j false || (decide (n = 0) && decide (j = n))) := by
        by_cases h0 : n = 0
        · rw [if_pos h0, getD_set0 _ _ _ (by omega), decide_eq_true h0, Bool.true_and, Bool.or_comm]
        · rw [if_neg h0, decide_eq_false h0, Bool.false_and, Bool.or_false]
      generalize (if n = 0 then (markR l n).set n true else markR l n) = m1 at s1 v1 ⊢
      have s2 : (if (followB (atD l n) && decide (n + 1 < l.length)) = true then m1.set (n + 1) true else m1).length = l.length := by split <;> simp [s1]
      have v2 : (if (followB (atD l n) && decide (n + 1 < l.length)) = true then m1.set (n + 1) true else m1).getD j false = (m1.getD j false || (followB (atD l n) && decide (n + 1 < l.length) && decide (j = n + 1))) := by
        cases h0 : (followB (atD l n) && decide (n + 1 < l.length)) with
        | true => rw [if_pos rfl, getD_set0 _ _ _ (by omega), Bool.true_and, Bool.or_comm]
        | false => rw [if_neg (by decide), Bool.false_and, Bool.or_false]
      generalize (if (followB (atD l n) && decide (n + 1 < l.length)) = true then m1.set (n + 1) true else m1) = m2 at s2 v2 ⊢
      rw [← v1, ← v2]
      cases h0 : jumpsB (atD l n).f1 with
      | false => rw [Bool.false_and, if_neg (by decide), Bool.false_and, Bool.or_false]
      | true =>
        rw [Bool.true_and, Bool.true_and]
        by_cases h1 : 0 ≤ placeI l (atD l n).f2
        · rw [decide_eq_true h1, if_pos rfl, getD_set0 _ _ _ (by omega), Bool.or_comm]
          congr 1
          have : (j = (placeI l (atD l n).f2).toNat) ↔ placeI l (atD l n).f2 = (j : Int) := by omega
          exact decide_eq_decide.2 this
        · rw [decide_eq_false h1, if_neg (by decide), decide_eq_false (show ¬ placeI l (atD l n).f2 = (j : Int) by omega), Bool.or_false]
    rw [e1, Bool.or_eq_true, Bool.or_eq_true, Bool.or_eq_true, ih]
    simp only [Bool.and_eq_true, decide_eq_true_eq]
    constructor
    · rintro (((h | ⟨h1, h2⟩) | ⟨⟨h1, h2⟩, h3⟩) | ⟨h1, h2⟩)
      · rcases h with ⟨h1, h2⟩ | ⟨m, h1, h2, h3⟩ | ⟨m, h1, h2, h3⟩
        · exact .inl ⟨h1, by omega⟩
        · exact .inr (.inl ⟨m, by omega, h2, h3⟩)
        · exact .inr (.inr ⟨m, by omega, h2, h3⟩)
      · exact .inl ⟨by omega, by omega⟩
      · exact .inr (.inl ⟨n, by omega, h3.symm, h1⟩)
      · exact .inr (.inr ⟨n, by omega, h1, h2⟩)
    · rintro (⟨h1, h2⟩ | ⟨m, h1, h2, h3⟩ | ⟨m, h1, h2, h3⟩)
      · by_cases h0 : n = 0
        · exact .inl (.inl (.inr ⟨h0, by omega⟩))
        · exact .inl (.inl (.inl (.inl ⟨h1, by omega⟩)))
      · by_cases h0 : m = n
        · subst h0
          exact .inl (.inr ⟨⟨h3, by omega⟩, h2.symm⟩)
        · exact .inl (.inl (.inl (.inr (.inl ⟨m, by omega, h2, h3⟩))))
      · by_cases h0 : m = n
        · subst h0
          exact .inr ⟨h2, h3⟩
        · exact .inl (.inl (.inl (.inr (.inr ⟨m, by omega, h2, h3⟩))))
theorem follow_is (l : List S46) (x : Int) : ∀ n, x ∈ P.follow l n ↔ ∃ m, m < n ∧ m + 1 < l.length ∧ followB (atD l m) = true ∧ x = (atD l (m + 1)).f0
  | 0 => by
    rw [P.follow]
    exact ⟨fun h => (by cases h), fun ⟨m, h, _⟩ => (by omega)⟩
  | n + 1 => by
    rw [P.follow, List.mem_append, follow_is l x n, rdN, rdN]
    constructor
    · rintro (⟨m, h1, h2, h3, h4⟩ | h)
      · exact ⟨m, by omega, h2, h3, h4⟩
      · split at h
        · rename_i hc
          rw [Bool.and_eq_true, decide_eq_true_eq] at hc
          exact ⟨n, by omega, hc.1, hc.2, List.mem_singleton.1 h⟩
        · cases h
    · rintro ⟨m, h1, h2, h3, h4⟩
      by_cases hm : m = n
      · subst hm
        rw [decide_eq_true h2, h3]
        exact .inr (List.mem_singleton.2 h4)
      · exact .inl ⟨m, by omega, h2, h3, h4⟩
theorem mem_getD {l : List S46} {x : S46} (h : x ∈ l) : ∃ i, i < l.length ∧ atD l i = x := by
  obtain ⟨i, hi, he⟩ := List.getElem_of_mem h
  exact ⟨i, hi, by unfold atD; rw [List.getD_eq_getElem?_getD, List.getElem?_eq_getElem hi]; exact he⟩
theorem mark_lead {l : List S46} (h : Rise l) {j : Nat} (hj : j + 1 < l.length) : (markR l l.length).getD (j + 1) false = true ↔ (atD l (j + 1)).f0 ∈ leadK l := by
  rw [markR_is hj l.length (Nat.le_refl _)]
  unfold leadK
  rw [List.mem_append, follow_is, srt_mem]
  unfold tgts
  rw [List.mem_map]
  constructor
  · rintro (⟨h1, _⟩ | ⟨m, h1, h2, h3⟩ | ⟨m, h1, h2, h3⟩)
    · omega
    · exact .inr ⟨m, h1, by omega, h3, by rw [h2]⟩
    · refine .inl ⟨atD l m, List.mem_filter.2 ⟨getD_mem h1, h2⟩, ?_⟩
      exact (((Rise.place h hj _).1 ((placeI_nat.2 _).1 h3))).symm
  · rintro (⟨x, h1, h2⟩ | ⟨m, h1, h2, h3, h4⟩)
    · obtain ⟨h3, h4⟩ := List.mem_filter.1 h1
      obtain ⟨m, h5, rfl⟩ := mem_getD h3
      exact .inr (.inr ⟨m, h5, h4, (placeI_nat.2 _).2 ((Rise.place h hj _).2 h2.symm)⟩)
    · exact .inr (.inl ⟨m, h1, by have := h.inj hj h2 h4; omega, h3⟩)
theorem set_last (B : List S35) (x y : S35) : (B ++ [x]).set ((B ++ [x]).length - 1) y = B ++ [y] := by
  rw [List.length_append, List.length_singleton, Nat.add_sub_cancel, List.set_append_right _ _ (Nat.le_refl _), Nat.sub_self]
  rfl
theorem getD_last (B : List S35) (x : S35) : (B ++ [x]).getD ((B ++ [x]).length - 1) z35 = x := by
  rw [List.length_append, List.length_singleton, Nat.add_sub_cancel, List.getD_eq_getElem?_getD, List.getElem?_append_right (Nat.le_refl _), Nat.sub_self]
  rfl
theorem goesOn_is {l : List S46} (h : Rise l) (i : Nat) : goesOn l i = true ↔ i + 1 < l.length ∧ (markR l l.length).getD (i + 1) false = false := by
  unfold goesOn
  rw [rdN, Bool.and_eq_true, decide_eq_true_eq, Bool.not_eq_true', decide_eq_false_iff_not]
  constructor
  · rintro ⟨h1, h2⟩
    refine ⟨h1, ?_⟩
    cases hb : (markR l l.length).getD (i + 1) false with
    | false => rfl
    | true => exact absurd ((mark_lead h h1).1 hb) h2
  · rintro ⟨h1, h2⟩
    exact ⟨h1, fun h3 => by rw [(mark_lead h h1).2 h3] at h2; cases h2⟩
theorem outR_go {l : List S46} (h : Rise l) : ∀ (d i fr : Nat) (B : List S35), i + d = l.length → (d = 0 → outR l (markR l l.length) i = B) → (0 < d → ((markR l l.length).getD i false = true ∧ fr = i ∧ outR l (markR l l.length) i = B) ∨ ((markR l l.length).getD i false = false ∧ ∃ y z, outR l (markR l l.length) i = B ++ [⟨(atD l fr).f0, y, z⟩])) → outR l (markR l l.length) l.length = B ++ blocksL l fr i d
  | 0, i, fr, B, hd, h0, _ => by
    rw [blocksL, List.append_nil, ← h0 rfl, show i = l.length by omega]
  | d + 1, i, fr, B, hd, _, h1 => by
    have hfil : ((nextL (atD l i)).filter fun a => decide (0 ≤ placeI l a)) = (nextL (atD l i)).filter fun a => (firstAt l 0 a).isSome := by
      congr 1
      funext a
      have := (placeI_nat (l := l) (a := a)).1
      cases hb : (firstAt l 0 a).isSome with
      | true => exact decide_eq_true (this.2 hb)
      | false => exact decide_eq_false (fun h9 => by rw [this.1 h9] at hb; cases hb)
    have hs : outR l (markR l l.length) (i + 1) = B ++ [⟨(atD l fr).f0, (atD l i).f0, if i + 1 = l.length ∨ (markR l l.length).getD (i + 1) false = true then (nextL (atD l i)).filter (fun a => (firstAt l 0 a).isSome) else []⟩] := by
      rw [← hfil]
      simp only [outR]
      rw [rdN]
      rcases h1 (by omega) with ⟨h2, rfl, h3⟩ | ⟨h2, y, z, h3⟩
      · rw [h2, h3, if_pos rfl, set_last, getD_last]
      · rw [h2, h3, if_neg (by decide), set_last, getD_last]
    rw [blocksL]
    by_cases hg : goesOn l i = true
    · rw [if_pos hg]
      obtain ⟨h2, h3⟩ := (goesOn_is h i).1 hg
      refine outR_go h d (i + 1) fr B (by omega) (fun h9 => by omega) (fun _ => .inr ⟨h3, _, _, hs⟩)
    · rw [if_neg hg]
      have hc : i + 1 = l.length ∨ (markR l l.length).getD (i + 1) false = true := by
        by_cases h2 : i + 1 = l.length
        · exact .inl h2
        · right
          cases hb : (markR l l.length).getD (i + 1) false with
          | true => rfl
          | false => exact absurd ((goesOn_is h i).2 ⟨by omega, hb⟩) hg
      rw [if_pos hc] at hs
      have hb : blkOf l fr i = ⟨(atD l fr).f0, (atD l i).f0, (nextL (atD l i)).filter (fun a => (firstAt l 0 a).isSome)⟩ := by unfold blkOf; rw [rdN, rdN]
      rw [← hb] at hs
      have ih := outR_go h d (i + 1) (i + 1) (B ++ [blkOf l fr i]) (by omega) (fun _ => hs) (fun h9 => .inl ⟨hc.resolve_left (by omega), rfl, hs⟩)
      rw [ih, List.append_assoc, List.singleton_append]
theorem outR_is {l : List S46} (h : riseTo l l.length = true) : outR l (markR l l.length) l.length = blocksL l 0 0 l.length := by
  have h1 := outR_go (riseTo_rise h) l.length 0 0 [] (by omega) (fun _ => rfl) (fun h0 => .inl ⟨(markR_is h0 _ (Nat.le_refl _)).2 (.inl ⟨rfl, h0⟩), rfl, rfl⟩)
  rw [h1, List.nil_append]
def blkL (l : List S46) : List S35 := if riseTo l l.length = true then blocksL l 0 0 l.length else []
theorem all_ev {α : Type} (p : Nat → α → Bool) : ∀ l : List α, (∀ x ∈ l, ∃ K, ∀ k, K ≤ k → p k x = true) → ∃ K, ∀ k, K ≤ k → l.all (p k) = true
  | [], _ => ⟨0, fun _ _ => rfl⟩
  | x :: r, h => by
    obtain ⟨K1, h1⟩ := h x List.mem_cons_self
    obtain ⟨K2, h2⟩ := all_ev p r (fun y hy => h y (List.mem_cons_of_mem _ hy))
    exact ⟨max K1 K2, fun k hk => by rw [List.all_cons, h1 k (by omega), h2 k (by omega)]; rfl⟩
theorem okR_ev (l : List S46) (hl : l.length ≤ 9223372036854775807) : ∃ K, ∀ k, K ≤ k → okR k l = true := by
  refine all_ev (fun k x => decide (provisoref05_Next.f k x.f0 x.f1 x.f2 x.f3 = some (nextL x)) && (decide (provisoref05_Place.f k l x.f2 = some (placeI l x.f2)) && (nextL x).all fun b => decide (provisoref05_Place.f k l b = some (placeI l b)))) l (fun x _ => ?_)
  obtain ⟨K1, h1⟩ := next_ev x
  obtain ⟨K2, h2⟩ := place_ev l hl x.f2
  obtain ⟨K3, h3⟩ := all_ev (fun k b => decide (provisoref05_Place.f k l b = some (placeI l b))) (nextL x) (fun b _ => by
    obtain ⟨K, h⟩ := place_ev l hl b
    exact ⟨K, fun k hk => decide_eq_true (h k hk)⟩)
  refine ⟨K1 + K2 + K3, fun k hk => ?_⟩
  rw [Bool.and_eq_true, Bool.and_eq_true]
  exact ⟨decide_eq_true (h1 k (by omega)), decide_eq_true (h2 k (by omega)), h3 k (by omega)⟩
theorem rblocks_ev (l : List S46) (hl : l.length < 4398046511104) : Ev (fun k => provisoref05_Blocks.f k l) (blkL l) := by
  obtain ⟨K, h⟩ := okR_ev l (by omega)
  refine ⟨K, fun k hk => ?_⟩
  show provisoref05_Blocks.f k l = some (blkL l)
  unfold provisoref05_Blocks.f blkL
  rw [if_pos ⟨hl, h k hk⟩]
  split
  · rename_i hr
    rw [outR_is hr]
  · rfl
theorem blkL_len (l : List S46) : (blkL l).length ≤ l.length := by
  unfold blkL
  split
  · exact blocks_len l _ _ _
  · simp
end Go.Proofs.Ytcffniaieegbgaa.Pure

end

section
namespace Go.Proofs.Ytcffniaieegbgaa.Pure
open Go.RowKit Go.Proofs.Ytcffniaieegbgaa.P Go.Proofs.YtcffniaieegbgaaW.PrintWords
set_option linter.unusedSimpArgs false
set_option linter.unusedVariables false
theorem drop_atB {l : List S35} {i : Nat} (h : i < l.length) : l.drop i = rd_T35 l (i : Int) :: l.drop (i + 1) := by
  rw [List.drop_eq_getElem_cons h]
  congr 1
  show l[i] = l.getD (i : Int).toNat z35
  rw [Int.toNat_natCast, List.getD_eq_getElem?_getD, List.getElem?_eq_getElem h]
  rfl
theorem rdB_mem {l : List S35} {i : Nat} (h : i < l.length) : rd_T35 l (i : Int) ∈ l := by
  unfold rd_T35
  rw [Int.toNat_natCast, List.getD_eq_getElem?_getD, List.getElem?_eq_getElem h]
  exact List.getElem_mem h
def plb (l : List S35) (a : Int) : Int := (firstB l 0 a).getD (-1)
theorem rfrom_go (l : List S35) (hl : l.length ≤ 9223372036854775807) (a : Int) : ∀ (d i : Nat), l.length - i = d → i ≤ l.length → Ev (fun k => provisoref05_from.l0 k a l (l.length : Int) (i : Int)) ((firstB (l.drop i) i a).getD (-1))
  | 0, i, hd, hi => by
    obtain rfl : i = l.length := by omega
    refine Ev.step (f := fun _ => some (-1)) (fun k => ?_) (by rw [List.drop_length]; exact Ev.now _)
    simp only [provisoref05_from.l0]
    rw [if_neg (by omega)]
  | d + 1, i, hd, hi => by
    have h1 : i < l.length := by omega
    rw [drop_atB h1]
    unfold firstB
    by_cases h2 : (rd_T35 l (i : Int)).f0 = a
    · rw [if_pos h2]
      refine Ev.step (f := fun _ => some (i : Int)) (fun k => ?_) (Ev.now _)
      simp only [provisoref05_from.l0]
      rw [if_pos (by omega), if_pos (by omega), if_pos (by omega), if_pos h2]
    · rw [if_neg h2]
      have ih := rfrom_go l hl a d (i + 1) (by omega) (by omega)
      refine Ev.step (fun k => ?_) ih
      simp only [provisoref05_from.l0]
      rw [if_pos (by omega), if_pos (by omega), if_pos (by omega), if_neg h2, wrap_one h1 hl]
theorem rfrom_ev (l : List S35) (hl : l.length ≤ 9223372036854775807) (a : Int) : Ev (fun k => provisoref05_from.f k l a) (plb l a) := by
  have h := rfrom_go l hl a l.length 0 (by omega) (by omega)
  rw [List.drop_zero] at h
  exact h
def gOf (met : List Bool) : List Int := met.map fun b => if b = true then 1 else 0
theorem gOf_get (met : List Bool) (j : Nat) : ((gOf met).getD j 0 = 0) ↔ met.getD j false = false := by
  unfold gOf
  rw [List.getD_eq_getElem?_getD, List.getElem?_map, List.getD_eq_getElem?_getD]
  cases met[j]? with
  | none => simp
  | some b => cases b <;> simp
theorem gOf_set (met : List Bool) (j : Nat) : (gOf met).set j 1 = gOf (met.set j true) := by
  unfold gOf
  rw [List.map_set]
  rfl
theorem gOf_none (n : Nat) : gOf (List.replicate n false) = List.replicate n 0 := by simp [gOf]
def Leads (l : List S35) (i j : Nat) : Prop := ∃ a ∈ (rd_T35 l (i : Int)).f2, firstB l 0 a = some (j : Int)
inductive Star (l : List S35) : Nat → Nat → Prop
  | refl (i : Nat) : Star l i i
  | step {i j k : Nat} (h : Leads l i j) (r : Star l j k) : Star l i k
theorem Star.snoc {l : List S35} {i j k : Nat} (h : Star l i j) (r : Leads l j k) : Star l i k := by
  induction h with
  | refl i => exact .step r (.refl _)
  | step h _ ih => exact .step h (ih r)
theorem Star.trans {l : List S35} {i j k : Nat} (h : Star l i j) (r : Star l j k) : Star l i k := by
  induction h with
  | refl i => exact r
  | step h _ ih => exact .step h (ih r)
structure Dfs (l : List S35) (met met' : List Bool) (out out' : List Int) (d : List Nat) : Prop where
  len : met'.length = met.length
  mono : ∀ j, met.getD j false = true → met'.getD j false = true
  cnt : out'.length + met'.count false = out.length + met.count false
  ext : out' = out ++ d.map fun j => ((j : Nat) : Int)
  nodup : d.Nodup
  new : ∀ j, j ∈ d ↔ (met.getD j false = false ∧ met'.getD j false = true)
  low : ∀ j ∈ d, j < l.length
  closed : ∀ j ∈ d, ∀ s, Leads l j s → met'.getD s false = true
  topo : ∀ a j b, d = a ++ j :: b → ∀ s, Leads l j s → ((s : Int) ∈ out ++ a.map fun j => ((j : Nat) : Int)) ∨ Star l s j
def Gray (l : List S35) (met : List Bool) (out : List Int) (i : Nat) : Prop := ∀ g, met.getD g false = true → ((g : Int) ∈ out) ∨ Star l g i
theorem Dfs.gray {l : List S35} {met met' : List Bool} {out out' : List Int} {d : List Nat} (h : Dfs l met met' out out' d) {i : Nat} (hg : Gray l met out i) : Gray l met' out' i := by
  intro g h1
  rw [h.ext]
  cases hb : met.getD g false with
  | true =>
    rcases hg g hb with h2 | h2
    · exact .inl (List.mem_append_left _ h2)
    · exact .inr h2
  | false => exact .inl (List.mem_append_right _ (List.mem_map.2 ⟨g, (h.new g).2 ⟨hb, h1⟩, rfl⟩))
theorem Dfs.refl (l : List S35) (met : List Bool) (out : List Int) : Dfs l met met out out [] :=
  ⟨rfl, fun _ h => h, rfl, (by simp), List.nodup_nil, fun j => ⟨fun h => (by cases h), fun h => (by have h2 := h.2; rw [h.1] at h2; cases h2)⟩, fun _ h => (by cases h), fun _ h => (by cases h), fun a j b h => (by simp at h)⟩
theorem Dfs.trans {l : List S35} {m1 m2 m3 : List Bool} {o1 o2 o3 : List Int} {d1 d2 : List Nat} (h1 : Dfs l m1 m2 o1 o2 d1) (h2 : Dfs l m2 m3 o2 o3 d2) : Dfs l m1 m3 o1 o3 (d1 ++ d2) where
  len := h2.len.trans h1.len
  mono := fun j h => h2.mono j (h1.mono j h)
  cnt := h2.cnt.trans h1.cnt
  ext := by rw [h2.ext, h1.ext, List.map_append, List.append_assoc]
  nodup := by
    rw [List.nodup_append]
    refine ⟨h1.nodup, h2.nodup, fun a ha b hb e => ?_⟩
    subst e
    have := ((h1.new a).1 ha).2
    rw [((h2.new a).1 hb).1] at this
    cases this
  new := fun j => by
    rw [List.mem_append, h1.new, h2.new]
    constructor
    · rintro (⟨a, b⟩ | ⟨a, b⟩)
      · exact ⟨a, h2.mono j b⟩
      · refine ⟨?_, b⟩
        cases hb : m1.getD j false with
        | false => rfl
        | true => rw [h1.mono j hb] at a; cases a
    · rintro ⟨a, b⟩
      cases hb : m2.getD j false with
      | true => exact .inl ⟨a, rfl⟩
      | false => exact .inr ⟨rfl, b⟩
  low := fun j hj => (List.mem_append.1 hj).elim (h1.low j) (h2.low j)
  closed := fun j hj s hs => (List.mem_append.1 hj).elim (fun h => h2.mono s (h1.closed j h s hs)) (fun h => h2.closed j h s hs)
  topo := by
    intro a j b e s hs
    rcases List.append_eq_append_iff.1 e with ⟨a', e1, e2⟩ | ⟨c', e1, e2⟩
    · subst e1
      rcases h2.topo a' j b e2 s hs with h3 | h3
      · rw [h1.ext] at h3
        rw [List.map_append, ← List.append_assoc]
        exact .inl h3
      · exact .inr h3
    · cases c' with
      | nil =>
        rw [List.append_nil] at e1
        subst e1
        have e2 : d2 = [] ++ j :: b := e2.symm
        rcases h2.topo [] j b e2 s hs with h3 | h3
        · rw [h1.ext] at h3
          simpa using Or.inl h3
        · exact .inr h3
      | cons c cs =>
        rw [List.cons_append] at e2
        injection e2 with e3 e4
        subst e3
        exact h1.topo a j cs e1 s hs
def Into (l : List S35) (i : Nat) (met : List Bool) (out : List Int) (met' : List Bool) (out' : List Int) : Prop :=
  Ev (fun k => intoL k l i (gOf met, out)) (gOf met', out') ∧ Ev (fun k => provisoref05_leave.f k l (i : Int) met out) (out', met')
theorem visit_go (l : List S35) (hl : l.length ≤ 4398046511104) (hx : ∀ x ∈ l, x.f2.length ≤ 9223372036854775807) (i m : Nat)
    (ih : ∀ (met : List Bool) (out : List Int) (j : Nat), met.count false < m → met.length = l.length → out.length + met.count false ≤ 4398046511104 → j < l.length → met.getD j false = false → Gray l met out j → ∃ met' out' d, Into l j met out met' out' ∧ Dfs l met met' out out' d ∧ met'.getD j false = true ∧ ∃ e, d = e ++ [j]) (hi : i < l.length) :
    ∀ (d n : Nat) (met : List Bool) (out : List Int), (rd_T35 l (i : Int)).f2.length - n = d → n ≤ (rd_T35 l (i : Int)).f2.length → met.count false < m → met.length = l.length → out.length + met.count false ≤ 4398046511104 → Gray l met out i → ∃ met' out' e,
      Ev (fun k => visitL (intoL k l) l ((rd_T35 l (i : Int)).f2.drop n) (gOf met, out)) (gOf met', out') ∧
      (∀ R, Ev (fun k => provisoref05_leave.l0 k l (i : Int) met' out' (rd_T35 l (i : Int)).f2 ((rd_T35 l (i : Int)).f2.length : Int) ((rd_T35 l (i : Int)).f2.length : Int)) R → Ev (fun k => provisoref05_leave.l0 k l (i : Int) met out (rd_T35 l (i : Int)).f2 ((rd_T35 l (i : Int)).f2.length : Int) (n : Int)) R) ∧
      Dfs l met met' out out' e ∧ ∀ a ∈ (rd_T35 l (i : Int)).f2.drop n, ∀ s : Nat, firstB l 0 a = some (s : Int) → met'.getD s false = true
  | 0, n, met, out, hd, hn, hc, hm, ho, hg => by
    obtain rfl : n = (rd_T35 l (i : Int)).f2.length := by omega
    refine ⟨met, out, [], ?_, fun R h => h, Dfs.refl _ _ _, fun a ha => by rw [List.drop_length] at ha; cases ha⟩
    rw [List.drop_length]
    exact Ev.now _
  | d + 1, n, met, out, hd, hn, hc, hm, ho, hg => by
    have hb := hx _ (rdB_mem hi)
    generalize hnx : (rd_T35 l (i : Int)).f2 = nx at hd hn hb ⊢
    have h1 : n < nx.length := by omega
    have ihd := visit_go l hl hx i m ih hi d (n + 1)
    rw [hnx] at ihd
    rw [drop_at h1]
    have hrd : rd nx (n : Int) ∈ nx := rd_mem h1
    have hfr := rfrom_ev l (by omega) (rd nx (n : Int))
    unfold plb at hfr
    simp only [visitL]
    cases hf : firstB l 0 (rd nx (n : Int)) with
    | none =>
      rw [hf] at hfr
      obtain ⟨met', out', e, h2, h3, h4, h5⟩ := ihd met out (by omega) (by omega) hc hm ho hg
      refine ⟨met', out', e, h2, fun R hR => ?_, h4, fun a ha s hs => ?_⟩
      · refine Ev.step (f := fun k => (provisoref05_from.f k l (rd nx (n : Int))).bind (fun t => if t ≥ 0 then (if 0 ≤ t then (if t < (met.length : Int) then (if rdOf false met t = true then provisoref05_leave.l0 k l (i : Int) met out nx (nx.length : Int) ((n + 1 : Nat) : Int) else (provisoref05_leave.f k l t met out).bind fun bt => provisoref05_leave.l0 k l (i : Int) bt.2 bt.1 nx (nx.length : Int) ((n + 1 : Nat) : Int)) else none) else none) else provisoref05_leave.l0 k l (i : Int) met out nx (nx.length : Int) ((n + 1 : Nat) : Int))) (fun k => ?_) (Ev.bind hfr ?_)
        · simp only [provisoref05_leave.l0]
          rw [if_pos (by omega), if_pos (by omega), if_pos (by omega), wrap_one h1 hb]
        · refine Ev.congr (fun k => ?_) (h3 R hR)
          simp only [Option.getD_none]
          rw [if_neg (by decide)]
      · rcases List.mem_cons.1 ha with rfl | ha
        · rw [hf] at hs; cases hs
        · exact h5 a ha s hs
    | some v =>
      obtain ⟨j, e3, hj⟩ := firstB_lt l 0 _ v hf
      rw [Nat.zero_add] at e3
      subst e3
      rw [hf] at hfr
      simp only [Option.getD_some] at hfr
      simp only [Int.toNat_natCast]
      have hlead : Leads l i j := ⟨_, by rw [hnx]; exact hrd, hf⟩
      have hstep : ∀ R, Ev (fun k => if rdOf false met (j : Int) = true then provisoref05_leave.l0 k l (i : Int) met out nx (nx.length : Int) ((n + 1 : Nat) : Int) else (provisoref05_leave.f k l (j : Int) met out).bind fun bt => provisoref05_leave.l0 k l (i : Int) bt.2 bt.1 nx (nx.length : Int) ((n + 1 : Nat) : Int)) R → Ev (fun k => provisoref05_leave.l0 k l (i : Int) met out nx (nx.length : Int) (n : Int)) R := by
        intro R hR
        refine Ev.step (f := fun k => (provisoref05_from.f k l (rd nx (n : Int))).bind (fun t => if t ≥ 0 then (if 0 ≤ t then (if t < (met.length : Int) then (if rdOf false met t = true then provisoref05_leave.l0 k l (i : Int) met out nx (nx.length : Int) ((n + 1 : Nat) : Int) else (provisoref05_leave.f k l t met out).bind fun bt => provisoref05_leave.l0 k l (i : Int) bt.2 bt.1 nx (nx.length : Int) ((n + 1 : Nat) : Int)) else none) else none) else provisoref05_leave.l0 k l (i : Int) met out nx (nx.length : Int) ((n + 1 : Nat) : Int))) (fun k => ?_) (Ev.bind hfr ?_)
        · simp only [provisoref05_leave.l0]
          rw [if_pos (by omega), if_pos (by omega), if_pos (by omega), wrap_one h1 hb]
        · refine Ev.congr (fun k => ?_) hR
          rw [if_pos (by omega), if_pos (by omega), if_pos (by omega)]
      have hrb : rdOf false met (j : Int) = met.getD j false := by unfold rdOf; rw [Int.toNat_natCast]
      cases hmj : met.getD j false with
      | true =>
        obtain ⟨met', out', e, h2, h3, h4, h5⟩ := ihd met out (by omega) (by omega) hc hm ho hg
        refine ⟨met', out', e, ?_, fun R hR => hstep R ?_, h4, fun a ha s hs => ?_⟩
        · refine Ev.congr (fun k => ?_) h2
          rw [if_neg (fun h => by rw [gOf_get, hmj] at h; cases h)]
        · refine Ev.congr (fun k => ?_) (h3 R hR)
          rw [hrb, hmj, if_pos rfl]
        · rcases List.mem_cons.1 ha with rfl | ha
          · rw [hf] at hs
            have : j = s := by have := Option.some.inj hs; omega
            rw [← this]
            exact h4.mono j hmj
          · exact h5 a ha s hs
      | false =>
        obtain ⟨m1, o1, d1, ⟨k1, k2⟩, k3, k4, _⟩ := ih met out j hc hm ho hj hmj (fun g hg9 => (hg g hg9).imp id (fun h => h.snoc hlead))
        have hcnt := k3.cnt
        have hlo : o1.length = out.length + d1.length := by rw [k3.ext]; simp
        obtain ⟨met', out', e, h2, h3, h4, h5⟩ := ihd m1 o1 (by omega) (by omega) (by omega) (k3.len.trans hm) (by omega) (k3.gray hg)
        refine ⟨met', out', d1 ++ e, ?_, fun R hR => hstep R ?_, k3.trans h4, fun a ha s hs => ?_⟩
        · refine Ev.congr (f := fun k => (intoL k l j (gOf met, out)).bind (visitL (intoL k l) l (nx.drop (n + 1)))) (fun k => ?_) (Ev.bind k1 h2)
          rw [if_pos ((gOf_get met j).2 hmj)]
        · refine Ev.congr (f := fun k => (provisoref05_leave.f k l (j : Int) met out).bind fun bt => provisoref05_leave.l0 k l (i : Int) bt.2 bt.1 nx (nx.length : Int) ((n + 1 : Nat) : Int)) (fun k => ?_) (Ev.bind k2 (h3 R hR))
          rw [hrb, hmj, if_neg (by decide)]
        · rcases List.mem_cons.1 ha with rfl | ha
          · rw [hf] at hs
            have : j = s := by have := Option.some.inj hs; omega
            rw [← this]
            exact h4.mono j k4
          · exact h5 a ha s hs
theorem into_go (l : List S35) (hl : l.length ≤ 4398046511104) (hx : ∀ x ∈ l, x.f2.length ≤ 9223372036854775807) : ∀ (m : Nat) (met : List Bool) (out : List Int) (i : Nat), met.count false < m → met.length = l.length → out.length + met.count false ≤ 4398046511104 → i < l.length → met.getD i false = false → Gray l met out i → ∃ met' out' d, Into l i met out met' out' ∧ Dfs l met met' out out' d ∧ met'.getD i false = true ∧ ∃ e, d = e ++ [i]
  | 0, met, out, i, hc, hm, ho, hi, hmi, hg => by omega
  | m + 1, met, out, i, hc, hm, ho, hi, hmi, hg => by
    have hsc := set_count met i (by omega) hmi
    have hget := fun g => getD_set met i g (by omega)
    have hg1 : Gray l (met.set i true) out i := by
      intro g h1
      rw [hget] at h1
      by_cases e : g = i
      · rw [e]; exact .inr (.refl _)
      · rw [if_neg e] at h1; exact hg g h1
    have hb := hx _ (rdB_mem hi)
    obtain ⟨m1, o1, d, h2, h3, h4, h5⟩ := visit_go l hl hx i m (fun met out j a b c d e f => into_go l hl hx m met out j a b c d e f) hi _ 0 (met.set i true) out rfl (Nat.zero_le _) (by omega) (by rw [List.length_set]; exact hm) (by omega) hg1
    rw [List.drop_zero] at h2 h5
    have hcnt := h4.cnt
    have hlo : o1.length = out.length + d.length := by rw [h4.ext]; simp
    have hi1 : (met.set i true).getD i false = true := by rw [hget, if_pos rfl]
    have hmi1 := h4.mono i hi1
    have hnd : i ∉ d := fun h => by have := ((h4.new i).1 h).1; rw [hi1] at this; cases this
    have hlt : o1.length < 17592186044416 := by omega
    refine ⟨m1, o1 ++ [(i : Int)], d ++ [i], ⟨?_, ?_⟩, ?_, hmi1, d, rfl⟩
    · refine Ev.step (f := fun k => (visitL (intoL k l) l (rd_T35 l (i : Int)).f2 (gOf (met.set i true), out)).bind fun t => if fitsB t.2.length = true then some (t.1, t.2 ++ [(i : Int)]) else none) (fun k => ?_) (Ev.bind h2 ?_)
      · rw [intoL, gOf_set]
      · simp only [show fitsB o1.length = true from decide_eq_true hlt, if_true]
        exact Ev.now _
    · refine Ev.step (f := fun k => provisoref05_leave.l0 k l (i : Int) (met.set i true) out (rd_T35 l (i : Int)).f2 ((rd_T35 l (i : Int)).f2.length : Int) ((0 : Nat) : Int)) (fun k => ?_) (h3 _ ?_)
      · simp only [provisoref05_leave.f]
        rw [if_pos (by omega), if_pos (by omega), if_pos (by omega), Int.toNat_natCast]
        rfl
      · refine Ev.step (f := fun _ => some (o1 ++ [(i : Int)], m1)) (fun k => ?_) (Ev.now _)
        simp only [provisoref05_leave.l0]
        rw [if_neg (by omega), if_pos hlt]
    · refine ⟨by rw [h4.len, List.length_set], fun j h => h4.mono j (by rw [hget]; split; rfl; exact h), by rw [List.length_append, List.length_singleton]; omega, by rw [h4.ext, List.map_append, List.append_assoc]; rfl, ?_, fun j => ?_, fun j hj => ?_, fun j hj s hs => ?_, fun a j b e s hs => ?_⟩
      · rw [List.nodup_append]
        exact ⟨h4.nodup, by simp, fun a ha b hb e => hnd (by rw [List.mem_singleton.1 hb] at e; rw [← e]; exact ha)⟩
      · rw [List.mem_append, List.mem_singleton, h4.new, hget]
        constructor
        · rintro (⟨a, b⟩ | rfl)
          · by_cases e : j = i
            · rw [if_pos e] at a; cases a
            · rw [if_neg e] at a; exact ⟨a, b⟩
          · exact ⟨hmi, hmi1⟩
        · rintro ⟨a, b⟩
          by_cases e : j = i
          · exact .inr e
          · rw [if_neg e]; exact .inl ⟨a, b⟩
      · rcases List.mem_append.1 hj with hj | hj
        · exact h4.low j hj
        · rw [List.mem_singleton.1 hj]; exact hi
      · rcases List.mem_append.1 hj with hj | hj
        · exact h4.closed j hj s hs
        · obtain ⟨a, ha, hf⟩ := hs
          rw [List.mem_singleton.1 hj] at ha
          exact h5 a ha s hf
      · rcases List.append_eq_append_iff.1 e with ⟨a', e1, e2⟩ | ⟨c', e1, e2⟩
        · cases a' with
          | nil =>
            rw [List.nil_append] at e2
            injection e2 with e3 e4
            subst e3
            rw [List.append_nil] at e1
            subst e1
            obtain ⟨x, hx1, hf⟩ := hs
            have hm1 := h5 x hx1 s hf
            rw [← h4.ext]
            exact h4.gray hg1 s hm1
          | cons c cs =>
            exfalso
            rw [List.cons_append] at e2
            injection e2 with e3 e4
            simp at e4
        · cases c' with
          | nil =>
            rw [List.nil_append] at e2
            injection e2 with e3 e4
            subst e3
            rw [List.append_nil] at e1
            subst e1
            obtain ⟨x, hx1, hf⟩ := hs
            have hm1 := h5 x hx1 s hf
            rw [← h4.ext]
            exact h4.gray hg1 s hm1
          | cons c cs =>
            rw [List.cons_append] at e2
            injection e2 with e3 e4
            subst e3
            exact h4.topo a j cs e1 s hs
end Go.Proofs.Ytcffniaieegbgaa.Pure
end

