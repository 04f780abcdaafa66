/- Proved: the law TypesAsks holds for every input that the row lets in. No condition of ours. -/
import Derived.Test.YtghgloepameloaaBTypesAskse
import Derived.Test.YtghgloepameloaaRows
import Derived.ShutString
import Derived.ChangeOld
import Derived.Lib.SmallJoins
section
namespace Go.Proofs.Ytghgloepameloaa.P
open Go.RowKit Go.Proofs.YtghgloepameloaaW.PrintWords Go.Proofs.YtghgloepameloaaW.PrintLast Go.Proofs.YtghgloepameloaaW.PrintMore
attribute [local go_sem] max2_int min2_int max_two min_two max_three min_three max_four min_four   -- for this text's walks alone
set_option linter.unusedVariables false
set_option linter.unusedSimpArgs false

set_option maxHeartbeats 8000000 in
set_option maxRecDepth 100000 in
theorem provisolaw02_TypesAsks.calls (k : Nat) (A0 : Option Addr) (c0 : Nat) (l0 : List (S38)) (a1 : Int) (a2 : Int) (r : Bool) (w : World) (hr0 : Kd.C k38 w A0 l0.length l0) (hc0 : l0.length ≤ c0) (h : provisolaw02_TypesAsks.f k l0 a1 a2 = some r) :
    Calls Try.prog 9 #[.slice A0 l0.length c0, .int .u8 a1, .int .u8 a2] w fun e w' => e = .returned (.bool r) ∧ Below w.heap.size w w' := by
  have HR0 := Aside0.mk hr0
  have HC0 := Aside0.mk hc0
  clear hr0 hc0
  have HB := Aside0.mk (Below.refl w.heap.size w)
  have H : ((types_IsRef.f a1).bind fun t269 => ((provisoref02_IsRef.f a1).bind fun t270 => (if (t269 != t270) = true then (some false) else ((provisoref02_Made.f k l0).bind fun t271 => (if t271 = true then ((provisoplain_Classes.f k l0).bind fun t272 => ((types_Valid.f t272 a1).bind fun t275 => ((provisoref02_Valid.f l0 a1).bind fun t276 => (if (t275 == t276) = true then ((types_Rank.f k t272 a1).bind fun t277 => ((provisoref02_Rank.f k l0 a1).bind fun t278 => (provisolaw02_TypesAsks.j0 k l0 a1 a2 t272 (t277 == t278)))) else (provisolaw02_TypesAsks.j0 k l0 a1 a2 t272 false))))) else (some true)))))) = some r := h
  clear h
  replace H := Option.bind_eq_some_iff.mp H
  obtain ⟨t269, A40, H⟩ := H
  replace H : ((provisoref02_IsRef.f a1).bind fun t270 => (if (t269 != t270) = true then (some false) else ((provisoref02_Made.f k l0).bind fun t271 => (if t271 = true then ((provisoplain_Classes.f k l0).bind fun t272 => ((types_Valid.f t272 a1).bind fun t275 => ((provisoref02_Valid.f l0 a1).bind fun t276 => (if (t275 == t276) = true then ((types_Rank.f k t272 a1).bind fun t277 => ((provisoref02_Rank.f k l0 a1).bind fun t278 => (provisolaw02_TypesAsks.j0 k l0 a1 a2 t272 (t277 == t278)))) else (provisolaw02_TypesAsks.j0 k l0 a1 a2 t272 false))))) else (some true))))) = some r := H
  have A4 := Aside0.mk A40
  clear A40
  replace H := Option.bind_eq_some_iff.mp H
  obtain ⟨t270, A50, H⟩ := H
  replace H : (if (t269 != t270) = true then (some false) else ((provisoref02_Made.f k l0).bind fun t271 => (if t271 = true then ((provisoplain_Classes.f k l0).bind fun t272 => ((types_Valid.f t272 a1).bind fun t275 => ((provisoref02_Valid.f l0 a1).bind fun t276 => (if (t275 == t276) = true then ((types_Rank.f k t272 a1).bind fun t277 => ((provisoref02_Rank.f k l0 a1).bind fun t278 => (provisolaw02_TypesAsks.j0 k l0 a1 a2 t272 (t277 == t278)))) else (provisolaw02_TypesAsks.j0 k l0 a1 a2 t272 false))))) else (some true)))) = some r := H
  have A5 := Aside0.mk A50
  clear A50
  by_cases c6 : (t269 != t270) = true
  · rw [if_pos c6] at H
    have c6b0 : (t269 != t270) = true := c6
    (try (have c6b1 : decide (t269 = t270) = false := by simpa using c6))
    (try (have c6b2 : (t269 == t270) = false := by simpa using c6))
    (try (have c6b3 : ¬ (t269 = t270) := by simpa using c6))
    clear c6
    obtain rfl := Option.some.inj H
    go_enter Try.func9, Try.ntmps9
    go_wp2_with (first | ((with_reducible refine gate_callee (f := 28) rfl ?_); refine goesL_ (some 11) rfl rfl Try.func28 (by kernel_rfl) rfl #[.int .u8 a1] rfl (by (try simp only [List.map_toArray, List.map_cons, List.map_nil]); first | done | rfl | (simp only [List.length_drop, List.length_take]; rfl)) ?_; (with_reducible refine (types_IsRef.calls a1 t269 _ A4.out).mono ?_); rintro e w' ⟨rfl, ⟨nd, rfl⟩⟩; refine ⟨_, rfl, ?_⟩) | ((with_reducible refine gate_callee (f := 29) rfl ?_); refine goesL_ (some 13) rfl rfl Try.func29 (by kernel_rfl) rfl #[.int .u8 a1] rfl (by (try simp only [List.map_toArray, List.map_cons, List.map_nil]); first | done | rfl | (simp only [List.length_drop, List.length_take]; rfl)) ?_; (with_reducible refine (provisoref02_IsRef.calls a1 t270 _ A5.out).mono ?_); rintro e w' ⟨rfl, ⟨nd, rfl⟩⟩; refine ⟨_, rfl, ?_⟩))
    go_ret
    exact ⟨by first | rfl | (simp [errW_none, errW_some] <;> rfl) | (simp [*, errW_none, errW_some] <;> rfl), by repeat (first | (with_reducible first | exact HB.out | apply below_alloc | apply pw_below_drewN | apply below_drew1) | exact HB.out)⟩
  · rw [if_neg c6] at H
    have c6b0 : (t269 != t270) = false := by simpa using c6
    (try (have c6b1 : decide (t269 = t270) = true := by simpa using c6))
    (try (have c6b2 : (t269 == t270) = true := by simpa using c6))
    clear c6
    replace H := Option.bind_eq_some_iff.mp H
    obtain ⟨t271, A70, H⟩ := H
    replace H : (if t271 = true then ((provisoplain_Classes.f k l0).bind fun t272 => ((types_Valid.f t272 a1).bind fun t275 => ((provisoref02_Valid.f l0 a1).bind fun t276 => (if (t275 == t276) = true then ((types_Rank.f k t272 a1).bind fun t277 => ((provisoref02_Rank.f k l0 a1).bind fun t278 => (provisolaw02_TypesAsks.j0 k l0 a1 a2 t272 (t277 == t278)))) else (provisolaw02_TypesAsks.j0 k l0 a1 a2 t272 false))))) else (some true)) = some r := H
    have A7 := Aside0.mk A70
    clear A70
    by_cases c8 : t271 = true
    · subst c8
      have H1 : ((provisoplain_Classes.f k l0).bind fun t272 => ((types_Valid.f t272 a1).bind fun t275 => ((provisoref02_Valid.f l0 a1).bind fun t276 => (if (t275 == t276) = true then ((types_Rank.f k t272 a1).bind fun t277 => ((provisoref02_Rank.f k l0 a1).bind fun t278 => (provisolaw02_TypesAsks.j0 k l0 a1 a2 t272 (t277 == t278)))) else (provisolaw02_TypesAsks.j0 k l0 a1 a2 t272 false))))) = some r := by rw [if_pos rfl] at H; exact H
      clear H
      have H := H1
      clear H1
      replace H := Option.bind_eq_some_iff.mp H
      obtain ⟨t272, A90, H⟩ := H
      replace H : ((types_Valid.f t272 a1).bind fun t275 => ((provisoref02_Valid.f l0 a1).bind fun t276 => (if (t275 == t276) = true then ((types_Rank.f k t272 a1).bind fun t277 => ((provisoref02_Rank.f k l0 a1).bind fun t278 => (provisolaw02_TypesAsks.j0 k l0 a1 a2 t272 (t277 == t278)))) else (provisolaw02_TypesAsks.j0 k l0 a1 a2 t272 false)))) = some r := H
      have A9 := Aside0.mk A90
      clear A90
      have HC10 := Aside0.mk H
      clear H
      go_enter Try.func9, Try.ntmps9
      go_upto_region 6 with (first | ((with_reducible refine gate_callee (f := 28) rfl ?_); refine goesL_ (some 11) rfl rfl Try.func28 (by kernel_rfl) rfl #[.int .u8 a1] rfl (by (try simp only [List.map_toArray, List.map_cons, List.map_nil]); first | done | rfl | (simp only [List.length_drop, List.length_take]; rfl)) ?_; (with_reducible refine (types_IsRef.calls a1 t269 _ A4.out).mono ?_); rintro e w' ⟨rfl, ⟨nd, rfl⟩⟩; refine ⟨_, rfl, ?_⟩) | ((with_reducible refine gate_callee (f := 29) rfl ?_); refine goesL_ (some 13) rfl rfl Try.func29 (by kernel_rfl) rfl #[.int .u8 a1] rfl (by (try simp only [List.map_toArray, List.map_cons, List.map_nil]); first | done | rfl | (simp only [List.length_drop, List.length_take]; rfl)) ?_; (with_reducible refine (provisoref02_IsRef.calls a1 t270 _ A5.out).mono ?_); rintro e w' ⟨rfl, ⟨nd, rfl⟩⟩; refine ⟨_, rfl, ?_⟩) | ((with_reducible refine gate_callee (f := 11) rfl ?_); refine goesL_ (some 16) rfl rfl Try.func11 (by kernel_rfl) rfl #[.slice A0 l0.length c0] rfl (by (try simp only [List.map_toArray, List.map_cons, List.map_nil]); first | done | rfl | (simp only [List.length_drop, List.length_take]; rfl)) ?_; (with_reducible refine (provisoref02_Made.calls k _ _ l0 true _ ?side1 ?side2 A7.out).mono ?_); (case side1 => repeat (first | exact HR0.out | (with_reducible refine Kd.C_alloc ?_ _) | (with_reducible refine Kd.C_drewN ?_ _) | (with_reducible refine Kd.C_drew ?_))); (case side2 => exact HC0.out); rintro e w11 ⟨rfl, hb⟩; refine ⟨_, rfl, ?_⟩; have n0_ := Aside0.mk (below_step (by repeat (first | (with_reducible first | exact HB.out | apply below_alloc | apply pw_below_drewN | apply below_drew1) | exact HB.out)) hb); clear HB; have HB := n0_; clear n0_; (try clear hb); (try clear hb2); (try clear hk); (try clear hi)) | ((with_reducible refine gate_callee (f := 22) rfl ?_); refine goesL_ (some 19) rfl rfl Try.func22 (by kernel_rfl) rfl #[.slice A0 l0.length c0] rfl (by (try simp only [List.map_toArray, List.map_cons, List.map_nil]); first | done | rfl | (simp only [List.length_drop, List.length_take]; rfl)) ?_; (with_reducible refine (provisoplain_Classes.calls k _ _ l0 t272 _ ?side1 ?side2 A9.out).mono ?_); (case side1 => repeat (first | exact (Kd.C_below HR0.out HB.out) | (with_reducible refine Kd.C_alloc ?_ _) | (with_reducible refine Kd.C_drewN ?_ _) | (with_reducible refine Kd.C_drew ?_))); (case side2 => exact HC0.out); rintro e w12 ⟨v273, rfl, ho0, hb⟩; refine ⟨_, rfl, ?_⟩; have n0_ := Aside0.mk (Kd.S_lower ho0 (below_size (by repeat (first | (with_reducible first | exact HB.out | apply below_alloc | apply pw_below_drewN | apply below_drew1) | exact HB.out)))); have n1_ := Aside0.mk (below_step (by repeat (first | (with_reducible first | exact HB.out | apply below_alloc | apply pw_below_drewN | apply below_drew1) | exact HB.out)) hb); clear HB; have HO274 := n0_; have HB := n1_; clear n0_ n1_; (try clear hb); (try clear hb2); (try clear hk); (try clear hi); (try clear ho0)))
      (try simp only [Act.put, List.setIfInBounds_toArray, List.set_cons_zero, List.set_cons_succ])
      go_cut [8] (fun v8 wc => ∃ (kq : Nat) (x8_9 : Bool), v8 = .bool x8_9 ∧ Aside0 (provisolaw02_TypesAsks.j0 kq l0 a1 a2 t272 x8_9 = some r) ∧ Aside0 (kq ≤ k) ∧ Aside0 (Kd.S k38 38 wc w.heap.size (fun _ => True) v273 t272) ∧ Aside0 (Below w.heap.size w wc))
      case first =>
        have H := HC10.out
        clear HC10
        replace H := Option.bind_eq_some_iff.mp H
        obtain ⟨t275, A130, H⟩ := H
        replace H : ((provisoref02_Valid.f l0 a1).bind fun t276 => (if (t275 == t276) = true then ((types_Rank.f k t272 a1).bind fun t277 => ((provisoref02_Rank.f k l0 a1).bind fun t278 => (provisolaw02_TypesAsks.j0 k l0 a1 a2 t272 (t277 == t278)))) else (provisolaw02_TypesAsks.j0 k l0 a1 a2 t272 false))) = some r := H
        have A13 := Aside0.mk A130
        clear A130
        replace H := Option.bind_eq_some_iff.mp H
        obtain ⟨t276, A140, H⟩ := H
        replace H : (if (t275 == t276) = true then ((types_Rank.f k t272 a1).bind fun t277 => ((provisoref02_Rank.f k l0 a1).bind fun t278 => (provisolaw02_TypesAsks.j0 k l0 a1 a2 t272 (t277 == t278)))) else (provisolaw02_TypesAsks.j0 k l0 a1 a2 t272 false)) = some r := H
        have A14 := Aside0.mk A140
        clear A140
        by_cases c15 : (t275 == t276) = true
        · rw [if_pos c15] at H
          have c15b0 : (t275 == t276) = true := c15
          (try (have c15b1 : decide (t275 = t276) = true := by simpa using c15))
          (try (have c15b2 : (t275 == t276) = true := by simpa using c15))
          clear c15
          (first | rw [c15b0] | (simp only [i64_w, i32_w]; rw [c15b0]) | skip)
          replace H := Option.bind_eq_some_iff.mp H
          obtain ⟨t277, A160, H⟩ := H
          replace H : ((provisoref02_Rank.f k l0 a1).bind fun t278 => (provisolaw02_TypesAsks.j0 k l0 a1 a2 t272 (t277 == t278))) = some r := H
          have A16 := Aside0.mk A160
          clear A160
          replace H := Option.bind_eq_some_iff.mp H
          obtain ⟨t278, A170, H⟩ := H
          replace H : (provisolaw02_TypesAsks.j0 k l0 a1 a2 t272 (t277 == t278)) = some r := H
          have A17 := Aside0.mk A170
          clear A170
          have H' := Aside0.mk H
          clear H
          obtain ⟨Ao18, co18, eo18⟩ := Kd.S_slice HO274.out
          subst eo18
          go_wp2_with (first | ((with_reducible refine gate_callee (f := 30) rfl ?_); refine goesL_ (some 22) rfl rfl Try.func30 (by kernel_rfl) rfl #[.slice Ao18 t272.length co18, .int .u8 a1] rfl (by (try simp only [List.map_toArray, List.map_cons, List.map_nil]); first | done | rfl | (simp only [List.length_drop, List.length_take]; rfl)) ?_; (with_reducible refine (types_Valid.calls _ _ t272 a1 t275 _ ?side1 ?side2 A13.out).mono ?_); (case side1 => repeat (first | exact (Kd.S_reads' HO274.out).2.2 | (with_reducible refine Kd.C_alloc ?_ _) | (with_reducible refine Kd.C_drewN ?_ _) | (with_reducible refine Kd.C_drew ?_))); (case side2 => exact (Kd.S_reads' HO274.out).2.1); rintro e w' ⟨rfl, ⟨nd, rfl⟩⟩; refine ⟨_, rfl, ?_⟩) | ((with_reducible refine gate_callee (f := 31) rfl ?_); refine goesL_ (some 25) rfl rfl Try.func31 (by kernel_rfl) rfl #[.slice A0 l0.length c0, .int .u8 a1] rfl (by (try simp only [List.map_toArray, List.map_cons, List.map_nil]); first | done | rfl | (simp only [List.length_drop, List.length_take]; rfl)) ?_; (with_reducible refine (provisoref02_Valid.calls _ _ l0 a1 t276 _ ?side1 ?side2 A14.out).mono ?_); (case side1 => repeat (first | exact (Kd.C_below HR0.out (by repeat (first | (with_reducible first | exact HB.out | apply below_alloc | apply pw_below_drewN | apply below_drew1) | exact HB.out))) | (with_reducible refine Kd.C_alloc ?_ _) | (with_reducible refine Kd.C_drewN ?_ _) | (with_reducible refine Kd.C_drew ?_))); (case side2 => exact HC0.out); rintro e w' ⟨rfl, ⟨nd, rfl⟩⟩; refine ⟨_, rfl, ?_⟩) | (go_at_call 21; (with_reducible refine (types_Rank.calls k _ _ t272 a1 t277 _ ?side1 ?side2 A16.out).mono ?_); (case side1 => repeat (first | exact (Kd.S_reads' HO274.out).2.2 | (with_reducible refine Kd.C_alloc ?_ _) | (with_reducible refine Kd.C_drewN ?_ _) | (with_reducible refine Kd.C_drew ?_))); (case side2 => exact (Kd.S_reads' HO274.out).2.1); rintro e w19 ⟨rfl, hb⟩; have n0_ := Aside0.mk (Kd.S_below (by (with_reducible repeat (first | apply Kd.S_alloc | apply Kd.S_drewN | apply Kd.S_drew)); exact HO274.out) hb); have n1_ := Aside0.mk (below_step (by repeat (first | (with_reducible first | exact HB.out | apply below_alloc | apply pw_below_drewN | apply below_drew1) | exact HB.out)) hb); clear HO274; clear HB; have HO274 := n0_; have HB := n1_; clear n0_ n1_; (try clear hb); (try clear hb2); (try clear hk); (try clear hi)) | (go_at_call 32; (with_reducible refine (provisoref02_Rank.calls k _ _ l0 a1 t278 _ ?side1 ?side2 A17.out).mono ?_); (case side1 => repeat (first | exact (Kd.C_below HR0.out HB.out) | (with_reducible refine Kd.C_alloc ?_ _) | (with_reducible refine Kd.C_drewN ?_ _) | (with_reducible refine Kd.C_drew ?_))); (case side2 => exact HC0.out); rintro e w20 ⟨rfl, hb⟩; have n0_ := Aside0.mk (Kd.S_below (by (with_reducible repeat (first | apply Kd.S_alloc | apply Kd.S_drewN | apply Kd.S_drew)); exact HO274.out) hb); have n1_ := Aside0.mk (below_step (by repeat (first | (with_reducible first | exact HB.out | apply below_alloc | apply pw_below_drewN | apply below_drew1) | exact HB.out)) hb); clear HO274; clear HB; have HO274 := n0_; have HB := n1_; clear n0_ n1_; (try clear hb); (try clear hb2); (try clear hk); (try clear hi)))
          go_meet
          case rel => exact ⟨_, ((t277 == t278)), (by first | rfl | (simp; done) | (simp [*]; done)), H', ⟨by first | omega | exact Nat.le_refl _⟩, ⟨by (with_reducible repeat (first | apply Kd.S_alloc | apply Kd.S_drewN | apply Kd.S_drew)); exact HO274.out⟩, ⟨by repeat (first | (with_reducible first | exact HB.out | apply below_alloc | apply pw_below_drewN | apply below_drew1) | exact HB.out)⟩⟩
        · rw [if_neg c15] at H
          have c15b0 : (t275 == t276) = false := by simpa using c15
          (try (have c15b1 : decide (t275 = t276) = false := by simpa using c15))
          (try (have c15b2 : (t275 == t276) = false := by simpa using c15))
          (try (have c15b3 : ¬ (t275 = t276) := by simpa using c15))
          clear c15
          (first | rw [c15b0] | (simp only [i64_w, i32_w]; rw [c15b0]) | skip)
          have H' := Aside0.mk H
          clear H
          obtain ⟨Ao21, co21, eo21⟩ := Kd.S_slice HO274.out
          subst eo21
          go_wp2_with (first | ((with_reducible refine gate_callee (f := 30) rfl ?_); refine goesL_ (some 22) rfl rfl Try.func30 (by kernel_rfl) rfl #[.slice Ao21 t272.length co21, .int .u8 a1] rfl (by (try simp only [List.map_toArray, List.map_cons, List.map_nil]); first | done | rfl | (simp only [List.length_drop, List.length_take]; rfl)) ?_; (with_reducible refine (types_Valid.calls _ _ t272 a1 t275 _ ?side1 ?side2 A13.out).mono ?_); (case side1 => repeat (first | exact (Kd.S_reads' HO274.out).2.2 | (with_reducible refine Kd.C_alloc ?_ _) | (with_reducible refine Kd.C_drewN ?_ _) | (with_reducible refine Kd.C_drew ?_))); (case side2 => exact (Kd.S_reads' HO274.out).2.1); rintro e w' ⟨rfl, ⟨nd, rfl⟩⟩; refine ⟨_, rfl, ?_⟩) | ((with_reducible refine gate_callee (f := 31) rfl ?_); refine goesL_ (some 25) rfl rfl Try.func31 (by kernel_rfl) rfl #[.slice A0 l0.length c0, .int .u8 a1] rfl (by (try simp only [List.map_toArray, List.map_cons, List.map_nil]); first | done | rfl | (simp only [List.length_drop, List.length_take]; rfl)) ?_; (with_reducible refine (provisoref02_Valid.calls _ _ l0 a1 t276 _ ?side1 ?side2 A14.out).mono ?_); (case side1 => repeat (first | exact (Kd.C_below HR0.out (by repeat (first | (with_reducible first | exact HB.out | apply below_alloc | apply pw_below_drewN | apply below_drew1) | exact HB.out))) | (with_reducible refine Kd.C_alloc ?_ _) | (with_reducible refine Kd.C_drewN ?_ _) | (with_reducible refine Kd.C_drew ?_))); (case side2 => exact HC0.out); rintro e w' ⟨rfl, ⟨nd, rfl⟩⟩; refine ⟨_, rfl, ?_⟩))
          go_meet
          case rel => exact ⟨_, (false), (by first | rfl | (simp; done) | (simp [*]; done)), H', ⟨by first | omega | exact Nat.le_refl _⟩, ⟨by (with_reducible repeat (first | apply Kd.S_alloc | apply Kd.S_drewN | apply Kd.S_drew)); exact HO274.out⟩, ⟨by repeat (first | (with_reducible first | exact HB.out | apply below_alloc | apply pw_below_drewN | apply below_drew1) | exact HB.out)⟩⟩
      case rest =>
        clear HC10
        try clear c1
        try clear c2
        try clear p2
        try clear c3
        try clear c6
        try clear c6b0
        try clear c6b1
        try clear c6b2
        try clear c8
        try clear c9
        try clear c11
        try clear c15
        try clear c15b0
        try clear c15b1
        try clear c15b2
        obtain ⟨kq, x8_9, rfl, HA, HJ9, HO_7, HB⟩ := hcut
        cases kq with
        | zero => exact absurd HA.out (by simp [provisolaw02_TypesAsks.j0])
        | succ kj9 =>
          have H := HA.out
          clear HA
          simp only [provisolaw02_TypesAsks.j0] at H
          replace H := Option.bind_eq_some_iff.mp H
          obtain ⟨t279, A220, H⟩ := H
          replace H : ((provisoref02_Sub.f kj9 l0 a1 a2).bind fun t280 => (if (t279 == t280) = true then ((types_Merge.f kj9 t272 a1 a2).bind fun t281 => ((provisoref02_Merge.f kj9 l0 a1 a2).bind fun t282 => (if x8_9 = true then (if t281 = t282 then ((types_Print.f t272 a1).bind fun t283 => ((provisoref02_Print.f l0 a1).bind fun t284 => (if t283.toList = t284.toList then ((provisoplain_SameClasses.f kj9 t272 l0).bind fun t285 => (some t285)) else (some false)))) else (some false)) else (some false)))) else (if x8_9 = true then (some false) else (some false)))) = some r := H
          have A22 := Aside0.mk A220
          clear A220
          replace H := Option.bind_eq_some_iff.mp H
          obtain ⟨t280, A230, H⟩ := H
          replace H : (if (t279 == t280) = true then ((types_Merge.f kj9 t272 a1 a2).bind fun t281 => ((provisoref02_Merge.f kj9 l0 a1 a2).bind fun t282 => (if x8_9 = true then (if t281 = t282 then ((types_Print.f t272 a1).bind fun t283 => ((provisoref02_Print.f l0 a1).bind fun t284 => (if t283.toList = t284.toList then ((provisoplain_SameClasses.f kj9 t272 l0).bind fun t285 => (some t285)) else (some false)))) else (some false)) else (some false)))) else (if x8_9 = true then (some false) else (some false))) = some r := H
          have A23 := Aside0.mk A230
          clear A230
          by_cases c24 : (t279 == t280) = true
          · rw [if_pos c24] at H
            have c24b0 : (t279 == t280) = true := c24
            (try (have c24b1 : decide (t279 = t280) = true := by simpa using c24))
            (try (have c24b2 : (t279 == t280) = true := by simpa using c24))
            clear c24
            replace H := Option.bind_eq_some_iff.mp H
            obtain ⟨t281, A250, H⟩ := H
            replace H : ((provisoref02_Merge.f kj9 l0 a1 a2).bind fun t282 => (if x8_9 = true then (if t281 = t282 then ((types_Print.f t272 a1).bind fun t283 => ((provisoref02_Print.f l0 a1).bind fun t284 => (if t283.toList = t284.toList then ((provisoplain_SameClasses.f kj9 t272 l0).bind fun t285 => (some t285)) else (some false)))) else (some false)) else (some false))) = some r := H
            have A25 := Aside0.mk A250
            clear A250
            replace H := Option.bind_eq_some_iff.mp H
            obtain ⟨t282, A260, H⟩ := H
            replace H : (if x8_9 = true then (if t281 = t282 then ((types_Print.f t272 a1).bind fun t283 => ((provisoref02_Print.f l0 a1).bind fun t284 => (if t283.toList = t284.toList then ((provisoplain_SameClasses.f kj9 t272 l0).bind fun t285 => (some t285)) else (some false)))) else (some false)) else (some false)) = some r := H
            have A26 := Aside0.mk A260
            clear A260
            by_cases c27 : x8_9 = true
            · subst c27
              have H1 : (if t281 = t282 then ((types_Print.f t272 a1).bind fun t283 => ((provisoref02_Print.f l0 a1).bind fun t284 => (if t283.toList = t284.toList then ((provisoplain_SameClasses.f kj9 t272 l0).bind fun t285 => (some t285)) else (some false)))) else (some false)) = some r := by rw [if_pos rfl] at H; exact H
              clear H
              have H := H1
              clear H1
              by_cases c28 : t281 = t282
              · rw [if_pos c28] at H
                have c28b0 : (t281 == t282) = true := beq_iff_eq.mpr c28
                have c28b1 : (t281 != t282) = false := bne_eq_false_iff_eq.mpr c28
                clear c28
                replace H := Option.bind_eq_some_iff.mp H
                obtain ⟨t283, A290, H⟩ := H
                replace H : ((provisoref02_Print.f l0 a1).bind fun t284 => (if t283.toList = t284.toList then ((provisoplain_SameClasses.f kj9 t272 l0).bind fun t285 => (some t285)) else (some false))) = some r := H
                have A29 := Aside0.mk A290
                clear A290
                replace H := Option.bind_eq_some_iff.mp H
                obtain ⟨t284, A300, H⟩ := H
                replace H : (if t283.toList = t284.toList then ((provisoplain_SameClasses.f kj9 t272 l0).bind fun t285 => (some t285)) else (some false)) = some r := H
                have A30 := Aside0.mk A300
                clear A300
                by_cases c31 : t283.toList = t284.toList
                · rw [if_pos c31] at H
                  have c31b0 : (t283.toList == t284.toList) = true := beq_iff_eq.mpr c31
                  have c31b1 : (t283.toList != t284.toList) = false := bne_eq_false_iff_eq.mpr c31
                  clear c31
                  replace H := Option.bind_eq_some_iff.mp H
                  obtain ⟨t285, A320, H⟩ := H
                  replace H : (some t285) = some r := H
                  have A32 := Aside0.mk A320
                  clear A320
                  obtain rfl := Option.some.inj H
                  obtain ⟨Ao33, co33, eo33⟩ := Kd.S_slice HO_7.out
                  subst eo33
                  go_wp2_with (first | ((with_reducible refine gate_callee (f := 16) rfl ?_); refine goesL_ (some 39) rfl rfl Try.func16 (by kernel_rfl) rfl #[.slice Ao33 t272.length co33, .int .u8 a1, .int .u8 a2] rfl (by (try simp only [List.map_toArray, List.map_cons, List.map_nil]); first | done | rfl | (simp only [List.length_drop, List.length_take]; rfl)) ?_; (with_reducible refine (types_Sub.calls kj9 _ _ t272 a1 a2 t279 _ ?side1 ?side2 A22.out).mono ?_); (case side1 => repeat (first | exact (Kd.S_reads' HO_7.out).2.2 | (with_reducible refine Kd.C_alloc ?_ _) | (with_reducible refine Kd.C_drewN ?_ _) | (with_reducible refine Kd.C_drew ?_))); (case side2 => exact (Kd.S_reads' HO_7.out).2.1); rintro e w34 ⟨rfl, hb⟩; refine ⟨_, rfl, ?_⟩; have n0_ := Aside0.mk (Kd.S_below (by (with_reducible repeat (first | apply Kd.S_alloc | apply Kd.S_drewN | apply Kd.S_drew)); exact HO_7.out) hb); have n1_ := Aside0.mk (below_step (by repeat (first | (with_reducible first | exact HB.out | apply below_alloc | apply pw_below_drewN | apply below_drew1) | exact HB.out)) hb); clear HO_7; clear HB; have HO_7 := n0_; have HB := n1_; clear n0_ n1_; (try clear hb); (try clear hb2); (try clear hk); (try clear hi)) | ((with_reducible refine gate_callee (f := 33) rfl ?_); refine goesL_ (some 43) rfl rfl Try.func33 (by kernel_rfl) rfl #[.slice A0 l0.length c0, .int .u8 a1, .int .u8 a2] rfl (by (try simp only [List.map_toArray, List.map_cons, List.map_nil]); first | done | rfl | (simp only [List.length_drop, List.length_take]; rfl)) ?_; (with_reducible refine (provisoref02_Sub.calls kj9 _ _ l0 a1 a2 t280 _ ?side1 ?side2 A23.out).mono ?_); (case side1 => repeat (first | exact (Kd.C_below HR0.out HB.out) | (with_reducible refine Kd.C_alloc ?_ _) | (with_reducible refine Kd.C_drewN ?_ _) | (with_reducible refine Kd.C_drew ?_))); (case side2 => exact HC0.out); rintro e w35 ⟨rfl, hb⟩; refine ⟨_, rfl, ?_⟩; have n0_ := Aside0.mk (Kd.S_below (by (with_reducible repeat (first | apply Kd.S_alloc | apply Kd.S_drewN | apply Kd.S_drew)); exact HO_7.out) hb); have n1_ := Aside0.mk (below_step (by repeat (first | (with_reducible first | exact HB.out | apply below_alloc | apply pw_below_drewN | apply below_drew1) | exact HB.out)) hb); clear HO_7; clear HB; have HO_7 := n0_; have HB := n1_; clear n0_ n1_; (try clear hb); (try clear hb2); (try clear hk); (try clear hi)) | (go_at_call 20; (with_reducible refine (types_Merge.calls kj9 _ _ t272 a1 a2 t281 _ ?side1 ?side2 A25.out).mono ?_); (case side1 => repeat (first | exact (Kd.S_reads' HO_7.out).2.2 | (with_reducible refine Kd.C_alloc ?_ _) | (with_reducible refine Kd.C_drewN ?_ _) | (with_reducible refine Kd.C_drew ?_))); (case side2 => exact (Kd.S_reads' HO_7.out).2.1); rintro e w36 ⟨rfl, hb⟩; have n0_ := Aside0.mk (Kd.S_below (by (with_reducible repeat (first | apply Kd.S_alloc | apply Kd.S_drewN | apply Kd.S_drew)); exact HO_7.out) hb); have n1_ := Aside0.mk (below_step (by repeat (first | (with_reducible first | exact HB.out | apply below_alloc | apply pw_below_drewN | apply below_drew1) | exact HB.out)) hb); clear HO_7; clear HB; have HO_7 := n0_; have HB := n1_; clear n0_ n1_; (try clear hb); (try clear hb2); (try clear hk); (try clear hi)) | (go_at_call 34; (with_reducible refine (provisoref02_Merge.calls kj9 _ _ l0 a1 a2 t282 _ ?side1 ?side2 A26.out).mono ?_); (case side1 => repeat (first | exact (Kd.C_below HR0.out HB.out) | (with_reducible refine Kd.C_alloc ?_ _) | (with_reducible refine Kd.C_drewN ?_ _) | (with_reducible refine Kd.C_drew ?_))); (case side2 => exact HC0.out); rintro e w37 ⟨rfl, hb⟩; have n0_ := Aside0.mk (Kd.S_below (by (with_reducible repeat (first | apply Kd.S_alloc | apply Kd.S_drewN | apply Kd.S_drew)); exact HO_7.out) hb); have n1_ := Aside0.mk (below_step (by repeat (first | (with_reducible first | exact HB.out | apply below_alloc | apply pw_below_drewN | apply below_drew1) | exact HB.out)) hb); clear HO_7; clear HB; have HO_7 := n0_; have HB := n1_; clear n0_ n1_; (try clear hb); (try clear hb2); (try clear hk); (try clear hi)) | (go_at_call 13; (with_reducible refine (types_Print.calls _ _ t272 a1 t283 _ ?side1 ?side2 A29.out).mono ?_); (case side1 => repeat (first | exact (Kd.S_reads' HO_7.out).2.2 | (with_reducible refine Kd.C_alloc ?_ _) | (with_reducible refine Kd.C_drewN ?_ _) | (with_reducible refine Kd.C_drew ?_))); (case side2 => exact (Kd.S_reads' HO_7.out).2.1); rintro e w38 ⟨rfl, hb⟩; have n0_ := Aside0.mk (Kd.S_below (by (with_reducible repeat (first | apply Kd.S_alloc | apply Kd.S_drewN | apply Kd.S_drew)); exact HO_7.out) hb); have n1_ := Aside0.mk (below_step (by repeat (first | (with_reducible first | exact HB.out | apply below_alloc | apply pw_below_drewN | apply below_drew1) | exact HB.out)) hb); clear HO_7; clear HB; have HO_7 := n0_; have HB := n1_; clear n0_ n1_; (try clear hb); (try clear hb2); (try clear hk); (try clear hi)) | (go_at_call 35; (with_reducible refine (provisoref02_Print.calls _ _ l0 a1 t284 _ ?side1 ?side2 A30.out).mono ?_); (case side1 => repeat (first | exact (Kd.C_below HR0.out HB.out) | (with_reducible refine Kd.C_alloc ?_ _) | (with_reducible refine Kd.C_drewN ?_ _) | (with_reducible refine Kd.C_drew ?_))); (case side2 => exact HC0.out); rintro e w' ⟨rfl, ⟨nd, rfl⟩⟩) | (go_at_call 27; (with_reducible refine (provisoplain_SameClasses.calls kj9 _ _ t272 _ _ l0 t285 _ ?side1 ?side2 ?side3 ?side4 A32.out).mono ?_); (case side1 => repeat (first | exact (Kd.S_reads' HO_7.out).2.2 | (with_reducible refine Kd.C_alloc ?_ _) | (with_reducible refine Kd.C_drewN ?_ _) | (with_reducible refine Kd.C_drew ?_))); (case side2 => exact (Kd.S_reads' HO_7.out).2.1); (case side3 => repeat (first | exact (Kd.C_below HR0.out (by repeat (first | (with_reducible first | exact HB.out | apply below_alloc | apply pw_below_drewN | apply below_drew1) | exact HB.out))) | (with_reducible refine Kd.C_alloc ?_ _) | (with_reducible refine Kd.C_drewN ?_ _) | (with_reducible refine Kd.C_drew ?_))); (case side4 => exact HC0.out); rintro e w39 ⟨rfl, hb⟩; have n0_ := Aside0.mk (Kd.S_below (by (with_reducible repeat (first | apply Kd.S_alloc | apply Kd.S_drewN | apply Kd.S_drew)); exact HO_7.out) hb); have n1_ := Aside0.mk (below_step (by repeat (first | (with_reducible first | exact HB.out | apply below_alloc | apply pw_below_drewN | apply below_drew1) | exact HB.out)) hb); clear HO_7; clear HB; have HO_7 := n0_; have HB := n1_; clear n0_ n1_; (try clear hb); (try clear hb2); (try clear hk); (try clear hi)))
                  go_ret
                  exact ⟨by first | rfl | (simp [errW_none, errW_some] <;> rfl) | (simp [*, errW_none, errW_some] <;> rfl), by repeat (first | (with_reducible first | exact HB.out | apply below_alloc | apply pw_below_drewN | apply below_drew1) | exact HB.out)⟩
                · rw [if_neg c31] at H
                  have c31b0 : (t283.toList == t284.toList) = false := beq_eq_false_iff_ne.mpr c31
                  have c31b1 : (t283.toList != t284.toList) = true := bne_iff_ne.mpr c31
                  obtain rfl := Option.some.inj H
                  obtain ⟨Ao40, co40, eo40⟩ := Kd.S_slice HO_7.out
                  subst eo40
                  go_wp2_with (first | ((with_reducible refine gate_callee (f := 16) rfl ?_); refine goesL_ (some 39) rfl rfl Try.func16 (by kernel_rfl) rfl #[.slice Ao40 t272.length co40, .int .u8 a1, .int .u8 a2] rfl (by (try simp only [List.map_toArray, List.map_cons, List.map_nil]); first | done | rfl | (simp only [List.length_drop, List.length_take]; rfl)) ?_; (with_reducible refine (types_Sub.calls kj9 _ _ t272 a1 a2 t279 _ ?side1 ?side2 A22.out).mono ?_); (case side1 => repeat (first | exact (Kd.S_reads' HO_7.out).2.2 | (with_reducible refine Kd.C_alloc ?_ _) | (with_reducible refine Kd.C_drewN ?_ _) | (with_reducible refine Kd.C_drew ?_))); (case side2 => exact (Kd.S_reads' HO_7.out).2.1); rintro e w41 ⟨rfl, hb⟩; refine ⟨_, rfl, ?_⟩; have n0_ := Aside0.mk (Kd.S_below (by (with_reducible repeat (first | apply Kd.S_alloc | apply Kd.S_drewN | apply Kd.S_drew)); exact HO_7.out) hb); have n1_ := Aside0.mk (below_step (by repeat (first | (with_reducible first | exact HB.out | apply below_alloc | apply pw_below_drewN | apply below_drew1) | exact HB.out)) hb); clear HO_7; clear HB; have HO_7 := n0_; have HB := n1_; clear n0_ n1_; (try clear hb); (try clear hb2); (try clear hk); (try clear hi)) | ((with_reducible refine gate_callee (f := 33) rfl ?_); refine goesL_ (some 43) rfl rfl Try.func33 (by kernel_rfl) rfl #[.slice A0 l0.length c0, .int .u8 a1, .int .u8 a2] rfl (by (try simp only [List.map_toArray, List.map_cons, List.map_nil]); first | done | rfl | (simp only [List.length_drop, List.length_take]; rfl)) ?_; (with_reducible refine (provisoref02_Sub.calls kj9 _ _ l0 a1 a2 t280 _ ?side1 ?side2 A23.out).mono ?_); (case side1 => repeat (first | exact (Kd.C_below HR0.out HB.out) | (with_reducible refine Kd.C_alloc ?_ _) | (with_reducible refine Kd.C_drewN ?_ _) | (with_reducible refine Kd.C_drew ?_))); (case side2 => exact HC0.out); rintro e w42 ⟨rfl, hb⟩; refine ⟨_, rfl, ?_⟩; have n0_ := Aside0.mk (Kd.S_below (by (with_reducible repeat (first | apply Kd.S_alloc | apply Kd.S_drewN | apply Kd.S_drew)); exact HO_7.out) hb); have n1_ := Aside0.mk (below_step (by repeat (first | (with_reducible first | exact HB.out | apply below_alloc | apply pw_below_drewN | apply below_drew1) | exact HB.out)) hb); clear HO_7; clear HB; have HO_7 := n0_; have HB := n1_; clear n0_ n1_; (try clear hb); (try clear hb2); (try clear hk); (try clear hi)) | (go_at_call 20; (with_reducible refine (types_Merge.calls kj9 _ _ t272 a1 a2 t281 _ ?side1 ?side2 A25.out).mono ?_); (case side1 => repeat (first | exact (Kd.S_reads' HO_7.out).2.2 | (with_reducible refine Kd.C_alloc ?_ _) | (with_reducible refine Kd.C_drewN ?_ _) | (with_reducible refine Kd.C_drew ?_))); (case side2 => exact (Kd.S_reads' HO_7.out).2.1); rintro e w43 ⟨rfl, hb⟩; have n0_ := Aside0.mk (Kd.S_below (by (with_reducible repeat (first | apply Kd.S_alloc | apply Kd.S_drewN | apply Kd.S_drew)); exact HO_7.out) hb); have n1_ := Aside0.mk (below_step (by repeat (first | (with_reducible first | exact HB.out | apply below_alloc | apply pw_below_drewN | apply below_drew1) | exact HB.out)) hb); clear HO_7; clear HB; have HO_7 := n0_; have HB := n1_; clear n0_ n1_; (try clear hb); (try clear hb2); (try clear hk); (try clear hi)) | (go_at_call 34; (with_reducible refine (provisoref02_Merge.calls kj9 _ _ l0 a1 a2 t282 _ ?side1 ?side2 A26.out).mono ?_); (case side1 => repeat (first | exact (Kd.C_below HR0.out HB.out) | (with_reducible refine Kd.C_alloc ?_ _) | (with_reducible refine Kd.C_drewN ?_ _) | (with_reducible refine Kd.C_drew ?_))); (case side2 => exact HC0.out); rintro e w44 ⟨rfl, hb⟩; have n0_ := Aside0.mk (Kd.S_below (by (with_reducible repeat (first | apply Kd.S_alloc | apply Kd.S_drewN | apply Kd.S_drew)); exact HO_7.out) hb); have n1_ := Aside0.mk (below_step (by repeat (first | (with_reducible first | exact HB.out | apply below_alloc | apply pw_below_drewN | apply below_drew1) | exact HB.out)) hb); clear HO_7; clear HB; have HO_7 := n0_; have HB := n1_; clear n0_ n1_; (try clear hb); (try clear hb2); (try clear hk); (try clear hi)) | (go_at_call 13; (with_reducible refine (types_Print.calls _ _ t272 a1 t283 _ ?side1 ?side2 A29.out).mono ?_); (case side1 => repeat (first | exact (Kd.S_reads' HO_7.out).2.2 | (with_reducible refine Kd.C_alloc ?_ _) | (with_reducible refine Kd.C_drewN ?_ _) | (with_reducible refine Kd.C_drew ?_))); (case side2 => exact (Kd.S_reads' HO_7.out).2.1); rintro e w45 ⟨rfl, hb⟩; have n0_ := Aside0.mk (Kd.S_below (by (with_reducible repeat (first | apply Kd.S_alloc | apply Kd.S_drewN | apply Kd.S_drew)); exact HO_7.out) hb); have n1_ := Aside0.mk (below_step (by repeat (first | (with_reducible first | exact HB.out | apply below_alloc | apply pw_below_drewN | apply below_drew1) | exact HB.out)) hb); clear HO_7; clear HB; have HO_7 := n0_; have HB := n1_; clear n0_ n1_; (try clear hb); (try clear hb2); (try clear hk); (try clear hi)) | (go_at_call 35; (with_reducible refine (provisoref02_Print.calls _ _ l0 a1 t284 _ ?side1 ?side2 A30.out).mono ?_); (case side1 => repeat (first | exact (Kd.C_below HR0.out HB.out) | (with_reducible refine Kd.C_alloc ?_ _) | (with_reducible refine Kd.C_drewN ?_ _) | (with_reducible refine Kd.C_drew ?_))); (case side2 => exact HC0.out); rintro e w' ⟨rfl, ⟨nd, rfl⟩⟩))
                  go_ret
                  exact ⟨by first | rfl | (simp [errW_none, errW_some] <;> rfl) | (simp [*, errW_none, errW_some] <;> rfl), by repeat (first | (with_reducible first | exact HB.out | apply below_alloc | apply pw_below_drewN | apply below_drew1) | exact HB.out)⟩
              · rw [if_neg c28] at H
                have c28b0 : (t281 == t282) = false := beq_eq_false_iff_ne.mpr c28
                have c28b1 : (t281 != t282) = true := bne_iff_ne.mpr c28
                obtain rfl := Option.some.inj H
                obtain ⟨Ao46, co46, eo46⟩ := Kd.S_slice HO_7.out
                subst eo46
                go_wp2_with (first | ((with_reducible refine gate_callee (f := 16) rfl ?_); refine goesL_ (some 39) rfl rfl Try.func16 (by kernel_rfl) rfl #[.slice Ao46 t272.length co46, .int .u8 a1, .int .u8 a2] rfl (by (try simp only [List.map_toArray, List.map_cons, List.map_nil]); first | done | rfl | (simp only [List.length_drop, List.length_take]; rfl)) ?_; (with_reducible refine (types_Sub.calls kj9 _ _ t272 a1 a2 t279 _ ?side1 ?side2 A22.out).mono ?_); (case side1 => repeat (first | exact (Kd.S_reads' HO_7.out).2.2 | (with_reducible refine Kd.C_alloc ?_ _) | (with_reducible refine Kd.C_drewN ?_ _) | (with_reducible refine Kd.C_drew ?_))); (case side2 => exact (Kd.S_reads' HO_7.out).2.1); rintro e w47 ⟨rfl, hb⟩; refine ⟨_, rfl, ?_⟩; have n0_ := Aside0.mk (Kd.S_below (by (with_reducible repeat (first | apply Kd.S_alloc | apply Kd.S_drewN | apply Kd.S_drew)); exact HO_7.out) hb); have n1_ := Aside0.mk (below_step (by repeat (first | (with_reducible first | exact HB.out | apply below_alloc | apply pw_below_drewN | apply below_drew1) | exact HB.out)) hb); clear HO_7; clear HB; have HO_7 := n0_; have HB := n1_; clear n0_ n1_; (try clear hb); (try clear hb2); (try clear hk); (try clear hi)) | ((with_reducible refine gate_callee (f := 33) rfl ?_); refine goesL_ (some 43) rfl rfl Try.func33 (by kernel_rfl) rfl #[.slice A0 l0.length c0, .int .u8 a1, .int .u8 a2] rfl (by (try simp only [List.map_toArray, List.map_cons, List.map_nil]); first | done | rfl | (simp only [List.length_drop, List.length_take]; rfl)) ?_; (with_reducible refine (provisoref02_Sub.calls kj9 _ _ l0 a1 a2 t280 _ ?side1 ?side2 A23.out).mono ?_); (case side1 => repeat (first | exact (Kd.C_below HR0.out HB.out) | (with_reducible refine Kd.C_alloc ?_ _) | (with_reducible refine Kd.C_drewN ?_ _) | (with_reducible refine Kd.C_drew ?_))); (case side2 => exact HC0.out); rintro e w48 ⟨rfl, hb⟩; refine ⟨_, rfl, ?_⟩; have n0_ := Aside0.mk (Kd.S_below (by (with_reducible repeat (first | apply Kd.S_alloc | apply Kd.S_drewN | apply Kd.S_drew)); exact HO_7.out) hb); have n1_ := Aside0.mk (below_step (by repeat (first | (with_reducible first | exact HB.out | apply below_alloc | apply pw_below_drewN | apply below_drew1) | exact HB.out)) hb); clear HO_7; clear HB; have HO_7 := n0_; have HB := n1_; clear n0_ n1_; (try clear hb); (try clear hb2); (try clear hk); (try clear hi)) | (go_at_call 20; (with_reducible refine (types_Merge.calls kj9 _ _ t272 a1 a2 t281 _ ?side1 ?side2 A25.out).mono ?_); (case side1 => repeat (first | exact (Kd.S_reads' HO_7.out).2.2 | (with_reducible refine Kd.C_alloc ?_ _) | (with_reducible refine Kd.C_drewN ?_ _) | (with_reducible refine Kd.C_drew ?_))); (case side2 => exact (Kd.S_reads' HO_7.out).2.1); rintro e w49 ⟨rfl, hb⟩; have n0_ := Aside0.mk (Kd.S_below (by (with_reducible repeat (first | apply Kd.S_alloc | apply Kd.S_drewN | apply Kd.S_drew)); exact HO_7.out) hb); have n1_ := Aside0.mk (below_step (by repeat (first | (with_reducible first | exact HB.out | apply below_alloc | apply pw_below_drewN | apply below_drew1) | exact HB.out)) hb); clear HO_7; clear HB; have HO_7 := n0_; have HB := n1_; clear n0_ n1_; (try clear hb); (try clear hb2); (try clear hk); (try clear hi)) | (go_at_call 34; (with_reducible refine (provisoref02_Merge.calls kj9 _ _ l0 a1 a2 t282 _ ?side1 ?side2 A26.out).mono ?_); (case side1 => repeat (first | exact (Kd.C_below HR0.out HB.out) | (with_reducible refine Kd.C_alloc ?_ _) | (with_reducible refine Kd.C_drewN ?_ _) | (with_reducible refine Kd.C_drew ?_))); (case side2 => exact HC0.out); rintro e w50 ⟨rfl, hb⟩; have n0_ := Aside0.mk (Kd.S_below (by (with_reducible repeat (first | apply Kd.S_alloc | apply Kd.S_drewN | apply Kd.S_drew)); exact HO_7.out) hb); have n1_ := Aside0.mk (below_step (by repeat (first | (with_reducible first | exact HB.out | apply below_alloc | apply pw_below_drewN | apply below_drew1) | exact HB.out)) hb); clear HO_7; clear HB; have HO_7 := n0_; have HB := n1_; clear n0_ n1_; (try clear hb); (try clear hb2); (try clear hk); (try clear hi)))
                go_ret
                exact ⟨by first | rfl | (simp [errW_none, errW_some] <;> rfl) | (simp [*, errW_none, errW_some] <;> rfl), by repeat (first | (with_reducible first | exact HB.out | apply below_alloc | apply pw_below_drewN | apply below_drew1) | exact HB.out)⟩
            · replace c27 := Bool.eq_false_iff.mpr c27
              subst c27
              have H1 : (some false) = some r := by rw [if_neg (show ¬ (false = true) by decide)] at H; exact H
              clear H
              have H := H1
              clear H1
              obtain rfl := Option.some.inj H
              obtain ⟨Ao51, co51, eo51⟩ := Kd.S_slice HO_7.out
              subst eo51
              go_wp2_with (first | ((with_reducible refine gate_callee (f := 16) rfl ?_); refine goesL_ (some 39) rfl rfl Try.func16 (by kernel_rfl) rfl #[.slice Ao51 t272.length co51, .int .u8 a1, .int .u8 a2] rfl (by (try simp only [List.map_toArray, List.map_cons, List.map_nil]); first | done | rfl | (simp only [List.length_drop, List.length_take]; rfl)) ?_; (with_reducible refine (types_Sub.calls kj9 _ _ t272 a1 a2 t279 _ ?side1 ?side2 A22.out).mono ?_); (case side1 => repeat (first | exact (Kd.S_reads' HO_7.out).2.2 | (with_reducible refine Kd.C_alloc ?_ _) | (with_reducible refine Kd.C_drewN ?_ _) | (with_reducible refine Kd.C_drew ?_))); (case side2 => exact (Kd.S_reads' HO_7.out).2.1); rintro e w52 ⟨rfl, hb⟩; refine ⟨_, rfl, ?_⟩; have n0_ := Aside0.mk (Kd.S_below (by (with_reducible repeat (first | apply Kd.S_alloc | apply Kd.S_drewN | apply Kd.S_drew)); exact HO_7.out) hb); have n1_ := Aside0.mk (below_step (by repeat (first | (with_reducible first | exact HB.out | apply below_alloc | apply pw_below_drewN | apply below_drew1) | exact HB.out)) hb); clear HO_7; clear HB; have HO_7 := n0_; have HB := n1_; clear n0_ n1_; (try clear hb); (try clear hb2); (try clear hk); (try clear hi)) | ((with_reducible refine gate_callee (f := 33) rfl ?_); refine goesL_ (some 43) rfl rfl Try.func33 (by kernel_rfl) rfl #[.slice A0 l0.length c0, .int .u8 a1, .int .u8 a2] rfl (by (try simp only [List.map_toArray, List.map_cons, List.map_nil]); first | done | rfl | (simp only [List.length_drop, List.length_take]; rfl)) ?_; (with_reducible refine (provisoref02_Sub.calls kj9 _ _ l0 a1 a2 t280 _ ?side1 ?side2 A23.out).mono ?_); (case side1 => repeat (first | exact (Kd.C_below HR0.out HB.out) | (with_reducible refine Kd.C_alloc ?_ _) | (with_reducible refine Kd.C_drewN ?_ _) | (with_reducible refine Kd.C_drew ?_))); (case side2 => exact HC0.out); rintro e w53 ⟨rfl, hb⟩; refine ⟨_, rfl, ?_⟩; have n0_ := Aside0.mk (Kd.S_below (by (with_reducible repeat (first | apply Kd.S_alloc | apply Kd.S_drewN | apply Kd.S_drew)); exact HO_7.out) hb); have n1_ := Aside0.mk (below_step (by repeat (first | (with_reducible first | exact HB.out | apply below_alloc | apply pw_below_drewN | apply below_drew1) | exact HB.out)) hb); clear HO_7; clear HB; have HO_7 := n0_; have HB := n1_; clear n0_ n1_; (try clear hb); (try clear hb2); (try clear hk); (try clear hi)) | (go_at_call 20; (with_reducible refine (types_Merge.calls kj9 _ _ t272 a1 a2 t281 _ ?side1 ?side2 A25.out).mono ?_); (case side1 => repeat (first | exact (Kd.S_reads' HO_7.out).2.2 | (with_reducible refine Kd.C_alloc ?_ _) | (with_reducible refine Kd.C_drewN ?_ _) | (with_reducible refine Kd.C_drew ?_))); (case side2 => exact (Kd.S_reads' HO_7.out).2.1); rintro e w54 ⟨rfl, hb⟩; have n0_ := Aside0.mk (Kd.S_below (by (with_reducible repeat (first | apply Kd.S_alloc | apply Kd.S_drewN | apply Kd.S_drew)); exact HO_7.out) hb); have n1_ := Aside0.mk (below_step (by repeat (first | (with_reducible first | exact HB.out | apply below_alloc | apply pw_below_drewN | apply below_drew1) | exact HB.out)) hb); clear HO_7; clear HB; have HO_7 := n0_; have HB := n1_; clear n0_ n1_; (try clear hb); (try clear hb2); (try clear hk); (try clear hi)) | (go_at_call 34; (with_reducible refine (provisoref02_Merge.calls kj9 _ _ l0 a1 a2 t282 _ ?side1 ?side2 A26.out).mono ?_); (case side1 => repeat (first | exact (Kd.C_below HR0.out HB.out) | (with_reducible refine Kd.C_alloc ?_ _) | (with_reducible refine Kd.C_drewN ?_ _) | (with_reducible refine Kd.C_drew ?_))); (case side2 => exact HC0.out); rintro e w55 ⟨rfl, hb⟩; have n0_ := Aside0.mk (Kd.S_below (by (with_reducible repeat (first | apply Kd.S_alloc | apply Kd.S_drewN | apply Kd.S_drew)); exact HO_7.out) hb); have n1_ := Aside0.mk (below_step (by repeat (first | (with_reducible first | exact HB.out | apply below_alloc | apply pw_below_drewN | apply below_drew1) | exact HB.out)) hb); clear HO_7; clear HB; have HO_7 := n0_; have HB := n1_; clear n0_ n1_; (try clear hb); (try clear hb2); (try clear hk); (try clear hi)))
              go_ret
              exact ⟨by first | rfl | (simp [errW_none, errW_some] <;> rfl) | (simp [*, errW_none, errW_some] <;> rfl), by repeat (first | (with_reducible first | exact HB.out | apply below_alloc | apply pw_below_drewN | apply below_drew1) | exact HB.out)⟩
          · rw [if_neg c24] at H
            have c24b0 : (t279 == t280) = false := by simpa using c24
            (try (have c24b1 : decide (t279 = t280) = false := by simpa using c24))
            (try (have c24b2 : (t279 == t280) = false := by simpa using c24))
            (try (have c24b3 : ¬ (t279 = t280) := by simpa using c24))
            clear c24
            by_cases c56 : x8_9 = true
            · subst c56
              have H1 : (some false) = some r := by rw [if_pos rfl] at H; exact H
              clear H
              have H := H1
              clear H1
              obtain rfl := Option.some.inj H
              obtain ⟨Ao57, co57, eo57⟩ := Kd.S_slice HO_7.out
              subst eo57
              go_wp2_with (first | ((with_reducible refine gate_callee (f := 16) rfl ?_); refine goesL_ (some 39) rfl rfl Try.func16 (by kernel_rfl) rfl #[.slice Ao57 t272.length co57, .int .u8 a1, .int .u8 a2] rfl (by (try simp only [List.map_toArray, List.map_cons, List.map_nil]); first | done | rfl | (simp only [List.length_drop, List.length_take]; rfl)) ?_; (with_reducible refine (types_Sub.calls kj9 _ _ t272 a1 a2 t279 _ ?side1 ?side2 A22.out).mono ?_); (case side1 => repeat (first | exact (Kd.S_reads' HO_7.out).2.2 | (with_reducible refine Kd.C_alloc ?_ _) | (with_reducible refine Kd.C_drewN ?_ _) | (with_reducible refine Kd.C_drew ?_))); (case side2 => exact (Kd.S_reads' HO_7.out).2.1); rintro e w58 ⟨rfl, hb⟩; refine ⟨_, rfl, ?_⟩; have n0_ := Aside0.mk (Kd.S_below (by (with_reducible repeat (first | apply Kd.S_alloc | apply Kd.S_drewN | apply Kd.S_drew)); exact HO_7.out) hb); have n1_ := Aside0.mk (below_step (by repeat (first | (with_reducible first | exact HB.out | apply below_alloc | apply pw_below_drewN | apply below_drew1) | exact HB.out)) hb); clear HO_7; clear HB; have HO_7 := n0_; have HB := n1_; clear n0_ n1_; (try clear hb); (try clear hb2); (try clear hk); (try clear hi)) | ((with_reducible refine gate_callee (f := 33) rfl ?_); refine goesL_ (some 43) rfl rfl Try.func33 (by kernel_rfl) rfl #[.slice A0 l0.length c0, .int .u8 a1, .int .u8 a2] rfl (by (try simp only [List.map_toArray, List.map_cons, List.map_nil]); first | done | rfl | (simp only [List.length_drop, List.length_take]; rfl)) ?_; (with_reducible refine (provisoref02_Sub.calls kj9 _ _ l0 a1 a2 t280 _ ?side1 ?side2 A23.out).mono ?_); (case side1 => repeat (first | exact (Kd.C_below HR0.out HB.out) | (with_reducible refine Kd.C_alloc ?_ _) | (with_reducible refine Kd.C_drewN ?_ _) | (with_reducible refine Kd.C_drew ?_))); (case side2 => exact HC0.out); rintro e w59 ⟨rfl, hb⟩; refine ⟨_, rfl, ?_⟩; have n0_ := Aside0.mk (Kd.S_below (by (with_reducible repeat (first | apply Kd.S_alloc | apply Kd.S_drewN | apply Kd.S_drew)); exact HO_7.out) hb); have n1_ := Aside0.mk (below_step (by repeat (first | (with_reducible first | exact HB.out | apply below_alloc | apply pw_below_drewN | apply below_drew1) | exact HB.out)) hb); clear HO_7; clear HB; have HO_7 := n0_; have HB := n1_; clear n0_ n1_; (try clear hb); (try clear hb2); (try clear hk); (try clear hi)))
              go_ret
              exact ⟨by first | rfl | (simp [errW_none, errW_some] <;> rfl) | (simp [*, errW_none, errW_some] <;> rfl), by repeat (first | (with_reducible first | exact HB.out | apply below_alloc | apply pw_below_drewN | apply below_drew1) | exact HB.out)⟩
            · replace c56 := Bool.eq_false_iff.mpr c56
              subst c56
              have H1 : (some false) = some r := by rw [if_neg (show ¬ (false = true) by decide)] at H; exact H
              clear H
              have H := H1
              clear H1
              obtain rfl := Option.some.inj H
              obtain ⟨Ao60, co60, eo60⟩ := Kd.S_slice HO_7.out
              subst eo60
              go_wp2_with (first | ((with_reducible refine gate_callee (f := 16) rfl ?_); refine goesL_ (some 39) rfl rfl Try.func16 (by kernel_rfl) rfl #[.slice Ao60 t272.length co60, .int .u8 a1, .int .u8 a2] rfl (by (try simp only [List.map_toArray, List.map_cons, List.map_nil]); first | done | rfl | (simp only [List.length_drop, List.length_take]; rfl)) ?_; (with_reducible refine (types_Sub.calls kj9 _ _ t272 a1 a2 t279 _ ?side1 ?side2 A22.out).mono ?_); (case side1 => repeat (first | exact (Kd.S_reads' HO_7.out).2.2 | (with_reducible refine Kd.C_alloc ?_ _) | (with_reducible refine Kd.C_drewN ?_ _) | (with_reducible refine Kd.C_drew ?_))); (case side2 => exact (Kd.S_reads' HO_7.out).2.1); rintro e w61 ⟨rfl, hb⟩; refine ⟨_, rfl, ?_⟩; have n0_ := Aside0.mk (Kd.S_below (by (with_reducible repeat (first | apply Kd.S_alloc | apply Kd.S_drewN | apply Kd.S_drew)); exact HO_7.out) hb); have n1_ := Aside0.mk (below_step (by repeat (first | (with_reducible first | exact HB.out | apply below_alloc | apply pw_below_drewN | apply below_drew1) | exact HB.out)) hb); clear HO_7; clear HB; have HO_7 := n0_; have HB := n1_; clear n0_ n1_; (try clear hb); (try clear hb2); (try clear hk); (try clear hi)) | ((with_reducible refine gate_callee (f := 33) rfl ?_); refine goesL_ (some 43) rfl rfl Try.func33 (by kernel_rfl) rfl #[.slice A0 l0.length c0, .int .u8 a1, .int .u8 a2] rfl (by (try simp only [List.map_toArray, List.map_cons, List.map_nil]); first | done | rfl | (simp only [List.length_drop, List.length_take]; rfl)) ?_; (with_reducible refine (provisoref02_Sub.calls kj9 _ _ l0 a1 a2 t280 _ ?side1 ?side2 A23.out).mono ?_); (case side1 => repeat (first | exact (Kd.C_below HR0.out HB.out) | (with_reducible refine Kd.C_alloc ?_ _) | (with_reducible refine Kd.C_drewN ?_ _) | (with_reducible refine Kd.C_drew ?_))); (case side2 => exact HC0.out); rintro e w62 ⟨rfl, hb⟩; refine ⟨_, rfl, ?_⟩; have n0_ := Aside0.mk (Kd.S_below (by (with_reducible repeat (first | apply Kd.S_alloc | apply Kd.S_drewN | apply Kd.S_drew)); exact HO_7.out) hb); have n1_ := Aside0.mk (below_step (by repeat (first | (with_reducible first | exact HB.out | apply below_alloc | apply pw_below_drewN | apply below_drew1) | exact HB.out)) hb); clear HO_7; clear HB; have HO_7 := n0_; have HB := n1_; clear n0_ n1_; (try clear hb); (try clear hb2); (try clear hk); (try clear hi)))
              go_ret
              exact ⟨by first | rfl | (simp [errW_none, errW_some] <;> rfl) | (simp [*, errW_none, errW_some] <;> rfl), by repeat (first | (with_reducible first | exact HB.out | apply below_alloc | apply pw_below_drewN | apply below_drew1) | exact HB.out)⟩
    · replace c8 := Bool.eq_false_iff.mpr c8
      subst c8
      have H1 : (some true) = some r := by rw [if_neg (show ¬ (false = true) by decide)] at H; exact H
      clear H
      have H := H1
      clear H1
      obtain rfl := Option.some.inj H
      go_enter Try.func9, Try.ntmps9
      go_wp2_with (first | ((with_reducible refine gate_callee (f := 28) rfl ?_); refine goesL_ (some 11) rfl rfl Try.func28 (by kernel_rfl) rfl #[.int .u8 a1] rfl (by (try simp only [List.map_toArray, List.map_cons, List.map_nil]); first | done | rfl | (simp only [List.length_drop, List.length_take]; rfl)) ?_; (with_reducible refine (types_IsRef.calls a1 t269 _ A4.out).mono ?_); rintro e w' ⟨rfl, ⟨nd, rfl⟩⟩; refine ⟨_, rfl, ?_⟩) | ((with_reducible refine gate_callee (f := 29) rfl ?_); refine goesL_ (some 13) rfl rfl Try.func29 (by kernel_rfl) rfl #[.int .u8 a1] rfl (by (try simp only [List.map_toArray, List.map_cons, List.map_nil]); first | done | rfl | (simp only [List.length_drop, List.length_take]; rfl)) ?_; (with_reducible refine (provisoref02_IsRef.calls a1 t270 _ A5.out).mono ?_); rintro e w' ⟨rfl, ⟨nd, rfl⟩⟩; refine ⟨_, rfl, ?_⟩) | ((with_reducible refine gate_callee (f := 11) rfl ?_); refine goesL_ (some 16) rfl rfl Try.func11 (by kernel_rfl) rfl #[.slice A0 l0.length c0] rfl (by (try simp only [List.map_toArray, List.map_cons, List.map_nil]); first | done | rfl | (simp only [List.length_drop, List.length_take]; rfl)) ?_; (with_reducible refine (provisoref02_Made.calls k _ _ l0 false _ ?side1 ?side2 A7.out).mono ?_); (case side1 => repeat (first | exact HR0.out | (with_reducible refine Kd.C_alloc ?_ _) | (with_reducible refine Kd.C_drewN ?_ _) | (with_reducible refine Kd.C_drew ?_))); (case side2 => exact HC0.out); rintro e w63 ⟨rfl, hb⟩; refine ⟨_, rfl, ?_⟩; have n0_ := Aside0.mk (below_step (by repeat (first | (with_reducible first | exact HB.out | apply below_alloc | apply pw_below_drewN | apply below_drew1) | exact HB.out)) hb); clear HB; have HB := n0_; clear n0_; (try clear hb); (try clear hb2); (try clear hk); (try clear hi)))
      go_ret
      exact ⟨by first | rfl | (simp [errW_none, errW_some] <;> rfl) | (simp [*, errW_none, errW_some] <;> rfl), by repeat (first | (with_reducible first | exact HB.out | apply below_alloc | apply pw_below_drewN | apply below_drew1) | exact HB.out)⟩

end Go.Proofs.Ytghgloepameloaa.P

end

section
namespace Go.Proofs.Ytghgloepameloaa.P
open Go.RowKit Go.Proofs.YtghgloepameloaaW.PrintWords
def provisolaw02_TypesAsks.Pure : Prop := ∀ (l0 : List (S38)) (a1 : Int) (a2 : Int), (fun l : List (S38) => l.length ≤ 9223372036854775807 ∧ l.length * 48 ≤ 140737488351232 ∧ ∀ x ∈ l, Ok38 x) l0 → (fun n : Int => (Lit.int .u8 n).wf = true) a1 → (fun n : Int => (Lit.int .u8 n).wf = true) a2 → ∃ k, provisolaw02_TypesAsks.f k l0 a1 a2 = some true
end Go.Proofs.Ytghgloepameloaa.P

end

section
namespace Go.Proofs.Ytghgloepameloaa.P
open Go.RowKit Go.Proofs.YtghgloepameloaaW.PrintWords Go.Proofs.YtghgloepameloaaW.PrintLast Go.Proofs.YtghgloepameloaaW.PrintMore
set_option linter.unusedVariables false
set_option linter.unusedSimpArgs false

theorem w_next {i : Int} {n : Nat} (h0 : 0 ≤ i) (h : i < (n : Int)) (hn : n ≤ 9223372036854775807) : wrap64 (i + 1) = i + 1 := by
  unfold wrap64
  omega

def sign (i c : Int) : Bool :=
  (decide (97 ≤ c) && decide (c ≤ 122)) || (decide (65 ≤ c) && decide (c ≤ 90)) || (decide (0 < i) && ((decide (48 ≤ c) && decide (c ≤ 57)) || decide (c = 95)))
def tailOk (s : ByteArray) : Nat → Bool
  | 0 => true
  | d + 1 => sign ((s.size : Int) - (d + 1)) (bt s ((s.size : Int) - (d + 1))) && tailOk s d
def nameOk (s : ByteArray) : Bool := decide (1 ≤ s.size) && decide (s.size ≤ 24) && tailOk s s.size
theorem ref_name_tail (s : ByteArray) (hn : s.size ≤ 140737488351232) (d : Nat) : ∀ (i : Int), 0 ≤ i → i ≤ s.size → (s.size : Int) - i = d → Ev (fun k => provisoref02_IsName.l0 k s i) (tailOk s d) := by
  induction d with
  | zero =>
    intro i h0 h1 hd
    exact Ev.step (f := fun _ => some true) (fun k => by simp only [provisoref02_IsName.l0]; rw [if_neg (by omega)]) (Ev.now _)
  | succ d ih =>
    intro i h0 h1 hd
    have hlt : i < (s.size : Int) := by omega
    have hi : (s.size : Int) - (d + 1) = i := by omega
    have h := ih (i + 1) (by omega) (by omega) (by omega)
    cases hs : sign i (bt s i) with
    | true =>
      refine Ev.step (fun k => ?_) (show Ev _ (tailOk s (d + 1)) from by simp only [tailOk, hi, hs, Bool.true_and]; exact h)
      simp only [provisoref02_IsName.l0]
      rw [if_pos hlt, if_pos h0, w_next h0 hlt (by omega)]
      revert hs
      generalize bt s i = c
      intro hs
      by_cases a1 : 97 ≤ c <;> by_cases a2 : c ≤ 122 <;> by_cases a3 : 65 ≤ c <;> by_cases a4 : c ≤ 90 <;> by_cases a5 : i = 0 <;> by_cases a6 : c < 48 <;> by_cases a7 : 57 < c <;> by_cases a8 : c = 95 <;> (try omega) <;> (have a9 : 0 < i ∨ i = 0 := by omega) <;> simp [sign, a1, a2, a3, a4, a5, a6, a7, a8] at hs ⊢ <;> omega
    | false =>
      refine Ev.step (f := fun _ => some false) (fun k => ?_) (show Ev _ (tailOk s (d + 1)) from by simp only [tailOk, hi, hs, Bool.false_and]; exact Ev.now _)
      simp only [provisoref02_IsName.l0]
      rw [if_pos hlt, if_pos h0, w_next h0 hlt (by omega)]
      revert hs
      generalize bt s i = c
      intro hs
      by_cases a1 : 97 ≤ c <;> by_cases a2 : c ≤ 122 <;> by_cases a3 : 65 ≤ c <;> by_cases a4 : c ≤ 90 <;> by_cases a5 : i = 0 <;> by_cases a6 : c < 48 <;> by_cases a7 : 57 < c <;> by_cases a8 : c = 95 <;> (try omega) <;> (have a9 : 0 < i ∨ i = 0 := by omega) <;> simp [sign, a1, a2, a3, a4, a5, a6, a7, a8] at hs ⊢ <;> omega
theorem ref_name (s : ByteArray) (hn : s.size ≤ 140737488351232) : Ev (fun k => provisoref02_IsName.f k s) (nameOk s) := by
  have h := ref_name_tail s hn s.size 0 (by omega) (by omega) (by omega)
  by_cases a1 : (s.size : Int) < 1
  · have e : nameOk s = false := by unfold nameOk; rw [decide_eq_false (by omega)]; simp
    rw [e]
    refine Ev.congr (f := fun k => provisoref02_IsName.j0 k s true) (fun k => by unfold provisoref02_IsName.f; rw [if_pos a1]) ?_
    exact Ev.step (f := fun _ => some false) (fun k => by simp only [provisoref02_IsName.j0]; rfl) (Ev.now _)
  · refine Ev.congr (f := fun k => provisoref02_IsName.j0 k s (decide ((s.size : Int) > 24))) (fun k => by unfold provisoref02_IsName.f; rw [if_neg a1]) ?_
    by_cases a2 : (s.size : Int) > 24
    · have e : nameOk s = false := by unfold nameOk; rw [decide_eq_false (p := s.size ≤ 24) (by omega)]; simp
      rw [e]
      exact Ev.step (f := fun _ => some false) (fun k => by simp only [provisoref02_IsName.j0]; simp [a2]) (Ev.now _)
    · have e : nameOk s = tailOk s s.size := by unfold nameOk; rw [decide_eq_true (p := s.size ≤ 24) (by omega), decide_eq_true (p := 1 ≤ s.size) (by omega)]; simp
      rw [e]
      exact Ev.step (fun k => by simp only [provisoref02_IsName.j0]; simp [a2]) h

theorem str_eq (a b : ByteArray) : a.toList = b.toList ↔ a = b :=
  ⟨fun h => by rw [ByteArray.toList_eq, ByteArray.toList_eq] at h; exact Go.WideShapes.bytes_inj h, fun h => by rw [h]⟩
def words6 : List ByteArray := [⟨#[116, 111, 112]⟩, ⟨#[105, 110, 116]⟩, ⟨#[98, 111, 111, 108]⟩, ⟨#[110, 117, 108, 108]⟩, ⟨#[105, 110, 116, 115]⟩, ⟨#[97, 110, 121]⟩]
def isWordB (s : ByteArray) : Bool := words6.any fun t => decide (t = s)
theorem ref_word (s : ByteArray) : Ev (fun k => provisoref02_isWord.f k s) (isWordB s) := by
  have step : ∀ (x : Int) (t : ByteArray) (r : Bool), 0 ≤ x → x ≤ 5 → provisoref02_word.f x = some t → Ev (fun k => provisoref02_isWord.l0 k s (x + 1)) r → Ev (fun k => provisoref02_isWord.l0 k s x) (decide (t = s) || r) := by
    intro x t r h0 h5 ht h
    by_cases e : t = s
    · rw [decide_eq_true e, Bool.true_or]
      exact Ev.step (f := fun _ => some true) (fun k => by simp only [provisoref02_isWord.l0]; rw [if_pos (by omega), ht]; simp [e]) (Ev.now _)
    · rw [decide_eq_false e, Bool.false_or]
      refine Ev.step (fun k => ?_) h
      simp only [provisoref02_isWord.l0]
      rw [if_pos (by omega), ht]
      simp only [Option.bind_some, str_eq]
      rw [if_neg e, show (x + 1) % 256 = x + 1 from by omega]
  have h6 : Ev (fun k => provisoref02_isWord.l0 k s 6) false := Ev.step (f := fun _ => some false) (fun k => by simp only [provisoref02_isWord.l0]; rw [if_neg (by omega)]) (Ev.now _)
  have h := step 0 _ _ (by omega) (by omega) rfl (step 1 _ _ (by omega) (by omega) rfl (step 2 _ _ (by omega) (by omega) rfl (step 3 _ _ (by omega) (by omega) rfl (step 4 _ _ (by omega) (by omega) rfl (step 5 _ _ (by omega) (by omega) rfl h6)))))
  exact h

abbrev Tbl := List S38
def par (l : Tbl) (c : Int) : Int := (rd_T38 l c).f1
def nam (l : Tbl) (c : Int) : ByteArray := (rd_T38 l c).f0
def own (l : Tbl) (c : Int) : List S40 := (rd_T38 l c).f2
def Dec (l : Tbl) (n : Int) : Prop := ∀ i : Int, 0 ≤ i → i < n → par l i < i
def fieldsOf (l : Tbl) (c : Int) : List S40 := (climbL l c).reverse.flatMap fun i => own l i
theorem line_tells (l : Tbl) (n : Int) (hn : n ≤ l.length) (hl : l.length * 48 ≤ 140737488351232) (hd : Dec l n) : ∀ (d : Nat) (c : Int) (acc : List Int), c < n → (c + 1).toNat ≤ d → (acc.length : Int) + c < l.length → acc.length ≤ l.length →
    Ev (fun k => provisoref02_Line.l0 k l c acc) (acc ++ climbL l c)
  | 0, c, acc, _, h, _, _ => by
    rw [climbL_out l c (by omega), List.append_nil]
    exact Ev.step (f := fun _ => some acc) (fun k => by simp only [provisoref02_Line.l0]; rw [if_neg (by omega)]) (Ev.now _)
  | d + 1, c, acc, hc, hcd, ha, ha2 => by
    by_cases h0 : 0 ≤ c
    · have hp := hd c h0 hc
      have hcl : c < (l.length : Int) := by omega
      rw [climbL_in l c h0 hcl hp]
      have hx := line_tells l n hn hl hd d (par l c) (acc ++ [c]) (by omega) (by omega) (by simp; omega) (by simp; omega)
      rw [List.append_assoc] at hx
      refine Ev.step (fun k => ?_) hx
      simp only [provisoref02_Line.l0]
      rw [if_pos h0, if_pos hcl, if_pos (by omega), if_pos (by omega), if_pos h0]
      rfl
    · rw [climbL_out l c (by omega), List.append_nil]
      exact Ev.step (f := fun _ => some acc) (fun k => by simp only [provisoref02_Line.l0]; rw [if_neg (by omega)]) (Ev.now _)
theorem ref_line (l : Tbl) (n : Int) (hn : n ≤ l.length) (hl : l.length * 48 ≤ 140737488351232) (hd : Dec l n) (c : Int) (hc : c < n) : Ev (fun k => provisoref02_Line.f k l c) (climbL l c) := by
  by_cases h0 : l.length = 0
  · rw [climbL_out l c (by omega)]
    refine Ev.congr (f := fun k => provisoref02_Line.l0 k l c []) (fun k => rfl) ?_
    exact Ev.step (f := fun _ => some []) (fun k => by simp only [provisoref02_Line.l0]; rw [if_neg (by omega)]) (Ev.now _)
  · have := line_tells l n hn hl hd (c + 1).toNat c [] hc (Nat.le_refl _) (by simp; omega) (by simp)
    rw [List.nil_append] at this
    exact this
theorem fields_tells (l : Tbl) (line : List Int) (hm : ∀ x ∈ line, 0 ≤ x ∧ x < (l.length : Int)) (hl : l.length * 48 ≤ 140737488351232) (hll : line.length ≤ l.length) (hlim : (line.reverse.flatMap fun i => own l i).length < 5864062014805) : ∀ (d : Nat), d ≤ line.length →
    Ev (fun k => provisoref02_Fields.l0 k l line ((line.drop d).reverse.flatMap fun i => own l i) ((d : Int) - 1)) (line.reverse.flatMap fun i => own l i)
  | 0, _ => by
    rw [List.drop_zero]
    exact Ev.step (f := fun _ => some _) (fun k => by simp only [provisoref02_Fields.l0]; rw [if_neg (by omega)]) (Ev.now _)
  | d + 1, hd => by
    have ih := fields_tells l line hm hl hll hlim d (by omega)
    have hrd : rd line ((d : Nat) : Int) = line[d]'(by omega) := by simp [rd, List.getD_eq_getElem?_getD, show d < line.length by omega]
    have hmd := hm (line[d]'(by omega)) (List.getElem_mem _)
    have e1 : ((line.drop d).reverse.flatMap fun i => own l i) = ((line.drop (d + 1)).reverse.flatMap fun i => own l i) ++ own l (line[d]'(by omega)) := by
      rw [List.drop_eq_getElem_cons (by omega), List.reverse_cons, List.flatMap_append]
      simp
    have hle : ((line.drop d).reverse.flatMap fun i => own l i).length ≤ (line.reverse.flatMap fun i => own l i).length := by
      have : line = line.take d ++ line.drop d := by simp
      conv => rhs; rw [this, List.reverse_append, List.flatMap_append, List.length_append]
      omega
    rw [e1] at ih hle
    rw [List.length_append] at hle
    refine Ev.step (fun k => ?_) ih
    simp only [provisoref02_Fields.l0]
    rw [show ((d + 1 : Nat) : Int) - 1 = (d : Int) by omega, hrd, if_pos (by omega), if_pos (by omega), if_pos (by omega), if_pos hmd.1, if_pos hmd.2]
    rw [if_pos (by unfold own at hle hlim ⊢; omega), show wrap64 ((d : Int) - 1) = (d : Int) - 1 by unfold wrap64; omega]
    rfl
theorem ref_fields (l : Tbl) (n : Int) (hn : n ≤ l.length) (hl : l.length * 48 ≤ 140737488351232) (hd : Dec l n) (c : Int) (hc : c < n) (hlim : (fieldsOf l c).length < 5864062014805) : Ev (fun k => provisoref02_Fields.f k l c) (fieldsOf l c) := by
  have hll := climbL_length l c
  have h := fields_tells l (climbL l c) (climbL_mem l c) hl hll hlim (climbL l c).length (Nat.le_refl _)
  rw [List.drop_length, List.reverse_nil, List.flatMap_nil] at h
  refine Ev.congr (fun k => rfl) (Ev.bind (ref_line l n hn hl hd c hc) (f := fun k t => provisoref02_Fields.l0 k l t [] (wrap64 ((t.length : Int) - 1))) ?_)
  rw [show wrap64 (((climbL l c).length : Int) - 1) = ((climbL l c).length : Int) - 1 by unfold wrap64; omega]
  exact h

def hasB (fs : List S40) (s : ByteArray) : Bool := fs.any fun f => decide (f.f0 = s)
theorem has_tells (fs : List S40) (s : ByteArray) (hl : fs.length ≤ 9223372036854775807) : ∀ (d i : Nat), fs.length - i = d → i ≤ fs.length → Ev (fun k => provisoref02_has.l0 k fs s (i : Int)) (hasB (fs.drop i) s)
  | 0, i, hd, hi => by
    rw [List.drop_of_length_le (by omega)]
    exact Ev.step (f := fun _ => some false) (fun k => by simp only [provisoref02_has.l0]; rw [if_neg (by omega)]) (Ev.now _)
  | d + 1, i, hd, hi => by
    have ih := has_tells fs s hl d (i + 1) (by omega) (by omega)
    have hlt : i < fs.length := by omega
    have hrd : rd_T40 fs ((i : Nat) : Int) = fs[i] := by simp [rd_T40, List.getD_eq_getElem?_getD, hlt]
    rw [List.drop_eq_getElem_cons hlt]
    by_cases e : fs[i].f0 = s
    · have e2 : hasB (fs[i] :: fs.drop (i + 1)) s = true := by unfold hasB; rw [List.any_cons, decide_eq_true e, Bool.true_or]
      rw [e2]
      exact Ev.step (f := fun _ => some true) (fun k => by simp only [provisoref02_has.l0]; rw [if_pos (by omega), if_pos (by omega), hrd]; simp [e]) (Ev.now _)
    · have e2 : hasB (fs[i] :: fs.drop (i + 1)) s = hasB (fs.drop (i + 1)) s := by unfold hasB; rw [List.any_cons, decide_eq_false e, Bool.false_or]
      rw [e2]
      refine Ev.step (fun k => ?_) ih
      simp only [provisoref02_has.l0]
      rw [if_pos (by omega), if_pos (by omega), hrd, if_neg (by rw [str_eq]; exact e), w_next (n := fs.length) (by omega) (by omega) hl]
      rfl
theorem ref_has (fs : List S40) (s : ByteArray) (hl : fs.length ≤ 9223372036854775807) : Ev (fun k => provisoref02_has.f k fs s) (hasB fs s) := by
  have := has_tells fs s hl fs.length 0 (by omega) (by omega)
  rw [List.drop_zero] at this
  exact this
def validB (l : Tbl) (a : Int) : Bool := decide (a ≤ 5) || (decide (16 ≤ a) && decide (a - 16 < (l.length : Int)))
theorem ref_valid (l : Tbl) (a : Int) (ha : 0 ≤ a ∧ a ≤ 255) : provisoref02_Valid.f l a = some (validB l a) := by
  unfold provisoref02_Valid.f validB
  by_cases h1 : a ≤ 5
  · simp [h1]
  · by_cases h2 : a ≥ 16
    · rw [if_neg h1, if_pos h2, show (a - 16) % 256 = a - 16 by omega]
      simp [h1, h2]
    · rw [if_neg h1, if_neg h2]
      simp [h1, h2]
def storedB (l : Tbl) (a : Int) : Bool := validB l a && decide (a ≠ 0) && decide (a ≠ 3)
theorem ref_stored (l : Tbl) (a : Int) (ha : 0 ≤ a ∧ a ≤ 255) : provisoref02_Stored.f l a = some (storedB l a) := by
  unfold provisoref02_Stored.f storedB
  rw [ref_valid l a ha]
  simp only [Option.bind_some]
  cases validB l a <;> by_cases h0 : a = 0 <;> by_cases h3 : a = 3 <;> simp [h0, h3]
end Go.Proofs.Ytghgloepameloaa.P

end

section
namespace Go.Proofs.Ytghgloepameloaa.P
open Go.RowKit Go.Proofs.YtghgloepameloaaW.PrintWords Go.Proofs.YtghgloepameloaaW.PrintLast Go.Proofs.YtghgloepameloaaW.PrintMore
set_option linter.unusedVariables false
set_option linter.unusedSimpArgs false

def Sane (l : Tbl) : Prop := l.length ≤ 9223372036854775807 ∧ l.length * 48 ≤ 140737488351232 ∧ ∀ x ∈ l, Ok38 x
theorem rd_mem (l : Tbl) (c : Int) (h0 : 0 ≤ c) (h1 : c < (l.length : Int)) : rd_T38 l c ∈ l := by
  have h : c.toNat < l.length := by omega
  simp [rd_T38, List.getD_eq_getElem?_getD, h]
theorem Sane.size {l : Tbl} (h : Sane l) : l.length ≤ 2932031007320 := by have := h.2.1; omega
theorem Sane.nam {l : Tbl} (h : Sane l) {c : Int} (h0 : 0 ≤ c) (h1 : c < (l.length : Int)) : (nam l c).size ≤ 140737488351232 := (h.2.2 _ (rd_mem l c h0 h1)).1
theorem Sane.par {l : Tbl} (h : Sane l) {c : Int} (h0 : 0 ≤ c) (h1 : c < (l.length : Int)) : -9223372036854775808 ≤ par l c ∧ par l c ≤ 9223372036854775807 := by
  have := (h.2.2 _ (rd_mem l c h0 h1)).2.1
  simp [Lit.wf, IntKind.min, IntKind.max, IntKind.signed, IntKind.bits] at this
  exact this
theorem Sane.own {l : Tbl} (h : Sane l) {c : Int} (h0 : 0 ≤ c) (h1 : c < (l.length : Int)) : (own l c).length * 24 ≤ 140737488351232 ∧ ∀ x ∈ own l c, x.f0.size ≤ 140737488351232 ∧ (0 ≤ x.f1 ∧ x.f1 ≤ 255) := by
  obtain ⟨_, h2, h3⟩ := (h.2.2 _ (rd_mem l c h0 h1)).2.2
  refine ⟨h2, fun x hx => ⟨(h3 x hx).1, ?_⟩⟩
  have := (h3 x hx).2
  simp [Lit.wf, IntKind.min, IntKind.max, IntKind.signed, IntKind.bits] at this
  exact this

theorem nam_eq (l : Tbl) (i : Int) (s : ByteArray) : (rd_T38 l i).f0.toList = s.toList ↔ nam l i = s := str_eq _ _

def fieldFaultFrom (l : Tbl) (all fs : List S40) : Nat → Nat → Int
  | 0, _ => if (fs.length : Int) > 32 - (all.length : Int) then 4 else 0
  | d + 1, i => if nameOk (rd_T40 fs i).f0 = true then (if hasB all (rd_T40 fs i).f0 = true then 20 else if hasB (fs.take i) (rd_T40 fs i).f0 = true then 20 else if storedB l (rd_T40 fs i).f1 = true then fieldFaultFrom l all fs d (i + 1) else 22) else 6
def fieldFault (l : Tbl) (all fs : List S40) : Int := fieldFaultFrom l all fs fs.length 0
def aheadFrom (l : Tbl) (c : Int) : Nat → Bool
  | 0 => false
  | d + 1 => decide (nam l (c - (d + 1)) = nam l c) || aheadFrom l c d
def aheadB (l : Tbl) (c : Int) : Bool := aheadFrom l c c.toNat
def parFault (l : Tbl) (c : Int) : Int := if par l c < -1 then 21 else if par l c ≥ c then 21 else fieldFault l (fieldsOf l (par l c)) (own l c)
def faultB (l : Tbl) (c : Int) : Int :=
  if c ≥ 32 then 4 else if nameOk (nam l c) = true then (if isWordB (nam l c) = true then 6 else if aheadB l c = true then 20 else parFault l c) else 6

theorem fields_fault (l : Tbl) (all fs : List S40) (h1 : all.length ≤ 5864062014805) (h2 : fs.length * 24 ≤ 140737488351232) (h3 : ∀ x ∈ fs, x.f0.size ≤ 140737488351232 ∧ (0 ≤ x.f1 ∧ x.f1 ≤ 255)) (nm : ByteArray) (pr : Int) : ∀ (d i : Nat), fs.length - i = d → i ≤ fs.length →
    Ev (fun k => provisoref02_fault.l1 k l all (i : Int) nm pr fs) (fieldFaultFrom l all fs d i)
  | 0, i, hd, hi => by
    unfold fieldFaultFrom
    refine Ev.step (f := fun _ => some _) (fun k => ?_) (Ev.now _)
    simp only [provisoref02_fault.l1]
    rw [if_neg (by omega), show wrap64 (32 - (all.length : Int)) = 32 - (all.length : Int) by unfold wrap64; omega]
    split <;> rfl
  | d + 1, i, hd, hi => by
    have hlt : i < fs.length := by omega
    have hrd : rd_T40 fs ((i : Nat) : Int) = fs[i] := by simp [rd_T40, List.getD_eq_getElem?_getD, hlt]
    obtain ⟨hs, ht⟩ := h3 fs[i] (List.getElem_mem _)
    have ih := fields_fault l all fs h1 h2 h3 nm pr d (i + 1) (by omega) (by omega)
    unfold fieldFaultFrom
    rw [hrd]
    refine Ev.step (fun k => by simp only [provisoref02_fault.l1]; rw [if_pos (by omega), if_pos (by omega), hrd]) ?_
    refine Ev.bind (f := fun k t => if t = true then _ else _) (ref_name _ hs) ?_
    cases nameOk fs[i].f0 with
    | false => exact Ev.now _
    | true =>
      refine Ev.bind (f := fun k t => if t = true then _ else _) (ref_has all _ (by omega)) ?_
      cases hasB all fs[i].f0 with
      | true => exact Ev.now _
      | false =>
        refine Ev.congr (f := fun k => (provisoref02_has.f k (fs.take i) fs[i].f0).bind _) (fun k => by
          show (if (i : Int) ≤ (fs.length : Int) then _ else _) = _
          rw [if_pos (by omega), Int.toNat_natCast]) ?_
        refine Ev.bind (f := fun k t => if t = true then _ else _) (ref_has (fs.take i) _ (by simp; omega)) ?_
        cases hasB (fs.take i) fs[i].f0 with
        | true => exact Ev.now _
        | false =>
          refine Ev.congr (f := fun k => if storedB l fs[i].f1 = true then _ else _) (fun k => by
            show (provisoref02_Stored.f l fs[i].f1).bind _ = _
            rw [ref_stored l _ ht]
            rfl) ?_
          cases storedB l fs[i].f1 with
          | false => exact Ev.now _
          | true =>
            refine Ev.congr (fun k => ?_) ih
            show provisoref02_fault.l1 k l all (wrap64 ((i : Int) + 1)) nm pr fs = _
            rw [w_next (n := fs.length) (by omega) (by omega) (by omega)]
            rfl
theorem par_fault (l : Tbl) (hs : Sane l) (c : Int) (h0 : 0 ≤ c) (h1 : c < (l.length : Int)) (hd : Dec l c) (hlim : ∀ p : Int, -1 ≤ p → p < c → (fieldsOf l p).length ≤ 32) :
    Ev (fun k => provisoref02_fault.l0 k l c c (nam l c) (par l c) (own l c)) (parFault l c) := by
  unfold parFault
  have hj : Ev (fun k => provisoref02_fault.j2 k l true (nam l c) (par l c) (own l c)) 21 := Ev.step (f := fun _ => some 21) (fun k => by simp only [provisoref02_fault.j2]; rfl) (Ev.now _)
  by_cases p1 : par l c < -1
  · rw [if_pos p1]
    exact Ev.step (fun k => by simp only [provisoref02_fault.l0]; rw [if_neg (by omega), if_pos p1]) hj
  · rw [if_neg p1]
    by_cases p2 : par l c ≥ c
    · rw [if_pos p2]
      exact Ev.step (fun k => by simp only [provisoref02_fault.l0]; rw [if_neg (by omega), if_neg p1, decide_eq_true p2]) hj
    · rw [if_neg p2]
      refine Ev.step (f := fun k => provisoref02_fault.j2 k l false (nam l c) (par l c) (own l c)) (fun k => by simp only [provisoref02_fault.l0]; rw [if_neg (by omega), if_neg p1, decide_eq_false p2]) ?_
      have hlp := hlim (par l c) (by omega) (by omega)
      refine Ev.step (f := fun k => (provisoref02_Fields.f k l (par l c)).bind fun t => provisoref02_fault.l1 k l t 0 (nam l c) (par l c) (own l c)) (fun k => by simp only [provisoref02_fault.j2]; rfl) ?_
      refine Ev.bind (f := fun k t => provisoref02_fault.l1 k l t 0 (nam l c) (par l c) (own l c)) (ref_fields l c (by omega) hs.2.1 hd (par l c) (by omega) (by omega)) ?_
      exact fields_fault l _ (own l c) (by omega) (hs.own h0 h1).1 (hs.own h0 h1).2 _ _ _ 0 (by omega) (by omega)
theorem ahead_fault (l : Tbl) (hs : Sane l) (c : Int) (h0 : 0 ≤ c) (h1 : c < (l.length : Int)) (hd : Dec l c) (hlim : ∀ p : Int, -1 ≤ p → p < c → (fieldsOf l p).length ≤ 32) : ∀ (d : Nat), (d : Int) ≤ c →
    Ev (fun k => provisoref02_fault.l0 k l c (c - d) (nam l c) (par l c) (own l c)) (if aheadFrom l c d = true then 20 else parFault l c)
  | 0, _ => by
    have := par_fault l hs c h0 h1 hd hlim
    simpa [aheadFrom] using this
  | d + 1, hdc => by
    have ih := ahead_fault l hs c h0 h1 hd hlim d (by omega)
    have hsz := hs.size
    have e1 : c - ((d : Int) + 1) + 1 = c - d := by omega
    by_cases e : nam l (c - ((d : Int) + 1)) = nam l c
    · have e2 : aheadFrom l c (d + 1) = true := by unfold aheadFrom; rw [decide_eq_true e, Bool.true_or]
      rw [e2, if_pos rfl]
      refine Ev.step (f := fun _ => some 20) (fun k => ?_) (Ev.now _)
      show provisoref02_fault.l0 (k + 1) l c (c - ((d : Int) + 1)) (nam l c) (par l c) (own l c) = _
      simp only [provisoref02_fault.l0]
      rw [if_pos (by omega), if_pos (by omega), if_pos (by omega), if_pos ((nam_eq l _ _).mpr e)]
    · have e2 : aheadFrom l c (d + 1) = aheadFrom l c d := by conv => lhs; unfold aheadFrom
                                                              rw [decide_eq_false e, Bool.false_or]
      rw [e2]
      refine Ev.step (fun k => ?_) ih
      show provisoref02_fault.l0 (k + 1) l c (c - ((d : Int) + 1)) (nam l c) (par l c) (own l c) = _
      simp only [provisoref02_fault.l0]
      rw [if_pos (by omega), if_pos (by omega), if_pos (by omega), if_neg (fun h9 => e ((nam_eq l _ _).mp h9)), show wrap64 (c - ((d : Int) + 1) + 1) = c - d by rw [e1]; unfold wrap64; omega]
theorem ref_fault (l : Tbl) (hs : Sane l) (c : Int) (h0 : 0 ≤ c) (h1 : c < (l.length : Int)) (hd : Dec l c) (hlim : ∀ p : Int, -1 ≤ p → p < c → (fieldsOf l p).length ≤ 32) : Ev (fun k => provisoref02_fault.f k l c) (faultB l c) := by
  unfold faultB
  have ha := ahead_fault l hs c h0 h1 hd hlim c.toNat (by omega)
  rw [show c - (c.toNat : Int) = 0 by omega] at ha
  have hj : ∀ b : Bool, Ev (fun k => provisoref02_fault.j0 k l c b (nam l c) (par l c) (own l c)) (if b = true then 6 else if aheadB l c = true then 20 else parFault l c) := by
    intro b
    cases b with
    | true => exact Ev.step (f := fun _ => some 6) (fun k => by simp only [provisoref02_fault.j0]; rfl) (Ev.now _)
    | false => exact Ev.step (fun k => by simp only [provisoref02_fault.j0]; rfl) ha
  by_cases h32 : c ≥ 32
  · rw [if_pos h32]
    exact Ev.congr (f := fun _ => some 4) (fun k => by unfold provisoref02_fault.f; rw [if_pos h0, if_pos h1, if_pos h32]) (Ev.now _)
  · rw [if_neg h32]
    refine Ev.congr (fun k => by unfold provisoref02_fault.f; rw [if_pos h0, if_pos h1, if_neg h32]; rfl) (Ev.bind (f := fun k t => if t = true then ((provisoref02_isWord.f k (nam l c)).bind fun t119 => provisoref02_fault.j0 k l c t119 (nam l c) (par l c) (own l c)) else provisoref02_fault.j0 k l c true (nam l c) (par l c) (own l c)) (ref_name _ (hs.nam h0 h1)) ?_)
    have hjt := hj true
    cases nameOk (nam l c) with
    | false => exact hjt
    | true => exact Ev.bind (f := fun k t => provisoref02_fault.j0 k l c t (nam l c) (par l c) (own l c)) (ref_word _) (hj _)

def GoodTo (l : Tbl) (n : Int) : Prop := ∀ c : Int, 0 ≤ c → c < n → faultB l c = 0
theorem field_fault_long (l : Tbl) (all fs : List S40) : ∀ (d i : Nat), fieldFaultFrom l all fs d i = 0 → (fs.length : Int) ≤ 32 - all.length
  | 0, i, h => by
    unfold fieldFaultFrom at h
    split at h <;> omega
  | d + 1, i, h => by
    unfold fieldFaultFrom at h
    split at h
    · split at h
      · omega
      · split at h
        · omega
        · split at h
          · exact field_fault_long l all fs d (i + 1) h
          · omega
    · omega
theorem fault_zero {l : Tbl} {c : Int} (h : faultB l c = 0) : c < 32 ∧ nameOk (nam l c) = true ∧ isWordB (nam l c) = false ∧ aheadB l c = false ∧ -1 ≤ par l c ∧ par l c < c ∧ fieldFault l (fieldsOf l (par l c)) (own l c) = 0 := by
  unfold faultB parFault at h
  split at h
  · omega
  · split at h
    · split at h
      · omega
      · split at h
        · omega
        · split at h
          · omega
          · split at h
            · omega
            · rename_i h1 h2 h3 h4 h5 h6
              exact ⟨by omega, h2, by simpa using h3, by simpa using h4, by omega, by omega, h⟩
    · omega
theorem GoodTo.dec {l : Tbl} {n : Int} (h : GoodTo l n) : Dec l n := fun i h0 h1 => (fault_zero (h i h0 h1)).2.2.2.2.2.1
theorem fieldsOf_in (l : Tbl) (c : Int) (h0 : 0 ≤ c) (h1 : c < (l.length : Int)) (h2 : par l c < c) : fieldsOf l c = fieldsOf l (par l c) ++ own l c := by
  unfold fieldsOf
  rw [climbL_in l c h0 h1 h2, List.reverse_cons, List.flatMap_append]
  simp [par]
theorem fieldsOf_out (l : Tbl) (c : Int) (h : ¬ (0 ≤ c ∧ c < (l.length : Int))) : fieldsOf l c = [] := by
  unfold fieldsOf
  rw [climbL_out l c h]
  rfl
theorem GoodTo.fields {l : Tbl} {n : Int} (hn : n ≤ l.length) (h : GoodTo l n) (c : Int) (hc : c < n) : (fieldsOf l c).length ≤ 32 := by
  by_cases h0 : 0 ≤ c
  · obtain ⟨_, _, _, _, h5, h6, h7⟩ := fault_zero (h c h0 hc)
    have := field_fault_long l _ _ _ _ h7
    rw [fieldsOf_in l c h0 (by omega) h6, List.length_append]
    omega
  · rw [fieldsOf_out l c (by omega)]
    simp
def checkFrom (l : Tbl) : Nat → Int → Int × Int
  | 0, _ => (0, 0)
  | d + 1, c => if faultB l c = 0 then checkFrom l d (c + 1) else (c, faultB l c)
def checkB (l : Tbl) : Int × Int := checkFrom l l.length 0
theorem check_tells (l : Tbl) (hs : Sane l) : ∀ (d : Nat) (c : Int), 0 ≤ c → (l.length : Int) - c = d → GoodTo l c → Ev (fun k => provisoref02_Check.l0 k l c) (checkFrom l d c)
  | 0, c, h0, hd, hg => by
    unfold checkFrom
    exact Ev.step (f := fun _ => some _) (fun k => by simp only [provisoref02_Check.l0]; rw [if_neg (by omega)]) (Ev.now _)
  | d + 1, c, h0, hd, hg => by
    have hf := ref_fault l hs c h0 (by omega) hg.dec (fun p hp1 hp2 => hg.fields (by omega) p hp2)
    unfold checkFrom
    refine Ev.step (fun k => by simp only [provisoref02_Check.l0]; rw [if_pos (by omega)]) (Ev.bind (f := fun k t => if t = 0 then _ else _) hf ?_)
    by_cases e : faultB l c = 0
    · rw [if_pos e]
      have hsz := hs.size
      refine Ev.congr (fun k => ?_) (check_tells l hs d (c + 1) (by omega) (by omega) (fun i hi0 hi1 => if hi : i < c then hg i hi0 hi else by rw [show i = c by omega]; exact e))
      rw [if_pos e, show wrap64 (c + 1) = c + 1 by unfold wrap64; omega]
    · rw [if_neg e]
      exact Ev.congr (f := fun _ => some _) (fun k => by rw [if_neg e]) (Ev.now _)
theorem ref_check (l : Tbl) (hs : Sane l) : Ev (fun k => provisoref02_Check.f k l) (checkB l) :=
  check_tells l hs l.length 0 (by omega) (by omega) (fun i h0 h1 => by omega)
theorem checkFrom_zero (l : Tbl) : ∀ (d : Nat) (c : Int), (checkFrom l d c).2 = 0 ↔ ∀ i : Int, c ≤ i → i < c + d → faultB l i = 0
  | 0, c => by
    constructor
    · intro _ i h1 h2; omega
    · intro _; rfl
  | d + 1, c => by
    unfold checkFrom
    split
    · rename_i e
      rw [checkFrom_zero l d (c + 1)]
      constructor
      · intro h i h1 h2
        by_cases hi : i = c
        · rw [hi]; exact e
        · exact h i (by omega) (by omega)
      · intro h i h1 h2
        exact h i (by omega) (by omega)
    · rename_i e
      constructor
      · intro h; exact absurd h e
      · intro h; exact h c (by omega) (by omega)
def Good (l : Tbl) : Prop := GoodTo l l.length
theorem good_iff (l : Tbl) : (checkB l).2 = 0 ↔ Good l := by
  unfold checkB
  rw [checkFrom_zero l l.length 0]
  unfold Good GoodTo
  simp
def madeB (l : Tbl) : Bool := (checkB l).2 == 0
theorem madeB_iff (l : Tbl) : madeB l = true ↔ Good l := by unfold madeB; rw [beq_iff_eq]; exact good_iff l
theorem ref_made (l : Tbl) (hs : Sane l) : Ev (fun k => provisoref02_Made.f k l) (madeB l) :=
  Ev.congr (fun k => rfl) (Ev.bind (f := fun k (b : Int × Int) => some (b.2 == 0)) (ref_check l hs) (Ev.now _))
theorem Good.short {l : Tbl} (h : Good l) : l.length ≤ 32 := by
  rcases Nat.lt_or_ge 32 l.length with h1 | h1
  · have := (fault_zero (h 32 (by omega) (by omega))).1
    omega
  · exact h1
theorem Good.dec {l : Tbl} (h : Good l) : Dec l l.length := GoodTo.dec h
end Go.Proofs.Ytghgloepameloaa.P

end

section
namespace Go.Proofs.Ytghgloepameloaa.P
open Go.RowKit Go.Proofs.YtghgloepameloaaW.PrintWords Go.Proofs.YtghgloepameloaaW.PrintLast Go.Proofs.YtghgloepameloaaW.PrintMore
set_option linter.unusedVariables false
set_option linter.unusedSimpArgs false

theorem u8_of {a : Int} (h : (Lit.int .u8 a).wf = true) : 0 ≤ a ∧ a ≤ 255 := by
  simp [Lit.wf, IntKind.min, IntKind.max, IntKind.signed, IntKind.bits] at h
  exact h
theorem words_is : types_words.f = some words6 := rfl
def printB (l : Tbl) (a : Int) : ByteArray := if a ≤ 5 then words6.getD a.toNat ByteArray.empty else if validB l a = true then nam l (a - 16) else ⟨#[]⟩
theorem impl_print (l : Tbl) (a : Int) (ha : 0 ≤ a ∧ a ≤ 255) : types_Print.f l a = some (printB l a) := by
  unfold types_Print.f printB
  by_cases h1 : a ≤ 5
  · rw [if_pos h1, if_pos h1, words_is]
    show (if 0 ≤ a then (if a < (6 : Int) then some (rdOf ByteArray.empty words6 a) else none) else none) = _
    rw [if_pos ha.1, if_pos (by omega)]
    rfl
  · rw [if_neg h1, if_neg h1]
    unfold types_class.f validB
    by_cases h2 : a < 16
    · rw [if_pos h2]
      simp [h1, show ¬ 16 ≤ a by omega]
    · rw [if_neg h2, show (a - 16) % 256 = a - 16 by omega]
      by_cases h3 : a - 16 ≥ (l.length : Int)
      · rw [if_pos h3]
        simp [h1, show ¬ a - 16 < (l.length : Int) by omega]
      · rw [if_neg h3]
        simp only [Option.bind_some]
        rw [if_pos (by omega), if_pos (by omega), if_pos (by omega)]
        simp [h1, show 16 ≤ a by omega, show a - 16 < (l.length : Int) by omega]
        rfl
theorem Good.nameOk {l : Tbl} (h : Good l) {c : Int} (h0 : 0 ≤ c) (h1 : c < (l.length : Int)) : nameOk (nam l c) = true ∧ isWordB (nam l c) = false :=
  ⟨(fault_zero (h c h0 h1)).2.1, (fault_zero (h c h0 h1)).2.2.1⟩
end Go.Proofs.Ytghgloepameloaa.P

end

section
namespace Go.Proofs.Ytghgloepameloaa.P
open Go.RowKit Go.Proofs.YtghgloepameloaaW.PrintWords Go.Proofs.YtghgloepameloaaW.PrintLast Go.Proofs.YtghgloepameloaaW.PrintMore
set_option linter.unusedVariables false
set_option linter.unusedSimpArgs false

theorem climb_suffix {l : Tbl} (hd : Dec l l.length) : ∀ (d : Nat) (x y : Int), (x + 1).toNat ≤ d → y ∈ climbL l x → ∃ pre, climbL l x = pre ++ climbL l y
  | 0, x, y, h, hm => by
    rw [climbL_out l x (by omega)] at hm
    cases hm
  | d + 1, x, y, h, hm => by
    by_cases hx : 0 ≤ x ∧ x < (l.length : Int)
    · have hp := hd x hx.1 hx.2
      rw [climbL_in l x hx.1 hx.2 hp] at hm ⊢
      rcases List.mem_cons.1 hm with rfl | hm
      · exact ⟨[], by rw [climbL_in l y hx.1 hx.2 hp]; rfl⟩
      · obtain ⟨pre, e⟩ := climb_suffix hd d _ y (by unfold par at hp; omega) hm
        exact ⟨x :: pre, by rw [e]; rfl⟩
    · rw [climbL_out l x hx] at hm
      cases hm
theorem climb_le {l : Tbl} (hd : Dec l l.length) : ∀ (d : Nat) (x y : Int), (x + 1).toNat ≤ d → y ∈ climbL l x → y ≤ x
  | 0, x, y, h, hm => by
    rw [climbL_out l x (by omega)] at hm
    cases hm
  | d + 1, x, y, h, hm => by
    by_cases hx : 0 ≤ x ∧ x < (l.length : Int)
    · have hp := hd x hx.1 hx.2
      rw [climbL_in l x hx.1 hx.2 hp] at hm
      rcases List.mem_cons.1 hm with rfl | hm
      · exact Int.le_refl _
      · have := climb_le hd d _ y (by unfold par at hp; omega) hm
        unfold par at hp
        omega
    · rw [climbL_out l x hx] at hm
      cases hm
theorem climb_antisymm {l : Tbl} (hd : Dec l l.length) {x y : Int} (h1 : y ∈ climbL l x) (h2 : x ∈ climbL l y) : x = y := by
  have a := climb_le hd _ x y (Nat.le_refl _) h1
  have b := climb_le hd _ y x (Nat.le_refl _) h2
  omega
theorem class_valid (l : Tbl) (a : Int) (ha : 0 ≤ a ∧ a ≤ 255) : classOf l a = if 16 ≤ a ∧ a - 16 < (l.length : Int) then a - 16 else -1 := by
  unfold classOf
  by_cases h1 : a < 16
  · rw [if_pos h1, if_neg (by omega)]
  · rw [if_neg h1, show (a - 16) % 256 = a - 16 by omega]
    by_cases h2 : a - 16 ≥ (l.length : Int)
    · rw [if_pos h2, if_neg (by omega)]
    · rw [if_neg h2, if_pos (by omega)]
theorem impl_valid (l : Tbl) (a : Int) (ha : 0 ≤ a ∧ a ≤ 255) : types_Valid.f l a = some (validB l a) := by
  unfold types_Valid.f validB
  by_cases h1 : a ≤ 5
  · simp [h1]
  · rw [if_neg h1, class_is, class_valid l a ha]
    by_cases h2 : 16 ≤ a ∧ a - 16 < (l.length : Int)
    · rw [if_pos h2]
      simp [h1, h2.1, h2.2]
    · rw [if_neg h2]
      simp [h1]
      omega
def subB (l : Tbl) (a b : Int) : Bool :=
  if validB l a = true ∧ validB l b = true then (if a = b then true else if b = 0 then true else if a = 3 ∨ b = 5 then isRefB a && isRefB b else if 0 ≤ classOf l a ∧ 0 ≤ classOf l b then decide (classOf l b ∈ climbL l (classOf l a)) else false) else false
theorem impl_sub (l : Tbl) (a b : Int) (ha : 0 ≤ a ∧ a ≤ 255) (hb : 0 ≤ b ∧ b ≤ 255) (k : Nat) : types_Sub.f (k + 3) l a b = some (subB l a b) := by
  unfold types_Sub.f subB
  rw [impl_valid l a ha, impl_valid l b hb]
  simp only [Option.bind_some, types_Sub.j0, types_Sub.j1, types_Sub.j2, isRef_is, class_is, types_above.f]
  cases validB l a with
  | false => simp
  | true =>
    cases validB l b with
    | false => simp
    | true =>
      by_cases e1 : a = b
      · simp [e1]
      · by_cases e2 : b = 0
        · simp [e1, e2]
        · by_cases e3 : a = 3
          · cases hra : isRefB a <;> cases hrb : isRefB b <;> simp [e1, e2, e3, hra, hrb] <;> simp_all
          · by_cases e5 : b = 5
            · cases hra : isRefB a <;> cases hrb : isRefB b <;> simp [e1, e2, e3, e5, hra, hrb] <;> simp_all
            · by_cases g1 : 0 ≤ classOf l a <;> by_cases g2 : 0 ≤ classOf l b <;> simp [e1, e2, e3, e5, g1, g2] <;> omega

theorem valid_cases {l : Tbl} {a : Int} (ha : 0 ≤ a ∧ a ≤ 255) (h : validB l a = true) : (a ≤ 5 ∧ classOf l a = -1) ∨ (16 ≤ a ∧ a - 16 < (l.length : Int) ∧ classOf l a = a - 16) := by
  unfold validB at h
  rw [class_valid l a ha]
  simp at h
  rcases h with h | ⟨h1, h2⟩
  · exact .inl ⟨h, by rw [if_neg (by omega)]⟩
  · exact .inr ⟨h1, by omega, by rw [if_pos (by omega)]⟩
theorem sub_iff (l : Tbl) (a b : Int) : subB l a b = true ↔ validB l a = true ∧ validB l b = true ∧ (a = b ∨ b = 0 ∨ ((a = 3 ∨ b = 5) ∧ isRefB a = true ∧ isRefB b = true) ∨ (¬ (a = 3 ∨ b = 5) ∧ 0 ≤ classOf l a ∧ 0 ≤ classOf l b ∧ classOf l b ∈ climbL l (classOf l a))) := by
  unfold subB
  by_cases h : validB l a = true ∧ validB l b = true
  · rw [if_pos h]
    by_cases e1 : a = b
    · simp [e1, h.2]
    · rw [if_neg e1]
      by_cases e2 : b = 0
      · simp [e2, h.1]
        rw [← e2]; exact h.2
      · rw [if_neg e2]
        by_cases e3 : a = 3 ∨ b = 5
        · rw [if_pos e3]
          simp [h.1, h.2, e1, e2, e3]
        · rw [if_neg e3]
          by_cases g : 0 ≤ classOf l a ∧ 0 ≤ classOf l b
          · rw [if_pos g]
            simp [h.1, h.2, e1, e2, e3, g.1, g.2]
          · rw [if_neg g]
            simp [h.1, h.2, e1, e2, e3]
            intro g1 g2
            exact absurd ⟨g1, g2⟩ g
  · rw [if_neg h]
    simp
    intro h1 h2
    exact absurd ⟨h1, h2⟩ h
theorem isRef_iff (a : Int) : isRefB a = true ↔ a = 3 ∨ a = 4 ∨ a = 5 ∨ a ≥ 16 := by unfold isRefB; simp [or_assoc]
theorem sub_refl (l : Tbl) (a : Int) (h : validB l a = true) : subB l a a = true := (sub_iff l a a).2 ⟨h, h, .inl rfl⟩
theorem sub_antisymm {l : Tbl} (hg : Good l) {a b : Int} (ha : 0 ≤ a ∧ a ≤ 255) (hb : 0 ≤ b ∧ b ≤ 255) (h1 : subB l a b = true) (h2 : subB l b a = true) : a = b := by
  rw [sub_iff] at h1 h2
  obtain ⟨va, vb, h1⟩ := h1
  obtain ⟨_, _, h2⟩ := h2
  have ka := valid_cases ha va
  have kb := valid_cases hb vb
  rw [isRef_iff, isRef_iff] at h1 h2
  rcases h1 with rfl | rfl | ⟨p1, p2, p3⟩ | ⟨p1, p2, p3, p4⟩
  · rfl
  · rcases h2 with rfl | rfl | ⟨q1, q2, q3⟩ | ⟨q1, q2, q3, q4⟩ <;> omega
  · rcases h2 with rfl | rfl | ⟨q1, q2, q3⟩ | ⟨q1, q2, q3, q4⟩ <;> omega
  · rcases h2 with rfl | rfl | ⟨q1, q2, q3⟩ | ⟨q1, q2, q3, q4⟩
    · rfl
    · omega
    · omega
    · have := climb_antisymm hg.dec p4 q4
      omega
end Go.Proofs.Ytghgloepameloaa.P

end

section
namespace Go.Proofs.Ytghgloepameloaa.P
open Go.RowKit Go.Proofs.YtghgloepameloaaW.PrintWords Go.Proofs.YtghgloepameloaaW.PrintLast Go.Proofs.YtghgloepameloaaW.PrintMore
set_option linter.unusedVariables false
set_option linter.unusedSimpArgs false

def mergeB (l : Tbl) (a b : Int) : Int := if validB l a = true ∧ validB l b = true then (if subB l a b = true then b else if subB l b a = true then a else mergeUp l a b) else 0
theorem impl_merge (l : Tbl) (a b : Int) (ha : 0 ≤ a ∧ a ≤ 255) (hb : 0 ≤ b ∧ b ≤ 255) (k : Nat) : types_Merge.f (k + 3) l a b = some (mergeB l a b) := by
  unfold types_Merge.f mergeB
  rw [impl_valid l a ha, impl_valid l b hb, impl_sub l a b ha hb, impl_sub l b a hb ha]
  cases validB l a <;> cases validB l b <;> cases subB l a b <;> cases subB l b a <;> simp
theorem top_valid (l : Tbl) : validB l 0 = true := by simp [validB]
theorem sub_top (l : Tbl) (a : Int) (h : validB l a = true) : subB l a 0 = true := (sub_iff l a 0).2 ⟨h, top_valid l, .inr (.inl rfl)⟩
theorem any_valid (l : Tbl) : validB l 5 = true := by simp [validB]
theorem class_type {l : Tbl} (hg : Good l) {c : Int} (h0 : 0 ≤ c) (h1 : c < (l.length : Int)) : (16 + c) % 256 = 16 + c ∧ validB l (16 + c) = true ∧ classOf l (16 + c) = c ∧ 0 ≤ 16 + c ∧ 16 + c ≤ 255 := by
  have := hg.short
  refine ⟨by omega, by simp [validB]; omega, ?_, by omega, by omega⟩
  rw [class_valid l (16 + c) (by omega), if_pos (by omega)]
  omega
theorem merge_up {l : Tbl} (hg : Good l) {a b : Int} (ha : 0 ≤ a ∧ a ≤ 255) (hb : 0 ≤ b ∧ b ≤ 255) (va : validB l a = true) (vb : validB l b = true) (n1 : ¬ subB l a b = true) (n2 : ¬ subB l b a = true) :
    (0 ≤ mergeUp l a b ∧ mergeUp l a b ≤ 255) ∧ validB l (mergeUp l a b) = true ∧ subB l a (mergeUp l a b) = true ∧ subB l b (mergeUp l a b) = true ∧ ∀ c : Int, 0 ≤ c → c ≤ 255 → subB l a c = true → subB l b c = true → subB l (mergeUp l a b) c = true := by
  have ka := valid_cases ha va
  have kb := valid_cases hb vb
  have m1 := n1
  have m2 := n2
  rw [sub_iff] at m1 m2
  have ra := isRef_iff a
  have rb := isRef_iff b
  -- what an upper bound is
  have ub : ∀ c : Int, 0 ≤ c → c ≤ 255 → subB l a c = true → subB l b c = true → c = 0 ∨ (c = 5 ∧ isRefB a = true ∧ isRefB b = true) ∨ (0 ≤ classOf l a ∧ 0 ≤ classOf l b ∧ 0 ≤ classOf l c ∧ validB l c = true ∧ classOf l c ∈ climbL l (classOf l a) ∧ classOf l c ∈ climbL l (classOf l b) ∧ 16 ≤ c) := by
    intro c hc0 hc1 h1 h2
    have kc : validB l c = true := ((sub_iff l a c).1 h1).2.1
    have kc2 := valid_cases ⟨hc0, hc1⟩ kc
    have e1 : a ≠ c := fun e => n2 (by rw [e]; exact h2)
    have e2 : b ≠ c := fun e => n1 (by rw [e]; exact h1)
    have h1' := ((sub_iff l a c).1 h1).2.2
    have h2' := ((sub_iff l b c).1 h2).2.2
    have rc := isRef_iff c
    rcases h1' with h | h | ⟨p1, p2, p3⟩ | ⟨p1, p2, p3, p4⟩
    · exact absurd h e1
    · exact .inl h
    · rcases h2' with h | h | ⟨q1, q2, q3⟩ | ⟨q1, q2, q3, q4⟩
      · exact absurd h e2
      · exact .inl h
      · by_cases c5 : c = 5
        · exact .inr (.inl ⟨c5, p2, q2⟩)
        · exfalso
          have a3 : a = 3 := by omega
          exact m1 ⟨va, vb, .inr (.inr (.inl ⟨.inl a3, p2, q2⟩))⟩
      · exfalso
        have c5 : c ≠ 5 := by omega
        have a3 : a = 3 := by omega
        exact m1 ⟨va, vb, .inr (.inr (.inl ⟨.inl a3, p2, by rw [rb]; omega⟩))⟩
    · rcases h2' with h | h | ⟨q1, q2, q3⟩ | ⟨q1, q2, q3, q4⟩
      · exact absurd h e2
      · exact .inl h
      · exfalso
        have b3 : b = 3 := by omega
        exact m2 ⟨vb, va, .inr (.inr (.inl ⟨.inl b3, q2, by rw [ra]; omega⟩))⟩
      · exact .inr (.inr ⟨p2, q2, p3, kc, p4, q4, by omega⟩)
  unfold mergeUp
  by_cases r1 : isRefB a = true
  · rw [if_pos r1]
    by_cases r2 : isRefB b = true
    · rw [if_pos r2]
      have five : (0 ≤ (5 : Int) ∧ (5 : Int) ≤ 255) ∧ validB l 5 = true ∧ subB l a 5 = true ∧ subB l b 5 = true := ⟨by omega, any_valid l, (sub_iff l a 5).2 ⟨va, any_valid l, .inr (.inr (.inl ⟨.inr rfl, r1, by decide⟩))⟩, (sub_iff l b 5).2 ⟨vb, any_valid l, .inr (.inr (.inl ⟨.inr rfl, r2, by decide⟩))⟩⟩
      have fiveLeast : (¬ (0 ≤ classOf l a ∧ 0 ≤ classOf l b)) → ∀ c : Int, 0 ≤ c → c ≤ 255 → subB l a c = true → subB l b c = true → subB l 5 c = true := by
        intro hn c hc0 hc1 h1 h2
        rcases ub c hc0 hc1 h1 h2 with h | ⟨h, _⟩ | ⟨h, h', _⟩
        · rw [h]; exact sub_top l 5 (any_valid l)
        · rw [h]; exact sub_refl l 5 (any_valid l)
        · exact absurd ⟨h, h'⟩ hn
      by_cases g1 : 0 ≤ classOf l a
      · rw [if_pos g1]
        by_cases g2 : 0 ≤ classOf l b
        · rw [if_pos g2]
          unfold upOf
          cases hf : (climbL l (classOf l a)).find? (fun c => decide (c ∈ climbL l (classOf l b))) with
          | none =>
            refine ⟨five.1, five.2.1, five.2.2.1, five.2.2.2, fun c hc0 hc1 h1 h2 => ?_⟩
            rcases ub c hc0 hc1 h1 h2 with h | ⟨h, _⟩ | ⟨_, _, _, _, h4, h5, _⟩
            · rw [h]; exact sub_top l 5 (any_valid l)
            · rw [h]; exact sub_refl l 5 (any_valid l)
            · have := List.find?_eq_none.1 hf _ h4
              simp [h5] at this
          | some u =>
            have hu1 := List.mem_of_find?_eq_some hf
            have hu2 : u ∈ climbL l (classOf l b) := by have := List.find?_some hf; simpa using this
            obtain ⟨hu3, hu4⟩ := climbL_mem l _ u hu1
            obtain ⟨t1, t2, t3, t4, t5⟩ := class_type hg hu3 hu4
            show (0 ≤ (16 + u) % 256 ∧ (16 + u) % 256 ≤ 255) ∧ validB l ((16 + u) % 256) = true ∧ subB l a ((16 + u) % 256) = true ∧ subB l b ((16 + u) % 256) = true ∧ ∀ c : Int, 0 ≤ c → c ≤ 255 → subB l a c = true → subB l b c = true → subB l ((16 + u) % 256) c = true
            rw [t1]
            refine ⟨⟨t4, t5⟩, t2, ?_, ?_, fun c hc0 hc1 h1 h2 => ?_⟩
            · exact (sub_iff l a _).2 ⟨va, t2, .inr (.inr (.inr ⟨by omega, g1, by rw [t3]; exact hu3, by rw [t3]; exact hu1⟩))⟩
            · exact (sub_iff l b _).2 ⟨vb, t2, .inr (.inr (.inr ⟨by omega, g2, by rw [t3]; exact hu3, by rw [t3]; exact hu2⟩))⟩
            · rcases ub c hc0 hc1 h1 h2 with h | ⟨h, _⟩ | ⟨_, _, h3, h6, h4, h5, h7⟩
              · rw [h]; exact sub_top l _ t2
              · rw [h]; exact (sub_iff l _ 5).2 ⟨t2, any_valid l, .inr (.inr (.inl ⟨.inr rfl, by rw [isRef_iff]; omega, by decide⟩))⟩
              · refine (sub_iff l _ c).2 ⟨t2, h6, .inr (.inr (.inr ⟨by omega, by rw [t3]; exact hu3, h3, ?_⟩))⟩
                rw [t3]
                -- the first common one: whatever is common lies behind it
                obtain ⟨_, pre, suf, e, hpre⟩ := List.find?_eq_some_iff_append.1 hf
                obtain ⟨pre2, e2⟩ := climb_suffix hg.dec _ _ u (Nat.le_refl _) hu1
                have hnpre : classOf l c ∉ pre := fun hm => by
                  have := hpre _ hm
                  simp [h5] at this
                have hne : ¬ u ∈ pre := fun hm => by
                  have := hpre _ hm
                  simp [hu2] at this
                rw [e] at h4
                rcases List.mem_append.1 h4 with h4 | h4
                · exact absurd h4 hnpre
                · -- u :: suf is the line of u
                  have hlen : climbL l u = u :: suf := by
                    have hin := hg.dec u hu3 hu4
                    have e3 := climbL_in l u hu3 hu4 hin
                    rw [e] at e2
                    rw [e3] at e2 ⊢
                    -- both split at u's one place
                    have hnod : ∀ (p q s t : List Int), p ++ u :: s = q ++ u :: t → ¬ u ∈ p → ¬ u ∈ s → s = t := by
                      intro p
                      induction p with
                      | nil =>
                        intro q s t he _ hs
                        cases q with
                        | nil => simpa using he
                        | cons a q =>
                          simp at he
                          exact absurd (by rw [he.2]; simp) hs
                      | cons a p ih =>
                        intro q s t he hp hs
                        cases q with
                        | nil =>
                          simp at he
                          exact absurd (by rw [← he.1]; simp) hp
                        | cons b q =>
                          simp at he
                          exact ih q s t he.2 (fun h => hp (List.mem_cons_of_mem _ h)) hs
                    have hs : ¬ u ∈ suf := by
                      intro hm
                      have hlt : ∀ (x : Int) (p s : List Int), climbL l x = p ++ u :: s → ¬ u ∈ s := by
                        intro x p
                        induction p generalizing x with
                        | nil =>
                          intro s he hm
                          by_cases hx : 0 ≤ x ∧ x < (l.length : Int)
                          · have hpx := hg.dec x hx.1 hx.2
                            rw [climbL_in l x hx.1 hx.2 hpx] at he
                            simp at he
                            have h9 : u ∈ climbL l (rd_T38 l x).f1 := by rw [he.2]; exact hm
                            have := climb_le hg.dec _ _ u (Nat.le_refl _) h9
                            unfold par at hpx
                            omega
                          · rw [climbL_out l x hx] at he
                            simp at he
                        | cons a p ih =>
                          intro s he
                          by_cases hx : 0 ≤ x ∧ x < (l.length : Int)
                          · have hpx := hg.dec x hx.1 hx.2
                            rw [climbL_in l x hx.1 hx.2 hpx] at he
                            simp at he
                            exact ih _ s he.2
                          · rw [climbL_out l x hx] at he
                            simp at he
                      exact hlt _ pre suf e hm
                    rw [hnod pre pre2 suf _ e2 hne hs]
                  rw [hlen]
                  exact h4
        · rw [if_neg g2]
          exact ⟨five.1, five.2.1, five.2.2.1, five.2.2.2, fiveLeast (fun h => g2 h.2)⟩
      · rw [if_neg g1]
        exact ⟨five.1, five.2.1, five.2.2.1, five.2.2.2, fiveLeast (fun h => g1 h.1)⟩
    · rw [if_neg r2]
      refine ⟨by omega, top_valid l, sub_top l a va, sub_top l b vb, fun c hc0 hc1 h1 h2 => ?_⟩
      rcases ub c hc0 hc1 h1 h2 with h | ⟨_, _, h⟩ | ⟨_, h, _⟩
      · rw [h]; exact sub_refl l 0 (top_valid l)
      · exact absurd h r2
      · exact absurd (rb.2 (by omega)) r2
  · rw [if_neg r1]
    refine ⟨by omega, top_valid l, sub_top l a va, sub_top l b vb, fun c hc0 hc1 h1 h2 => ?_⟩
    rcases ub c hc0 hc1 h1 h2 with h | ⟨_, h, _⟩ | ⟨h, _⟩
    · rw [h]; exact sub_refl l 0 (top_valid l)
    · exact absurd h r1
    · exact absurd (ra.2 (by omega)) r1
theorem merge_least {l : Tbl} (hg : Good l) {a b : Int} (ha : 0 ≤ a ∧ a ≤ 255) (hb : 0 ≤ b ∧ b ≤ 255) (va : validB l a = true) (vb : validB l b = true) :
    (0 ≤ mergeB l a b ∧ mergeB l a b ≤ 255) ∧ validB l (mergeB l a b) = true ∧ subB l a (mergeB l a b) = true ∧ subB l b (mergeB l a b) = true ∧ ∀ c : Int, 0 ≤ c → c ≤ 255 → subB l a c = true → subB l b c = true → subB l (mergeB l a b) c = true := by
  unfold mergeB
  rw [if_pos ⟨va, vb⟩]
  by_cases n1 : subB l a b = true
  · rw [if_pos n1]
    exact ⟨hb, vb, n1, sub_refl l b vb, fun c _ _ _ h => h⟩
  · rw [if_neg n1]
    by_cases n2 : subB l b a = true
    · rw [if_pos n2]
      exact ⟨ha, va, sub_refl l a va, n2, fun c _ _ h _ => h⟩
    · rw [if_neg n2]
      exact merge_up hg ha hb va vb n1 n2
end Go.Proofs.Ytghgloepameloaa.P

end

section
namespace Go.Proofs.Ytghgloepameloaa.P
open Go.RowKit Go.Proofs.YtghgloepameloaaW.PrintWords Go.Proofs.YtghgloepameloaaW.PrintLast Go.Proofs.YtghgloepameloaaW.PrintMore
set_option linter.unusedVariables false
set_option linter.unusedSimpArgs false

def deepOf (l : Tbl) (c : Int) : Int := 1 + ((climbL l c).length : Int)
def deepFrom (l : Tbl) : Nat → Int → Int → Int
  | 0, _, n => n
  | d + 1, i, n => deepFrom l d (i + 1) (mx n (deepOf l i))
def rankB (l : Tbl) (a : Int) : Int :=
  if validB l a = true ∧ a ≠ 0 then (if a = 4 then 2 else if a = 3 then deepFrom l l.length 0 2 + 1 else if a ≥ 16 then deepOf l (classOf l a) else 1) else 0
theorem deepOf_le (l : Tbl) (c : Int) : 1 ≤ deepOf l c ∧ deepOf l c ≤ 1 + l.length := by
  have := climbL_length l c
  unfold deepOf
  omega
theorem mx_is (a b : Int) : mx a b = a ∨ mx a b = b := by unfold mx; split <;> simp
theorem rank_tells (l : Tbl) (hl : l.length ≤ 2932031007320) (k : Nat) : ∀ (d : Nat) (i n : Int), 0 ≤ i → (l.length : Int) - i = d → 0 ≤ n → n ≤ 2932031007321 + 2 → types_Rank.l0 (k + d + 1) l n (l.length : Int) i = some (deepFrom l d i n + 1)
  | 0, i, n, h0, hd, hn, hn2 => by
    simp only [types_Rank.l0]
    rw [if_neg (by omega)]
    unfold deepFrom
    rw [show wrap64 (n + 1) = n + 1 by unfold wrap64; omega]
  | d + 1, i, n, h0, hd, hn, hn2 => by
    have hdl := deepOf_le l i
    have hm := mx_is n (deepOf l i)
    have ih := rank_tells l hl k d (i + 1) (mx n (deepOf l i)) (by omega) (by omega) (by omega) (by omega)
    rw [show k + (d + 1) + 1 = (k + d + 1) + 1 by omega]
    show (if i < (l.length : Int) then ((types_deep.f l i).bind fun t201 => (types_Rank.l0 (k + d + 1) l (mx n (wrap64 (1 + t201))) (l.length : Int) (wrap64 (i + 1)))) else (some (wrap64 (n + 1)))) = _
    rw [if_pos (by omega)]
    simp only [types_deep.f, Option.bind_some]
    rw [show wrap64 (1 + ((climbL l i).length : Int)) = deepOf l i by unfold deepOf wrap64; unfold deepOf at hdl; omega, show wrap64 (i + 1) = i + 1 by unfold wrap64; omega, ih]
    rfl
theorem impl_rank (l : Tbl) (hl : l.length ≤ 2932031007320) (a : Int) (ha : 0 ≤ a ∧ a ≤ 255) (k : Nat) : types_Rank.f (k + l.length + 2) l a = some (rankB l a) := by
  have hk : k + l.length + 2 = (k + l.length + 1) + 1 := by omega
  unfold types_Rank.f rankB
  rw [impl_valid l a ha]
  have h3 := rank_tells l hl k l.length 0 2 (by omega) (by omega) (by omega) (by omega)
  rw [hk]
  simp only [Option.bind_some, types_Rank.j0, class_is, types_deep.f, h3]
  cases hv : validB l a with
  | false => simp
  | true =>
    by_cases e0 : a = 0
    · simp [e0]
    · by_cases e4 : a = 4
      · simp [e4]
      · by_cases e3 : a = 3
        · simp [e3]
        · by_cases e16 : a ≥ 16
          · have := deepOf_le l (classOf l a)
            have hw : wrap64 (1 + ((climbL l (classOf l a)).length : Int)) = deepOf l (classOf l a) := by unfold deepOf wrap64; unfold deepOf at this; omega
            simp [e0, e4, e3, e16, hw]
          · simp [e0, e4, e3, e16]
end Go.Proofs.Ytghgloepameloaa.P

end

section
namespace Go.Proofs.Ytghgloepameloaa.P
open Go.RowKit Go.Proofs.YtghgloepameloaaW.PrintWords Go.Proofs.YtghgloepameloaaW.PrintLast Go.Proofs.YtghgloepameloaaW.PrintMore
set_option linter.unusedVariables false
set_option linter.unusedSimpArgs false

theorem rd_class (l : Tbl) (i : Nat) (h : i < l.length) : rd_T38 l (i : Int) = l[i] := by simp [rd_T38, List.getD_eq_getElem?_getD, h]
theorem classes_tells (l : Tbl) (hs : Sane l) : ∀ (d i : Nat), l.length - i = d → i ≤ l.length → Ev (fun k => provisoplain_Classes.l0 k (l.take i) l (l.length : Int) (i : Int)) l
  | 0, i, hd, hi => by
    have e : l.take i = l := List.take_of_length_le (by omega)
    rw [e]
    exact Ev.step (f := fun _ => some l) (fun k => by simp only [provisoplain_Classes.l0]; rw [if_neg (by omega)]) (Ev.now _)
  | d + 1, i, hd, hi => by
    have hlt : i < l.length := by omega
    have ih := classes_tells l hs d (i + 1) (by omega) (by omega)
    have hsz := hs.size
    have ho := (hs.own (c := (i : Int)) (by omega) (by omega)).1
    unfold own at ho
    refine Ev.step (fun k => ?_) ih
    simp only [provisoplain_Classes.l0]
    rw [if_pos (by omega), if_pos (by omega), if_pos (by omega)]
    unfold api_Field_46.f
    rw [if_pos (by omega)]
    simp only [Option.bind_some]
    rw [if_pos (by rw [List.length_take]; omega), rd_class l i hlt, show wrap64 ((i : Int) + 1) = ((i + 1 : Nat) : Int) by unfold wrap64; omega, List.take_succ_eq_append_getElem hlt]
theorem impl_classes (l : Tbl) (hs : Sane l) : Ev (fun k => provisoplain_Classes.f k l) l := by
  have := classes_tells l hs l.length 0 (by omega) (by omega)
  rw [List.take_zero] at this
  exact this
theorem equal_fields_self (xs : List S40) (hl : xs.length ≤ 9223372036854775807) : ∀ (d i : Nat), xs.length - i = d → i ≤ xs.length → Ev (fun k => api_Field_24.l0 k xs xs (xs.length : Int) (i : Int)) true
  | 0, i, hd, hi => Ev.step (f := fun _ => some true) (fun k => by simp only [api_Field_24.l0]; rw [if_neg (by omega)]) (Ev.now _)
  | d + 1, i, hd, hi => by
    refine Ev.step (fun k => ?_) (equal_fields_self xs hl d (i + 1) (by omega) (by omega))
    simp only [api_Field_24.l0]
    rw [if_pos (by omega), if_pos (by omega), if_pos (by omega), if_pos (by omega), if_neg (by simp), show wrap64 ((i : Int) + 1) = ((i + 1 : Nat) : Int) by unfold wrap64; omega]
theorem impl_equal_fields_self (xs : List S40) (hl : xs.length ≤ 9223372036854775807) : Ev (fun k => api_Field_24.f k xs xs) true :=
  Ev.congr (fun k => by unfold api_Field_24.f; rw [if_pos rfl]; rfl) (equal_fields_self xs hl xs.length 0 (by omega) (by omega))
theorem same_classes_self (l : Tbl) (hs : Sane l) : ∀ (d i : Nat), l.length - i = d → i ≤ l.length → Ev (fun k => provisoplain_SameClasses.l0 k l l (l.length : Int) (i : Int)) true
  | 0, i, hd, hi => Ev.step (f := fun _ => some true) (fun k => by simp only [provisoplain_SameClasses.l0]; rw [if_neg (by omega)]) (Ev.now _)
  | d + 1, i, hd, hi => by
    have hsz := hs.size
    have ho := (hs.own (c := (i : Int)) (by omega) (by omega)).1
    unfold own at ho
    refine Ev.step (fun k => by
      simp only [provisoplain_SameClasses.l0]
      rw [if_pos (by omega), if_pos (by omega), if_pos (by omega), if_pos (by omega)]
      simp only [if_true]) (Ev.bind (f := fun k t => if t = true then provisoplain_SameClasses.l0 k l l (l.length : Int) (wrap64 ((i : Int) + 1)) else some false) (impl_equal_fields_self (rd_T38 l (i : Int)).f2 (by omega)) ?_)
    refine Ev.congr (fun k => ?_) (same_classes_self l hs d (i + 1) (by omega) (by omega))
    rw [if_pos rfl, show wrap64 ((i : Int) + 1) = ((i + 1 : Nat) : Int) by unfold wrap64; omega]
theorem impl_same_classes (l : Tbl) (hs : Sane l) : Ev (fun k => provisoplain_SameClasses.f k l l) true :=
  Ev.congr (fun k => by unfold provisoplain_SameClasses.f; rw [if_pos rfl]; rfl) (same_classes_self l hs l.length 0 (by omega) (by omega))

theorem ref_isRef (a : Int) : provisoref02_IsRef.f a = some (isRefB a) := by
  unfold provisoref02_IsRef.f isRefB
  by_cases h3 : a = 3 <;> by_cases h4 : a = 4 <;> by_cases h5 : a = 5 <;> simp [h3, h4, h5]
theorem sub_search (b : Int) (hb : 16 ≤ b ∧ b ≤ 255) (line : List Int) (hl : line.length ≤ 2932031007320) : ∀ (d i : Nat), line.length - i = d → i ≤ line.length → Ev (fun k => provisoref02_Sub.l0 k b line (i : Int)) (decide (b - 16 ∈ line.drop i))
  | 0, i, hd, hi => by
    rw [List.drop_of_length_le (by omega)]
    exact Ev.step (f := fun _ => some _) (fun k => by simp only [provisoref02_Sub.l0]; rw [if_neg (by omega)]; simp) (Ev.now _)
  | d + 1, i, hd, hi => by
    have hlt : i < line.length := by omega
    have hrd : rd line ((i : Nat) : Int) = line[i] := by simp [rd, List.getD_eq_getElem?_getD, hlt]
    have ih := sub_search b hb line hl d (i + 1) (by omega) (by omega)
    by_cases e : line[i] = b - 16
    · have e2 : decide (b - 16 ∈ line.drop i) = true := by rw [List.drop_eq_getElem_cons hlt]; simp [e]
      rw [e2]
      exact Ev.step (f := fun _ => some true) (fun k => by simp only [provisoref02_Sub.l0]; rw [if_pos (by omega), if_pos (by omega), hrd, if_pos (by omega)]) (Ev.now _)
    · have e2 : decide (b - 16 ∈ line.drop i) = decide (b - 16 ∈ line.drop (i + 1)) := by
        rw [List.drop_eq_getElem_cons hlt]
        have e3 : ¬ (b - 16 = line[i]) := fun h => e h.symm
        by_cases h : b - 16 ∈ line.drop (i + 1)
        · rw [decide_eq_true h, decide_eq_true (List.mem_cons_of_mem _ h)]
        · rw [decide_eq_false h, decide_eq_false (fun hm => (List.mem_cons.1 hm).elim e3 h)]
      rw [e2]
      refine Ev.step (fun k => ?_) ih
      simp only [provisoref02_Sub.l0]
      rw [if_pos (by omega), if_pos (by omega), hrd, if_neg (by omega), show wrap64 ((i : Int) + 1) = ((i + 1 : Nat) : Int) by unfold wrap64; omega]
theorem ref_sub (l : Tbl) (hs : Sane l) (hg : Good l) (a b : Int) (ha : 0 ≤ a ∧ a ≤ 255) (hb : 0 ≤ b ∧ b ≤ 255) : Ev (fun k => provisoref02_Sub.f k l a b) (subB l a b) := by
  have j0 : Ev (fun k => provisoref02_Sub.j0 k l a b true) false := Ev.step (f := fun _ => some false) (fun k => by simp only [provisoref02_Sub.j0]; rfl) (Ev.now _)
  have j1 : Ev (fun k => provisoref02_Sub.j1 k l a b true) true := Ev.step (f := fun _ => some true) (fun k => by simp only [provisoref02_Sub.j1]; rfl) (Ev.now _)
  have j2 : Ev (fun k => provisoref02_Sub.j2 k l a b true) false := Ev.step (f := fun _ => some false) (fun k => by simp only [provisoref02_Sub.j2]; rfl) (Ev.now _)
  unfold subB
  cases va : validB l a with
  | false =>
    rw [if_neg (by simp)]
    exact Ev.congr (fun k => by unfold provisoref02_Sub.f; rw [ref_valid l a ha, va]; rfl) j0
  | true =>
    cases vb : validB l b with
    | false =>
      rw [if_neg (by simp)]
      exact Ev.congr (fun k => by unfold provisoref02_Sub.f; rw [ref_valid l a ha, va, ref_valid l b hb, vb]; rfl) j0
    | true =>
      rw [if_pos ⟨rfl, rfl⟩]
      refine Ev.congr (f := fun k => provisoref02_Sub.j0 k l a b false) (fun k => by unfold provisoref02_Sub.f; rw [ref_valid l a ha, va, ref_valid l b hb, vb]; rfl) ?_
      by_cases e1 : a = b
      · rw [if_pos e1]
        exact Ev.step (fun k => by simp only [provisoref02_Sub.j0]; rw [if_neg (by simp), if_pos e1]) j1
      · rw [if_neg e1]
        by_cases e2 : b = 0
        · rw [if_pos e2]
          exact Ev.step (fun k => by simp only [provisoref02_Sub.j0]; rw [if_neg (by simp), if_neg e1, if_pos e2]) j1
        · rw [if_neg e2]
          have ka := valid_cases ha va
          have kb := valid_cases hb vb
          -- behind the second test
          have jf : (¬ (a = 3 ∨ b = 5) ∨ ¬ (isRefB a = true ∧ isRefB b = true)) → Ev (fun k => provisoref02_Sub.j1 k l a b false) (if a = 3 ∨ b = 5 then (isRefB a && isRefB b) else if 0 ≤ classOf l a ∧ 0 ≤ classOf l b then decide (classOf l b ∈ climbL l (classOf l a)) else false) := by
            intro hn
            by_cases g : 16 ≤ a ∧ 16 ≤ b
            · have hn3 : ¬ (a = 3 ∨ b = 5) := by omega
              rw [if_neg hn3, if_pos (by omega)]
              refine Ev.step (f := fun k => provisoref02_Sub.j2 k l a b false) (fun k => by simp only [provisoref02_Sub.j1]; rw [if_neg (by simp), if_neg (by omega), decide_eq_false (by omega)]) ?_
              refine Ev.step (f := fun k => (provisoref02_Line.f k l (a - 16)).bind fun t => provisoref02_Sub.l0 k b t 0) (fun k => by simp only [provisoref02_Sub.j2]; rw [if_neg (by simp), show (a - 16) % 256 = a - 16 by omega]) ?_
              refine Ev.bind (f := fun k t => provisoref02_Sub.l0 k b t 0) (ref_line l l.length (Int.le_refl _) hs.2.1 hg.dec (a - 16) (by omega)) ?_
              have hll := climbL_length l (a - 16)
              have hsz := hs.size
              have h := sub_search b (by omega) (climbL l (a - 16)) (by omega) _ 0 rfl (by omega)
              rw [List.drop_zero] at h
              rw [show classOf l a = a - 16 by omega, show classOf l b = b - 16 by omega]
              exact h
            · have hv : (if a = 3 ∨ b = 5 then (isRefB a && isRefB b) else if 0 ≤ classOf l a ∧ 0 ≤ classOf l b then decide (classOf l b ∈ climbL l (classOf l a)) else false) = false := by
                by_cases h3 : a = 3 ∨ b = 5
                · rw [if_pos h3]
                  rcases hn with hn | hn
                  · exact absurd h3 hn
                  · cases h1 : isRefB a <;> cases h2 : isRefB b <;> simp_all
                · rw [if_neg h3, if_neg (by omega)]
              rw [hv]
              by_cases ga : a < 16
              · exact Ev.step (fun k => by simp only [provisoref02_Sub.j1]; rw [if_neg (by simp), if_pos ga]) j2
              · exact Ev.step (fun k => by simp only [provisoref02_Sub.j1]; rw [if_neg (by simp), if_neg ga, decide_eq_true (by omega)]) j2
          refine Ev.step (f := fun k => if a = 3 then (if isRefB b = true then provisoref02_Sub.j1 k l a b true else if isRefB a = true then provisoref02_Sub.j1 k l a b (b == 5) else provisoref02_Sub.j1 k l a b false) else (if isRefB a = true then provisoref02_Sub.j1 k l a b (b == 5) else provisoref02_Sub.j1 k l a b false)) (fun k => by simp only [provisoref02_Sub.j0, ref_isRef, Option.bind_some]; rw [if_neg (by simp), if_neg e1, if_neg e2]) ?_
          have r5 : b = 5 → isRefB b = true := fun h => by rw [h]; decide
          have r3 : a = 3 → isRefB a = true := fun h => by rw [h]; decide
          by_cases e3 : a = 3
          · by_cases rb : isRefB b = true
            · refine Ev.congr (fun k => by rw [if_pos e3, if_pos rb]) ?_
              rw [if_pos (.inl e3), r3 e3, rb]
              exact j1
            · have b5 : (b == 5) = false := by simp; exact fun h => rb (r5 h)
              refine Ev.congr (f := fun k => provisoref02_Sub.j1 k l a b false) (fun k => by rw [if_pos e3, if_neg rb, b5]; split <;> rfl) ?_
              exact jf (.inr (fun h => rb h.2))
          · refine Ev.congr (fun k => by rw [if_neg e3]) ?_
            by_cases ra : isRefB a = true
            · refine Ev.congr (fun k => by rw [if_pos ra]) ?_
              by_cases e5 : b = 5
              · rw [if_pos (.inr e5), ra, r5 e5, show (b == 5) = true by simp [e5]]
                exact j1
              · rw [show (b == 5) = false by simp [e5]]
                exact jf (.inl (by omega))
            · refine Ev.congr (fun k => by rw [if_neg ra]) ?_
              exact jf (.inr (fun h => ra h.1))

def allTo (l : Tbl) (n : Nat) : List Int := ((List.range n).map (fun i : Nat => (i : Int))).filter (validB l)
theorem all_tells (l : Tbl) : ∀ (d i : Nat), 256 - i = d → i ≤ 256 → Ev (fun k => provisoref02_all.l0 k l (allTo l i) (i : Int)) (allTo l 256)
  | 0, i, hd, hi => by
    have e : i = 256 := by omega
    rw [e]
    exact Ev.step (f := fun _ => some _) (fun k => by simp only [provisoref02_all.l0]; rw [if_neg (by decide)]) (Ev.now _)
  | d + 1, i, hd, hi => by
    have ih := all_tells l d (i + 1) (by omega) (by omega)
    have hln : (allTo l i).length ≤ i := by
      unfold allTo
      exact Nat.le_trans (List.length_filter_le _ _) (by simp)
    have e1 : allTo l (i + 1) = allTo l i ++ (if validB l (i : Int) = true then [(i : Int)] else []) := by
      unfold allTo
      rw [List.range_succ, List.map_append, List.filter_append]
      congr 1
      simp only [List.map_cons, List.map_nil, List.filter_cons, List.filter_nil]
    refine Ev.step (f := fun k => if validB l (i : Int) = true then provisoref02_all.l0 k l (allTo l i ++ [(i : Int)]) ((i + 1 : Nat) : Int) else provisoref02_all.l0 k l (allTo l i) ((i + 1 : Nat) : Int)) (fun k => ?_) ?_
    · simp only [provisoref02_all.l0]
      rw [if_pos (by omega), show (i : Int) % 256 = i by omega, ref_valid l i (by omega)]
      simp only [Option.bind_some]
      rw [if_pos (show (allTo l i).length < 140737488355328 by omega), show wrap64 ((i : Int) + 1) = ((i + 1 : Nat) : Int) by unfold wrap64; omega]
    · cases hv : validB l (i : Int) with
      | true =>
        rw [hv, if_pos rfl] at e1
        rw [e1] at ih
        exact ih
      | false =>
        rw [hv, if_neg (by simp), List.append_nil] at e1
        rw [e1] at ih
        exact ih
theorem ref_all (l : Tbl) : Ev (fun k => provisoref02_all.f k l) (allTo l 256) := all_tells l 256 0 (by omega) (by omega)
theorem mem_all (l : Tbl) (t : Int) : t ∈ allTo l 256 ↔ (0 ≤ t ∧ t ≤ 255) ∧ validB l t = true := by
  unfold allTo
  rw [List.mem_filter, List.mem_map]
  constructor
  · rintro ⟨⟨i, hi, rfl⟩, h2⟩
    have := List.mem_range.1 hi
    exact ⟨by omega, h2⟩
  · rintro ⟨h1, h2⟩
    exact ⟨⟨t.toNat, List.mem_range.2 (by omega), by omega⟩, h2⟩
def bestOf (l : Tbl) (a b : Int) (ts : List Int) (best : Int) : Int := ts.foldl (fun best t => if subB l a t = true then (if subB l b t = true then (if subB l t best = true then t else best) else best) else best) best
theorem merge_tells (l : Tbl) (hs : Sane l) (hg : Good l) (a b : Int) (ha : 0 ≤ a ∧ a ≤ 255) (hb : 0 ≤ b ∧ b ≤ 255) (ts : List Int) (hts : ∀ t ∈ ts, 0 ≤ t ∧ t ≤ 255) (hl : ts.length ≤ 256) : ∀ (d i : Nat) (best : Int), 0 ≤ best ∧ best ≤ 255 → ts.length - i = d → i ≤ ts.length → Ev (fun k => provisoref02_Merge.l0 k l a b best ts (i : Int)) (bestOf l a b (ts.drop i) best)
  | 0, i, best, hbe, hd, hi => by
    rw [List.drop_of_length_le (by omega)]
    exact Ev.step (f := fun _ => some best) (fun k => by simp only [provisoref02_Merge.l0]; rw [if_neg (by omega)]) (Ev.now _)
  | d + 1, i, best, hbe, hd, hi => by
    have hlt : i < ts.length := by omega
    have hrd : rd ts ((i : Nat) : Int) = ts[i] := by simp [rd, List.getD_eq_getElem?_getD, hlt]
    have ht := hts ts[i] (List.getElem_mem _)
    rw [List.drop_eq_getElem_cons hlt]
    have hn : ∀ b2 : Int, 0 ≤ b2 ∧ b2 ≤ 255 → Ev (fun k => provisoref02_Merge.l0 k l a b b2 ts (wrap64 ((i : Int) + 1))) (bestOf l a b (ts.drop (i + 1)) b2) := fun b2 h2 => by
      rw [show wrap64 ((i : Int) + 1) = ((i + 1 : Nat) : Int) by unfold wrap64; omega]
      exact merge_tells l hs hg a b ha hb ts hts hl d (i + 1) b2 h2 (by omega) (by omega)
    show Ev _ (bestOf l a b (ts.drop (i + 1)) (if subB l a ts[i] = true then (if subB l b ts[i] = true then (if subB l ts[i] best = true then ts[i] else best) else best) else best))
    refine Ev.step (f := fun k => ((provisoref02_Sub.f k l a ts[i]).bind fun t227 => (if t227 = true then ((provisoref02_Sub.f k l b ts[i]).bind fun t228 => (if t228 = true then ((provisoref02_Sub.f k l ts[i] best).bind fun t229 => (if t229 = true then (provisoref02_Merge.l0 k l a b ts[i] ts (wrap64 ((i : Int) + 1))) else (provisoref02_Merge.l0 k l a b best ts (wrap64 ((i : Int) + 1))))) else (provisoref02_Merge.l0 k l a b best ts (wrap64 ((i : Int) + 1))))) else (provisoref02_Merge.l0 k l a b best ts (wrap64 ((i : Int) + 1)))))) (fun k => by simp only [provisoref02_Merge.l0]; rw [if_pos (by omega), if_pos (by omega), hrd]) ?_
    refine Ev.bind (f := fun k t => if t = true then _ else _) (ref_sub l hs hg a ts[i] ha ht) ?_
    cases subB l a ts[i] with
    | false => exact hn best hbe
    | true =>
      refine Ev.bind (f := fun k t => if t = true then _ else _) (ref_sub l hs hg b ts[i] hb ht) ?_
      cases subB l b ts[i] with
      | false => exact hn best hbe
      | true =>
        refine Ev.bind (f := fun k t => if t = true then _ else _) (ref_sub l hs hg ts[i] best ht hbe) ?_
        cases subB l ts[i] best with
        | false => exact hn best hbe
        | true => exact hn ts[i] ht
theorem best_is (l : Tbl) (hg : Good l) (a b : Int) (ha : 0 ≤ a ∧ a ≤ 255) (hb : 0 ≤ b ∧ b ≤ 255) (va : validB l a = true) (vb : validB l b = true) : ∀ (ts : List Int) (best : Int), (0 ≤ best ∧ best ≤ 255) → (∀ t ∈ ts, 0 ≤ t ∧ t ≤ 255) → subB l (mergeB l a b) best = true → (mergeB l a b ∈ ts ∨ best = mergeB l a b) → bestOf l a b ts best = mergeB l a b
  | [], best, _, _, _, h => by
    rcases h with h | h
    · cases h
    · exact h
  | t :: ts, best, hbe, hts, hsub, h => by
    obtain ⟨m1, m2, m3, m4, m5⟩ := merge_least hg ha hb va vb
    have ht := hts t List.mem_cons_self
    have hr := fun x hx => hts x (List.mem_cons_of_mem _ hx)
    show bestOf l a b ts (if subB l a t = true then (if subB l b t = true then (if subB l t best = true then t else best) else best) else best) = _
    by_cases e : t = mergeB l a b
    · rw [e, if_pos m3, if_pos m4, if_pos hsub]
      exact best_is l hg a b ha hb va vb ts _ m1 hr (sub_refl l _ m2) (.inr rfl)
    · have hrest : mergeB l a b ∈ ts ∨ best = mergeB l a b := by
        rcases h with h | h
        · rcases List.mem_cons.1 h with h | h
          · exact absurd h.symm e
          · exact .inl h
        · exact .inr h
      split
      · split
        · split
          · rename_i h1 h2 h3
            have h4 := m5 t ht.1 ht.2 h1 h2
            refine best_is l hg a b ha hb va vb ts t ht hr h4 ?_
            rcases hrest with h5 | h5
            · exact .inl h5
            · rw [h5] at h3
              exact absurd (sub_antisymm hg ht m1 h3 h4) e
          · exact best_is l hg a b ha hb va vb ts best hbe hr hsub hrest
        · exact best_is l hg a b ha hb va vb ts best hbe hr hsub hrest
      · exact best_is l hg a b ha hb va vb ts best hbe hr hsub hrest
theorem best_none (l : Tbl) (a b : Int) (h : ¬ (validB l a = true ∧ validB l b = true)) : ∀ (ts : List Int) (best : Int), bestOf l a b ts best = best
  | [], best => rfl
  | t :: ts, best => by
    show bestOf l a b ts (if subB l a t = true then (if subB l b t = true then (if subB l t best = true then t else best) else best) else best) = _
    have : ¬ (subB l a t = true ∧ subB l b t = true) := fun h2 => h ⟨((sub_iff l a t).1 h2.1).1, ((sub_iff l b t).1 h2.2).1⟩
    by_cases h1 : subB l a t = true
    · rw [if_pos h1, if_neg (fun h2 => this ⟨h1, h2⟩)]
      exact best_none l a b h ts best
    · rw [if_neg h1]
      exact best_none l a b h ts best
theorem ref_merge (l : Tbl) (hs : Sane l) (hg : Good l) (a b : Int) (ha : 0 ≤ a ∧ a ≤ 255) (hb : 0 ≤ b ∧ b ≤ 255) : Ev (fun k => provisoref02_Merge.f k l a b) (mergeB l a b) := by
  have hl : (allTo l 256).length ≤ 256 := by
    unfold allTo
    exact Nat.le_trans (List.length_filter_le _ _) (by simp)
  have h := merge_tells l hs hg a b ha hb (allTo l 256) (fun t ht => ((mem_all l t).1 ht).1) hl _ 0 0 (by omega) rfl (by omega)
  rw [List.drop_zero] at h
  have e : bestOf l a b (allTo l 256) 0 = mergeB l a b := by
    by_cases hv : validB l a = true ∧ validB l b = true
    · obtain ⟨m1, m2, _⟩ := merge_least hg ha hb hv.1 hv.2
      exact best_is l hg a b ha hb hv.1 hv.2 _ 0 (by omega) (fun t ht => ((mem_all l t).1 ht).1) (sub_top l _ m2) (.inl ((mem_all l _).2 ⟨m1, m2⟩))
    · rw [best_none l a b hv]
      unfold mergeB
      rw [if_neg hv]
  rw [e] at h
  exact Ev.congr (fun k => rfl) (Ev.bind (f := fun k t => provisoref02_Merge.l0 k l a b 0 t 0) (ref_all l) h)

theorem rank_ref_tells (l : Tbl) (hs : Sane l) (hg : Good l) : ∀ (d : Nat) (i n : Int), 0 ≤ i → (l.length : Int) - i = d → 0 ≤ n → n ≤ 2932031007321 + 2 → Ev (fun k => provisoref02_Rank.l0 k l n i) (deepFrom l d i n + 1)
  | 0, i, n, h0, hd, hn, hn2 => by
    unfold deepFrom
    exact Ev.step (f := fun _ => some _) (fun k => by simp only [provisoref02_Rank.l0]; rw [if_neg (by omega), show wrap64 (1 + n) = n + 1 by unfold wrap64; omega]) (Ev.now _)
  | d + 1, i, n, h0, hd, hn, hn2 => by
    have hdl := deepOf_le l i
    have hsz := hs.size
    have hm := mx_is n (deepOf l i)
    have ih := rank_ref_tells l hs hg d (i + 1) (mx n (deepOf l i)) (by omega) (by omega) (by omega) (by omega)
    have hw : wrap64 (1 + ((climbL l i).length : Int)) = deepOf l i := by unfold deepOf wrap64; unfold deepOf at hdl; omega
    unfold deepFrom
    refine Ev.step (fun k => by simp only [provisoref02_Rank.l0]; rw [if_pos (by omega)]) (Ev.bind (f := fun k t => if (wrap64 (1 + (t.length : Int))) > n then _ else _) (ref_line l l.length (Int.le_refl _) hs.2.1 hg.dec i (by omega)) ?_)
    refine Ev.congr (fun k => ?_) ih
    rw [hw, show wrap64 (i + 1) = i + 1 by unfold wrap64; omega]
    unfold mx
    by_cases h : deepOf l i > n
    · rw [if_pos h, if_pos (show n < deepOf l i from h)]
    · rw [if_neg h, if_neg (show ¬ n < deepOf l i from h)]
theorem ref_rank (l : Tbl) (hs : Sane l) (hg : Good l) (a : Int) (ha : 0 ≤ a ∧ a ≤ 255) : Ev (fun k => provisoref02_Rank.f k l a) (rankB l a) := by
  have h3 := rank_ref_tells l hs hg l.length 0 2 (by omega) (by omega) (by omega) (by omega)
  have hj1 : ∀ x : Bool, Ev (fun k => provisoref02_Rank.j1 k l a x) (if x = true then 1 else if a = 4 then 2 else if a = 3 then deepFrom l l.length 0 2 + 1 else 0) := by
    intro x
    cases x with
    | true => exact Ev.step (f := fun _ => some 1) (fun k => by simp only [provisoref02_Rank.j1]; rfl) (Ev.now _)
    | false =>
      by_cases e4 : a = 4
      · exact Ev.step (f := fun _ => some 2) (fun k => by simp only [provisoref02_Rank.j1]; rw [if_neg (by simp), if_pos e4]) (by rw [if_neg (by simp), if_pos e4]; exact Ev.now _)
      · by_cases e3 : a = 3
        · rw [if_neg (by simp), if_neg e4, if_pos e3]
          exact Ev.step (fun k => by simp only [provisoref02_Rank.j1]; rw [if_neg (by simp), if_neg e4, if_pos e3]) h3
        · rw [if_neg (by simp), if_neg e4, if_neg e3]
          exact Ev.step (f := fun _ => some 0) (fun k => by simp only [provisoref02_Rank.j1]; rw [if_neg (by simp), if_neg e4, if_neg e3]) (Ev.now _)
  have hj0 : Ev (fun k => provisoref02_Rank.j0 k l a false) (if a = 1 ∨ a = 2 ∨ a = 5 then 1 else if a = 4 then 2 else if a = 3 then deepFrom l l.length 0 2 + 1 else 0) := by
    by_cases e1 : a = 1
    · rw [if_pos (.inl e1)]
      exact Ev.step (fun k => by simp only [provisoref02_Rank.j0]; rw [if_neg (by simp), if_pos e1, show (a == 1) = true by simp [e1]]) (hj1 true)
    · by_cases e2 : a = 2
      · rw [if_pos (.inr (.inl e2))]
        exact Ev.step (fun k => by simp only [provisoref02_Rank.j0]; rw [if_neg (by simp), if_neg e1, if_pos e2, show (a == 2) = true by simp [e2]]) (hj1 true)
      · by_cases e5 : a = 5
        · rw [if_pos (.inr (.inr e5))]
          exact Ev.step (fun k => by simp only [provisoref02_Rank.j0]; rw [if_neg (by simp), if_neg e1, if_neg e2, show (a == 5) = true by simp [e5]]) (hj1 true)
        · rw [if_neg (by omega)]
          exact Ev.step (fun k => by simp only [provisoref02_Rank.j0]; rw [if_neg (by simp), if_neg e1, if_neg e2, show (a == 5) = false by simp [e5]]) (hj1 false)
  by_cases e16 : a ≥ 16
  · refine Ev.congr (f := fun k => provisoref02_Rank.j0 k l a (validB l a)) (fun k => by unfold provisoref02_Rank.f; rw [if_pos e16, ref_valid l a ha]; rfl) ?_
    unfold rankB
    cases hv : validB l a with
    | false =>
      rw [if_neg (by simp)]
      rw [if_neg (by omega), if_neg (by omega), if_neg (by omega)] at hj0
      exact hj0
    | true =>
      have ka := valid_cases ha hv
      have hdl := deepOf_le l (classOf l a)
      have hsz := hs.size
      rw [if_pos ⟨rfl, by omega⟩, if_neg (by omega), if_neg (by omega), if_pos e16]
      refine Ev.step (fun k => by simp only [provisoref02_Rank.j0]; rw [if_pos trivial, show (a - 16) % 256 = a - 16 by omega]) (Ev.bind (f := fun k t => some (wrap64 (1 + (t.length : Int)))) (ref_line l l.length (Int.le_refl _) hs.2.1 hg.dec (a - 16) (by omega)) ?_)
      rw [show a - 16 = classOf l a by omega, show wrap64 (1 + ((climbL l (classOf l a)).length : Int)) = deepOf l (classOf l a) by unfold deepOf wrap64; unfold deepOf at hdl; omega]
      exact Ev.now _
  · refine Ev.congr (f := fun k => provisoref02_Rank.j0 k l a false) (fun k => by unfold provisoref02_Rank.f; rw [if_neg e16]) ?_
    have : rankB l a = (if a = 1 ∨ a = 2 ∨ a = 5 then 1 else if a = 4 then 2 else if a = 3 then deepFrom l l.length 0 2 + 1 else 0) := by
      unfold rankB validB
      by_cases h5 : a ≤ 5
      · by_cases h0 : a = 0
        · simp [h0]
        · by_cases h4 : a = 4
          · simp [h4]
          · by_cases h3 : a = 3
            · simp [h3]
            · rw [if_pos ⟨by simp [h5], h0⟩, if_neg h4, if_neg h3, if_neg e16, if_pos (by omega)]
      · rw [if_neg (by simp; omega), if_neg (by omega), if_neg (by omega), if_neg (by omega)]
    rw [this]
    exact hj0
theorem ref_print (l : Tbl) (a : Int) (ha : 0 ≤ a ∧ a ≤ 255) : provisoref02_Print.f l a = some (printB l a) := by
  have hw : ∀ a : Int, 0 ≤ a → a ≤ 5 → provisoref02_word.f a = some (words6.getD a.toNat ByteArray.empty) := by
    intro a h0 h5
    have : a = 0 ∨ a = 1 ∨ a = 2 ∨ a = 3 ∨ a = 4 ∨ a = 5 := by omega
    rcases this with rfl | rfl | rfl | rfl | rfl | rfl <;> rfl
  have hw2 : ∀ a : Int, 5 < a → provisoref02_word.f a = some ⟨#[]⟩ := by
    intro a h
    unfold provisoref02_word.f
    rw [if_neg (by omega), if_neg (by omega), if_neg (by omega), if_neg (by omega), if_neg (by omega), if_neg (by omega)]
  unfold provisoref02_Print.f printB
  by_cases h5 : a ≤ 5
  · rw [if_neg (by omega), if_pos h5, hw a ha.1 h5]
    rfl
  · rw [if_neg h5, ref_valid l a ha]
    by_cases h16 : a ≥ 16
    · rw [if_pos h16, show (a - 16) % 256 = a - 16 by omega]
      simp only [Option.bind_some]
      cases hv : validB l a with
      | false =>
        rw [if_neg (by simp), if_neg (by simp), hw2 a (by omega)]
        rfl
      | true =>
        have ka := valid_cases ha hv
        rw [if_pos rfl, if_pos rfl, if_pos (by omega), if_pos (by omega)]
        rfl
    · have hv : validB l a = false := by unfold validB; simp; omega
      rw [if_neg h16, hw2 a (by omega), hv]
      rfl
end Go.Proofs.Ytghgloepameloaa.P

end

section
namespace Go.Proofs.Ytghgloepameloaa.Pure
open Go.RowKit Go.Proofs.Ytghgloepameloaa.P Go.Proofs.YtghgloepameloaaW.PrintWords
set_option linter.unusedSimpArgs false
theorem TypesAsks : provisolaw02_TypesAsks.Pure := by
  intro l a b hl ha hb
  have ha := u8_of ha
  have hb := u8_of hb
  have hs : Sane l := hl
  refine Ev.rounds (r := true) ?_
  refine Ev.congr (f := fun k => (provisoref02_Made.f k l).bind fun t271 => (if t271 = true then ((provisoplain_Classes.f k l).bind fun t272 => ((types_Valid.f t272 a).bind fun t275 => ((provisoref02_Valid.f l a).bind fun t276 => (if (t275 == t276) = true then ((types_Rank.f k t272 a).bind fun t277 => ((provisoref02_Rank.f k l a).bind fun t278 => (provisolaw02_TypesAsks.j0 k l a b t272 (t277 == t278)))) else (provisolaw02_TypesAsks.j0 k l a b t272 false))))) else (some true))) (fun k => by unfold provisolaw02_TypesAsks.f; rw [isRef_is, ref_isRef]; simp) ?_
  refine Ev.bind (f := fun k t271 => (if t271 = true then ((provisoplain_Classes.f k l).bind fun t272 => ((types_Valid.f t272 a).bind fun t275 => ((provisoref02_Valid.f l a).bind fun t276 => (if (t275 == t276) = true then ((types_Rank.f k t272 a).bind fun t277 => ((provisoref02_Rank.f k l a).bind fun t278 => (provisolaw02_TypesAsks.j0 k l a b t272 (t277 == t278)))) else (provisolaw02_TypesAsks.j0 k l a b t272 false))))) else (some true))) (ref_made l hs) ?_
  cases hm : madeB l with
  | false => exact Ev.now _
  | true =>
    have hg := (madeB_iff l).mp hm
    refine Ev.bind (f := fun k t272 => ((types_Valid.f t272 a).bind fun t275 => ((provisoref02_Valid.f l a).bind fun t276 => (if (t275 == t276) = true then ((types_Rank.f k t272 a).bind fun t277 => ((provisoref02_Rank.f k l a).bind fun t278 => (provisolaw02_TypesAsks.j0 k l a b t272 (t277 == t278)))) else (provisolaw02_TypesAsks.j0 k l a b t272 false))))) (impl_classes l hs) ?_
    have hj : Ev (fun k => provisolaw02_TypesAsks.j0 k l a b l true) true := by
      refine Ev.step (f := fun k => (types_Sub.f k l a b).bind fun t279 => ((provisoref02_Sub.f k l a b).bind fun t280 => (if (t279 == t280) = true then ((types_Merge.f k l a b).bind fun t281 => ((provisoref02_Merge.f k l a b).bind fun t282 => (if t281 = t282 then ((types_Print.f l a).bind fun t283 => ((provisoref02_Print.f l a).bind fun t284 => (if t283.toList = t284.toList then ((provisoplain_SameClasses.f k l l).bind fun t285 => (some t285)) else (some false)))) else (some false)))) else (some false)))) (fun k => by simp only [provisolaw02_TypesAsks.j0, if_true]) ?_
      refine Ev.bind (f := fun k t279 => ((provisoref02_Sub.f k l a b).bind fun t280 => (if (t279 == t280) = true then ((types_Merge.f k l a b).bind fun t281 => ((provisoref02_Merge.f k l a b).bind fun t282 => (if t281 = t282 then ((types_Print.f l a).bind fun t283 => ((provisoref02_Print.f l a).bind fun t284 => (if t283.toList = t284.toList then ((provisoplain_SameClasses.f k l l).bind fun t285 => (some t285)) else (some false)))) else (some false)))) else (some false)))) (Ev.of (k := 3) (types_Sub.mono l a b) (impl_sub l a b ha hb 0)) ?_
      refine Ev.bind (f := fun k t280 => (if (subB l a b == t280) = true then ((types_Merge.f k l a b).bind fun t281 => ((provisoref02_Merge.f k l a b).bind fun t282 => (if t281 = t282 then ((types_Print.f l a).bind fun t283 => ((provisoref02_Print.f l a).bind fun t284 => (if t283.toList = t284.toList then ((provisoplain_SameClasses.f k l l).bind fun t285 => (some t285)) else (some false)))) else (some false)))) else (some false))) (ref_sub l hs hg a b ha hb) ?_
      refine Ev.congr (f := fun k => ((types_Merge.f k l a b).bind fun t281 => ((provisoref02_Merge.f k l a b).bind fun t282 => (if t281 = t282 then ((types_Print.f l a).bind fun t283 => ((provisoref02_Print.f l a).bind fun t284 => (if t283.toList = t284.toList then ((provisoplain_SameClasses.f k l l).bind fun t285 => (some t285)) else (some false)))) else (some false))))) (fun k => by rw [if_pos (by simp)]) ?_
      refine Ev.bind (f := fun k t281 => ((provisoref02_Merge.f k l a b).bind fun t282 => (if t281 = t282 then ((types_Print.f l a).bind fun t283 => ((provisoref02_Print.f l a).bind fun t284 => (if t283.toList = t284.toList then ((provisoplain_SameClasses.f k l l).bind fun t285 => (some t285)) else (some false)))) else (some false)))) (Ev.of (k := 3) (types_Merge.mono l a b) (impl_merge l a b ha hb 0)) ?_
      refine Ev.bind (f := fun k t282 => (if mergeB l a b = t282 then ((types_Print.f l a).bind fun t283 => ((provisoref02_Print.f l a).bind fun t284 => (if t283.toList = t284.toList then ((provisoplain_SameClasses.f k l l).bind fun t285 => (some t285)) else (some false)))) else (some false))) (ref_merge l hs hg a b ha hb) ?_
      refine Ev.congr (f := fun k => (provisoplain_SameClasses.f k l l).bind fun t285 => (some t285)) (fun k => by rw [if_pos rfl, impl_print l a ha, ref_print l a ha]; simp) ?_
      exact Ev.bind (f := fun k t285 => some t285) (impl_same_classes l hs) (Ev.now _)
    refine Ev.congr (f := fun k => (types_Rank.f k l a).bind fun t277 => ((provisoref02_Rank.f k l a).bind fun t278 => (provisolaw02_TypesAsks.j0 k l a b l (t277 == t278)))) (fun k => by rw [impl_valid l a ha, ref_valid l a ha]; simp) ?_
    refine Ev.bind (f := fun k t277 => ((provisoref02_Rank.f k l a).bind fun t278 => (provisolaw02_TypesAsks.j0 k l a b l (t277 == t278)))) (Ev.of (types_Rank.mono l a) (impl_rank l hs.size a ha 0)) ?_
    refine Ev.bind (f := fun k t278 => (provisolaw02_TypesAsks.j0 k l a b l (rankB l a == t278))) (ref_rank l hs hg a ha) ?_
    rw [show (rankB l a == rankB l a) = true by simp]
    exact hj
end Go.Proofs.Ytghgloepameloaa.Pure

end

section
namespace Go.Proofs.Ytghgloepameloaa.typesAsks
open Go.ChangeShapes Go.WideShapes Go.ChangeAt Go.RowKit Go.Proofs.YtghgloepameloaaW.PrintWords Go.Proofs.Ytghgloepameloaa.Sees Go.Proofs.Ytghgloepameloaa.P
open Go.ChangeMaps (open_string shut_string)
set_option linter.unusedVariables false
set_option linter.unusedSimpArgs false
theorem own : ownKnob Try.prog.godebug = none := by kernel_rfl
theorem laidOut : laidOutB Try.prog = true := by kernel_rfl
set_option maxRecDepth 100000 in
theorem lifted (os : Os) (started : os.Started) (H : Type) (enc : TypeId × Value → H) :
    ReturnsInHanded {} Try.checked os 9 .any (Rows.typesAsksSpec.pre6 enc Try.prog Try.f9 Rows.typesAsksRow.domain false) (Rows.typesAsksSpec.post enc Try.prog Try.f9 false true false false) := by
  refine returnsInHanded_of_change_sized (C := Try.checked) own started (by kernel_rfl) Try.func9
    (ChangeSpec.witness6 (enc := enc) (C := Try.checked) false ⟨#[], #[.slice none 0 0, .int .u8 0, .int .u8 0], []⟩ 8 (by kernel_rfl) (by kernel_rfl) (by kernel_rfl) (by kernel_rfl)) ?_
  intro W base args ds gs before hval0 hW hcnd hsz0 _
  have hsz : (DataW.weightsEach Try.prog (Try.f9.params.toList ++ Rows.typesAsksSpec.plain.varTypes Try.prog) (ds ++ gs)).all (· ≤ reachBytes) = true := hsz0
  have hval : ∀ (j : Nat) t v, Try.f9.params[j]? = some t → args[j]? = some v → Value.okWide Try.prog W .any base t v := hval0
  have hW' := hW
  obtain ⟨p, q, hA0, hV, rfl, hfz, hnd⟩ := hW
  have hA : DataW.TrodAll enc Try.prog W 0 (fun _ => true) true Try.f9.params.toList args.toList ds p := hA0
  rw [Try.params9] at hA hval hsz
  obtain ⟨v0, vs0, d0, ds0, p0, q0, hargs, rfl, rfl, h0, r0⟩ := trodAll_cons hA
  obtain ⟨v1, vs1, d1, ds1, p1, q1, rfl, rfl, rfl, h1, r1⟩ := trodAll_cons r0
  obtain ⟨v2, vs2, d2, ds2, p2, q2, rfl, rfl, rfl, h2, r2⟩ := trodAll_cons r1
  obtain ⟨rfl, rfl, rfl⟩ := trodAll_nil r2
  obtain rfl : args = #[v0, v1, v2] := by cases args; simp_all
  obtain ⟨rfl, rfl⟩ := trodVars_none hV
  have k0 := h0
  have lt0 : ∀ x ∈ p0, x.block < W.heap.size := by obtain ⟨m, hm⟩ := k0; exact DataW.trod_lt m _ _ _ hm
  obtain ⟨y0, hy0, oy0⟩ := see_arg (j := 0) (t := 22) (sees_slice (B := 48) Try.underlying22 (by kernel_rfl) (by kernel_rfl) sees38) hsz rfl rfl h0
  obtain ⟨a0, len0, cap0, rfl⟩ := okWide_slice Try.underlying22 (hval 0 22 v0 rfl rfl)
  obtain ⟨rfl, hc0, hr0⟩ := see_slice rfl hy0
  have k1 := h1
  have lt1 : ∀ x ∈ p1, x.block < W.heap.size := by obtain ⟨m, hm⟩ := k1; exact DataW.trod_lt m _ _ _ hm
  obtain ⟨y1, hy1, oy1⟩ := see_arg (j := 1) (t := 23) (sees_int Try.underlying23) hsz rfl rfl h1
  obtain ⟨z1, rfl, rfl, rfl, _⟩ := open_int Try.underlying23 (hval 1 23 v1 rfl rfl) h1
  obtain rfl : z1 = y1 := by have e_ := hy1; simp [Kd.int, Kd.bool, Kd.string, Kd.scalar, Value.cells] at e_; exact e_
  have k2 := h2
  have lt2 : ∀ x ∈ p2, x.block < W.heap.size := by obtain ⟨m, hm⟩ := k2; exact DataW.trod_lt m _ _ _ hm
  obtain ⟨y2, hy2, oy2⟩ := see_arg (j := 2) (t := 23) (sees_int Try.underlying23) hsz rfl rfl h2
  obtain ⟨z2, rfl, rfl, rfl, _⟩ := open_int Try.underlying23 (hval 2 23 v2 rfl rfl) h2
  obtain rfl : z2 = y2 := by have e_ := hy2; simp [Kd.int, Kd.bool, Kd.string, Kd.scalar, Value.cells] at e_; exact e_
  clear hA0 hval0 hsz0 hsz
  obtain ⟨k, hk⟩ := Pure.TypesAsks y0 z1 z2 oy0 oy1 oy2
  refine (provisolaw02_TypesAsks.calls k _ _ y0 z1 z2 true W hr0 hc0 hk).mono ?_
  rintro e W' ⟨rfl, bel0⟩
  have bel : Below W.heap.size W W' := bel0
  exact ⟨_, rfl, _, _, _, [], _, [], hW', trodAll_mk1 (shut_bool Try.underlying4 _), (trodAll_cons_mk (Below.trod laidOut (by kernel_rfl) (of_decide_eq_true (by kernel_rfl)) k0 bel lt0) (trodAll_cons_mk (Below.trod laidOut (by kernel_rfl) (of_decide_eq_true (by kernel_rfl)) k1 bel lt1) (trodAll_cons_mk (Below.trod laidOut (by kernel_rfl) (of_decide_eq_true (by kernel_rfl)) k2 bel lt2) trodAll_mk0))), rfl, bel.frame _, fun h => by cases h⟩
theorem over : Rows.typesAsksRow.holds Try.pinned (OpenSpec.ofChange Rows.typesAsksSpec) :=
  OpenClaim.holds_of_wide 9 Try.f9 rfl rfl rfl rfl rfl rfl rfl ⟨rfl, rfl, rfl, rfl, rfl⟩ rfl rfl rfl rfl rfl (by kernel_rfl) Try.func9 (by kernel_rfl)
    (of_decide_eq_true (by kernel_rfl)) (by unfold Func.isWrapper; first | (rw [if_pos (by decide +kernel)]; kernel_rfl) | (rw [if_neg (by decide +kernel)]; exact ⟨rfl, rfl⟩))
    (fun os started H enc _ => lifted os started H enc)
theorem proved : Rows.TypesAsksSaid := over
end Go.Proofs.Ytghgloepameloaa.typesAsks
namespace Go.Proofs.Ytghgloepameloaa
theorem typesAsks_holds : Rows.TypesAsksSaid := typesAsks.proved
end Go.Proofs.Ytghgloepameloaa

end

