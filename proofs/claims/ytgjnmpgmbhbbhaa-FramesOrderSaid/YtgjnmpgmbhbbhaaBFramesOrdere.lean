/- Proved: the law FramesOrder holds for every input that the row lets in. No condition of ours. -/
import Derived.Test.YtgjnmpgmbhbbhaaBFramesOrderd
import Derived.Test.YtgjnmpgmbhbbhaaRows
import Derived.ShutString
import Derived.ChangeOld
import Derived.Lib.SmallJoins
section
namespace Go.Proofs.Ytgjnmpgmbhbbhaa.P
open Go.RowKit Go.Proofs.YtgjnmpgmbhbbhaaW.PrintWords Go.Proofs.YtgjnmpgmbhbbhaaW.PrintLast Go.Proofs.YtgjnmpgmbhbbhaaW.PrintMore
attribute [local go_sem] max2_int min2_int max_two min_two max_three min_three max_four min_four   -- for this text's walks alone
set_option linter.unusedVariables false
set_option linter.unusedSimpArgs false

set_option maxHeartbeats 8000000 in
set_option maxRecDepth 100000 in
theorem types_Sub.calls (k : Nat) (A0 : Option Addr) (c0 : Nat) (l0 : List (S59)) (a1 : Int) (a2 : Int) (r : Bool) (w : World) (hr0 : Kd.C k59 w A0 l0.length l0) (hc0 : l0.length ≤ c0) (h : types_Sub.f k l0 a1 a2 = some r) :
    Calls Try.prog 50 #[.slice A0 l0.length c0, .int .u8 a1, .int .u8 a2] w fun e w' => e = .returned (.bool r) ∧ Below w.heap.size w w' := by
  have HR0 := Aside0.mk hr0
  have HC0 := Aside0.mk hc0
  clear hr0 hc0
  have HB := Aside0.mk (Below.refl w.heap.size w)
  have H : ((types_Valid.f l0 a1).bind fun t158 => (if t158 = true then ((types_Valid.f l0 a2).bind fun t159 => (types_Sub.j0 k l0 a1 a2 (!t159))) else (types_Sub.j0 k l0 a1 a2 true))) = some r := h
  clear h
  have HC4 := Aside0.mk H
  clear H
  go_enter Try.func50, Try.ntmps50
  go_upto_region 1 with (fail)
  go_cut [18] (fun v18 wc => ∃ (kq : Nat) (x18_3 : Bool), v18 = .bool x18_3 ∧ Aside0 (types_Sub.j0 kq l0 a1 a2 x18_3 = some r) ∧ Aside0 (kq ≤ k) ∧ Aside0 (Below w.heap.size w wc))
  case first =>
    have H := HC4.out
    clear HC4
    replace H := Option.bind_eq_some_iff.mp H
    obtain ⟨t158, A50, H⟩ := H
    replace H : (if t158 = true then ((types_Valid.f l0 a2).bind fun t159 => (types_Sub.j0 k l0 a1 a2 (!t159))) else (types_Sub.j0 k l0 a1 a2 true)) = some r := H
    have A5 := Aside0.mk A50
    clear A50
    by_cases c6 : t158 = true
    · subst c6
      have H1 : ((types_Valid.f l0 a2).bind fun t159 => (types_Sub.j0 k l0 a1 a2 (!t159))) = some r := by rw [if_pos rfl] at H; exact H
      clear H
      have H := H1
      clear H1
      replace H := Option.bind_eq_some_iff.mp H
      obtain ⟨t159, A70, H⟩ := H
      replace H : (types_Sub.j0 k l0 a1 a2 (!t159)) = some r := H
      have A7 := Aside0.mk A70
      clear A70
      have H' := Aside0.mk H
      clear H
      go_wp2_with (first | ((with_reducible refine gate_callee (f := 42) rfl ?_); refine goesL_ (some 11) rfl rfl Try.func42 (by kernel_rfl) rfl #[.slice A0 l0.length c0, .int .u8 a1] rfl (by (try simp only [List.map_toArray, List.map_cons, List.map_nil]); first | done | rfl | (simp only [List.length_drop, List.length_take]; rfl)) ?_; (with_reducible refine (types_Valid.calls _ _ l0 a1 true _ ?side1 ?side2 A5.out).mono ?_); (case side1 => repeat (first | exact (Kd.C_below HR0.out HB.out) | (with_reducible refine Kd.C_alloc ?_ _) | (with_reducible refine Kd.C_drewN ?_ _) | (with_reducible refine Kd.C_drew ?_))); (case side2 => exact HC0.out); rintro e w' ⟨rfl, ⟨nd, rfl⟩⟩; refine ⟨_, rfl, ?_⟩) | (go_at_call 42; (with_reducible refine (types_Valid.calls _ _ l0 a2 t159 _ ?side1 ?side2 A7.out).mono ?_); (case side1 => repeat (first | exact (Kd.C_below HR0.out (by repeat (first | (with_reducible first | exact HB.out | apply below_alloc | apply pw_below_drewN | apply below_drew1) | exact HB.out))) | (with_reducible refine Kd.C_alloc ?_ _) | (with_reducible refine Kd.C_drewN ?_ _) | (with_reducible refine Kd.C_drew ?_))); (case side2 => exact HC0.out); rintro e w' ⟨rfl, ⟨nd, rfl⟩⟩))
      go_meet
      case rel => exact ⟨_, (!t159), (by first | rfl | (simp; done) | (simp [*]; done)), H', ⟨by first | omega | exact Nat.le_refl _⟩, ⟨by repeat (first | (with_reducible first | exact HB.out | apply below_alloc | apply pw_below_drewN | apply below_drew1) | exact HB.out)⟩⟩
    · replace c6 := Bool.eq_false_iff.mpr c6
      subst c6
      have H1 : (types_Sub.j0 k l0 a1 a2 true) = some r := by rw [if_neg (show ¬ (false = true) by decide)] at H; exact H
      clear H
      have H := H1
      clear H1
      have H' := Aside0.mk H
      clear H
      go_wp2_with (first | ((with_reducible refine gate_callee (f := 42) rfl ?_); refine goesL_ (some 11) rfl rfl Try.func42 (by kernel_rfl) rfl #[.slice A0 l0.length c0, .int .u8 a1] rfl (by (try simp only [List.map_toArray, List.map_cons, List.map_nil]); first | done | rfl | (simp only [List.length_drop, List.length_take]; rfl)) ?_; (with_reducible refine (types_Valid.calls _ _ l0 a1 false _ ?side1 ?side2 A5.out).mono ?_); (case side1 => repeat (first | exact (Kd.C_below HR0.out HB.out) | (with_reducible refine Kd.C_alloc ?_ _) | (with_reducible refine Kd.C_drewN ?_ _) | (with_reducible refine Kd.C_drew ?_))); (case side2 => exact HC0.out); rintro e w' ⟨rfl, ⟨nd, rfl⟩⟩; refine ⟨_, rfl, ?_⟩))
      go_meet
      case rel => exact ⟨_, (true), (by first | rfl | (simp; done) | (simp [*]; done)), H', ⟨by first | omega | exact Nat.le_refl _⟩, ⟨by repeat (first | (with_reducible first | exact HB.out | apply below_alloc | apply pw_below_drewN | apply below_drew1) | exact HB.out)⟩⟩
  case rest =>
    clear HC4
    try clear p2
    try clear c4
    try clear c5
    try clear c6
    obtain ⟨kq, x18_3, rfl, HA, HJ3, HB⟩ := hcut
    cases kq with
    | zero => exact absurd HA.out (by simp [types_Sub.j0])
    | succ kj3 =>
      have H := HA.out
      clear HA
      simp only [types_Sub.j0] at H
      by_cases c8 : x18_3 = true
      · subst c8
        have H1 : (some false) = some r := by rw [if_pos rfl] at H; exact H
        clear H
        have H := H1
        clear H1
        obtain rfl := Option.some.inj H
        go_wp2
        go_ret
        exact ⟨by first | rfl | (simp [errW_none, errW_some] <;> rfl) | (simp [*, errW_none, errW_some] <;> rfl), by repeat (first | (with_reducible first | exact HB.out | apply below_alloc | apply pw_below_drewN | apply below_drew1) | exact HB.out)⟩
      · replace c8 := Bool.eq_false_iff.mpr c8
        subst c8
        have H1 : (if a1 = a2 then (types_Sub.j1 kj3 l0 a1 a2 true) else (types_Sub.j1 kj3 l0 a1 a2 (a2 == 0))) = some r := by rw [if_neg (show ¬ (false = true) by decide)] at H; exact H
        clear H
        have H := H1
        clear H1
        have HC9 := Aside0.mk H
        clear H
        go_upto_region 3 with (fail)
        go_cut [19] (fun v19 wc => ∃ (kq : Nat) (x19_8 : Bool), v19 = .bool x19_8 ∧ Aside0 (types_Sub.j1 kq l0 a1 a2 x19_8 = some r) ∧ Aside0 (kq ≤ kj3) ∧ Aside0 (Below w.heap.size w wc))
        case first =>
          have H := HC9.out
          clear HC9
          by_cases c10 : a1 = a2
          · rw [if_pos c10] at H
            have c10b0 : (a1 == a2) = true := beq_iff_eq.mpr c10
            have c10b1 : (a1 != a2) = false := bne_eq_false_iff_eq.mpr c10
            clear c10
            (first | rw [c10b0] | (simp only [i64_w, i32_w]; rw [c10b0]) | skip)
            have H' := Aside0.mk H
            clear H
            go_wp2
            go_meet
            case rel => exact ⟨_, (true), (by first | rfl | (simp; done) | (simp [*]; done)), H', ⟨by have := HJ3.out; first | omega | exact Nat.le_refl _⟩, ⟨by repeat (first | (with_reducible first | exact HB.out | apply below_alloc | apply pw_below_drewN | apply below_drew1) | exact HB.out)⟩⟩
          · rw [if_neg c10] at H
            have c10b0 : (a1 == a2) = false := beq_eq_false_iff_ne.mpr c10
            have c10b1 : (a1 != a2) = true := bne_iff_ne.mpr c10
            (first | rw [c10b0] | (simp only [i64_w, i32_w]; rw [c10b0]) | skip)
            have H' := Aside0.mk H
            clear H
            go_wp2
            go_meet
            case rel => exact ⟨_, ((a2 == 0)), (by first | rfl | (simp; done) | (simp [*]; done)), H', ⟨by have := HJ3.out; first | omega | exact Nat.le_refl _⟩, ⟨by repeat (first | (with_reducible first | exact HB.out | apply below_alloc | apply pw_below_drewN | apply below_drew1) | exact HB.out)⟩⟩
        case rest =>
          clear HC9
          try clear c1
          try clear p2
          try clear c4
          try clear c5
          try clear c6
          try clear c8
          try clear c10
          try clear c10b0
          try clear c10b1
          try clear p2
          obtain ⟨kq, x19_8, rfl, HA, HJ8, HB⟩ := hcut
          cases kq with
          | zero => exact absurd HA.out (by simp [types_Sub.j1])
          | succ kj8 =>
            have H := HA.out
            clear HA
            simp only [types_Sub.j1] at H
            by_cases c11 : x19_8 = true
            · subst c11
              have H1 : (some true) = some r := by rw [if_pos rfl] at H; exact H
              clear H
              have H := H1
              clear H1
              obtain rfl := Option.some.inj H
              go_wp2
              go_ret
              exact ⟨by first | rfl | (simp [errW_none, errW_some] <;> rfl) | (simp [*, errW_none, errW_some] <;> rfl), by repeat (first | (with_reducible first | exact HB.out | apply below_alloc | apply pw_below_drewN | apply below_drew1) | exact HB.out)⟩
            · replace c11 := Bool.eq_false_iff.mpr c11
              subst c11
              have H1 : (if a1 = 3 then (types_Sub.j2 kj8 l0 a1 a2 true) else (types_Sub.j2 kj8 l0 a1 a2 (a2 == 5))) = some r := by rw [if_neg (show ¬ (false = true) by decide)] at H; exact H
              clear H
              have H := H1
              clear H1
              have HC12 := Aside0.mk H
              clear H
              go_upto_region 5 with (fail)
              go_cut [27] (fun v27 wc => ∃ (kq : Nat) (x27_11 : Bool), v27 = .bool x27_11 ∧ Aside0 (types_Sub.j2 kq l0 a1 a2 x27_11 = some r) ∧ Aside0 (kq ≤ kj8) ∧ Aside0 (Below w.heap.size w wc))
              case first =>
                have H := HC12.out
                clear HC12
                by_cases c13 : a1 = 3
                · rw [if_pos c13] at H
                  have c13b0 : (a1 == 3) = true := beq_iff_eq.mpr c13
                  have c13b1 : (a1 != 3) = false := bne_eq_false_iff_eq.mpr c13
                  clear c13
                  (first | rw [c13b0] | (simp only [i64_w, i32_w]; rw [c13b0]) | skip)
                  have H' := Aside0.mk H
                  clear H
                  go_wp2
                  go_meet
                  case rel => exact ⟨_, (true), (by first | rfl | (simp; done) | (simp [*]; done)), H', ⟨by have := HJ3.out; have := HJ8.out; first | omega | exact Nat.le_refl _⟩, ⟨by repeat (first | (with_reducible first | exact HB.out | apply below_alloc | apply pw_below_drewN | apply below_drew1) | exact HB.out)⟩⟩
                · rw [if_neg c13] at H
                  have c13b0 : (a1 == 3) = false := beq_eq_false_iff_ne.mpr c13
                  have c13b1 : (a1 != 3) = true := bne_iff_ne.mpr c13
                  (first | rw [c13b0] | (simp only [i64_w, i32_w]; rw [c13b0]) | skip)
                  have H' := Aside0.mk H
                  clear H
                  go_wp2
                  go_meet
                  case rel => exact ⟨_, ((a2 == 5)), (by first | rfl | (simp; done) | (simp [*]; done)), H', ⟨by have := HJ3.out; have := HJ8.out; first | omega | exact Nat.le_refl _⟩, ⟨by repeat (first | (with_reducible first | exact HB.out | apply below_alloc | apply pw_below_drewN | apply below_drew1) | exact HB.out)⟩⟩
              case rest =>
                clear HC12
                try clear c1
                try clear p2
                try clear c4
                try clear c5
                try clear c6
                try clear c8
                try clear c10
                try clear c10b0
                try clear c10b1
                try clear c11
                try clear c13
                try clear c13b0
                try clear c13b1
                try clear p2
                obtain ⟨kq, x27_11, rfl, HA, HJ11, HB⟩ := hcut
                cases kq with
                | zero => exact absurd HA.out (by simp [types_Sub.j2])
                | succ kj11 =>
                  have H := HA.out
                  clear HA
                  simp only [types_Sub.j2] at H
                  by_cases c14 : x27_11 = true
                  · subst c14
                    have H1 : ((types_IsRef.f a1).bind fun t160 => (if t160 = true then ((types_IsRef.f a2).bind fun t161 => (some t161)) else (some false))) = some r := by rw [if_pos rfl] at H; exact H
                    clear H
                    have H := H1
                    clear H1
                    replace H := Option.bind_eq_some_iff.mp H
                    obtain ⟨t160, A150, H⟩ := H
                    replace H : (if t160 = true then ((types_IsRef.f a2).bind fun t161 => (some t161)) else (some false)) = some r := H
                    have A15 := Aside0.mk A150
                    clear A150
                    by_cases c16 : t160 = true
                    · subst c16
                      have H1 : ((types_IsRef.f a2).bind fun t161 => (some t161)) = some r := by rw [if_pos rfl] at H; exact H
                      clear H
                      have H := H1
                      clear H1
                      replace H := Option.bind_eq_some_iff.mp H
                      obtain ⟨t161, A170, H⟩ := H
                      replace H : (some t161) = some r := H
                      have A17 := Aside0.mk A170
                      clear A170
                      obtain rfl := Option.some.inj H
                      go_wp2_with (first | ((with_reducible refine gate_callee (f := 62) rfl ?_); refine goesL_ (some 35) rfl rfl Try.func62 (by kernel_rfl) rfl #[.int .u8 a1] rfl (by (try simp only [List.map_toArray, List.map_cons, List.map_nil]); first | done | rfl | (simp only [List.length_drop, List.length_take]; rfl)) ?_; (with_reducible refine (types_IsRef.calls a1 true _ A15.out).mono ?_); rintro e w' ⟨rfl, ⟨nd, rfl⟩⟩; refine ⟨_, rfl, ?_⟩) | (go_at_call 62; (with_reducible refine (types_IsRef.calls a2 t161 _ A17.out).mono ?_); rintro e w' ⟨rfl, ⟨nd, rfl⟩⟩))
                      go_ret
                      exact ⟨by first | rfl | (simp [errW_none, errW_some] <;> rfl) | (simp [*, errW_none, errW_some] <;> rfl), by repeat (first | (with_reducible first | exact HB.out | apply below_alloc | apply pw_below_drewN | apply below_drew1) | exact HB.out)⟩
                    · replace c16 := Bool.eq_false_iff.mpr c16
                      subst c16
                      have H1 : (some false) = some r := by rw [if_neg (show ¬ (false = true) by decide)] at H; exact H
                      clear H
                      have H := H1
                      clear H1
                      obtain rfl := Option.some.inj H
                      go_wp2_with (first | ((with_reducible refine gate_callee (f := 62) rfl ?_); refine goesL_ (some 35) rfl rfl Try.func62 (by kernel_rfl) rfl #[.int .u8 a1] rfl (by (try simp only [List.map_toArray, List.map_cons, List.map_nil]); first | done | rfl | (simp only [List.length_drop, List.length_take]; rfl)) ?_; (with_reducible refine (types_IsRef.calls a1 false _ A15.out).mono ?_); rintro e w' ⟨rfl, ⟨nd, rfl⟩⟩; refine ⟨_, rfl, ?_⟩))
                      go_ret
                      exact ⟨by first | rfl | (simp [errW_none, errW_some] <;> rfl) | (simp [*, errW_none, errW_some] <;> rfl), by repeat (first | (with_reducible first | exact HB.out | apply below_alloc | apply pw_below_drewN | apply below_drew1) | exact HB.out)⟩
                  · replace c14 := Bool.eq_false_iff.mpr c14
                    subst c14
                    have H1 : ((types_class.f l0 a1).bind fun t162 => ((types_class.f l0 a2).bind fun t163 => (if t162 ≥ 0 then (if t163 ≥ 0 then ((types_above.f l0 t162 t163).bind fun t164 => (some t164)) else (some false)) else (some false)))) = some r := by rw [if_neg (show ¬ (false = true) by decide)] at H; exact H
                    clear H
                    have H := H1
                    clear H1
                    replace H := Option.bind_eq_some_iff.mp H
                    obtain ⟨t162, A180, H⟩ := H
                    replace H : ((types_class.f l0 a2).bind fun t163 => (if t162 ≥ 0 then (if t163 ≥ 0 then ((types_above.f l0 t162 t163).bind fun t164 => (some t164)) else (some false)) else (some false))) = some r := H
                    have A18 := Aside0.mk A180
                    clear A180
                    replace H := Option.bind_eq_some_iff.mp H
                    obtain ⟨t163, A190, H⟩ := H
                    replace H : (if t162 ≥ 0 then (if t163 ≥ 0 then ((types_above.f l0 t162 t163).bind fun t164 => (some t164)) else (some false)) else (some false)) = some r := H
                    have A19 := Aside0.mk A190
                    clear A190
                    by_cases c20 : t162 ≥ 0
                    · rw [if_pos c20] at H
                      have c20b0 : decide (0 ≤ t162) = true := decide_eq_true c20
                      clear c20
                      by_cases c21 : t163 ≥ 0
                      · rw [if_pos c21] at H
                        have c21b0 : decide (0 ≤ t163) = true := decide_eq_true c21
                        clear c21
                        replace H := Option.bind_eq_some_iff.mp H
                        obtain ⟨t164, A220, H⟩ := H
                        replace H : (some t164) = some r := H
                        have A22 := Aside0.mk A220
                        clear A220
                        obtain rfl := Option.some.inj H
                        go_wp2_with (first | ((with_reducible refine gate_callee (f := 61) rfl ?_); refine goesL_ (some 42) rfl rfl Try.func61 (by kernel_rfl) rfl #[.slice A0 l0.length c0, .int .u8 a1] rfl (by (try simp only [List.map_toArray, List.map_cons, List.map_nil]); first | done | rfl | (simp only [List.length_drop, List.length_take]; rfl)) ?_; (with_reducible refine (types_class.calls _ _ l0 a1 t162 _ ?side1 ?side2 A18.out).mono ?_); (case side1 => repeat (first | exact (Kd.C_below HR0.out HB.out) | (with_reducible refine Kd.C_alloc ?_ _) | (with_reducible refine Kd.C_drewN ?_ _) | (with_reducible refine Kd.C_drew ?_))); (case side2 => exact HC0.out); rintro e w' ⟨rfl, ⟨nd, rfl⟩⟩; refine ⟨_, rfl, ?_⟩) | ((with_reducible refine gate_callee (f := 61) rfl ?_); refine goesL_ (some 45) rfl rfl Try.func61 (by kernel_rfl) rfl #[.slice A0 l0.length c0, .int .u8 a2] rfl (by (try simp only [List.map_toArray, List.map_cons, List.map_nil]); first | done | rfl | (simp only [List.length_drop, List.length_take]; rfl)) ?_; (with_reducible refine (types_class.calls _ _ l0 a2 t163 _ ?side1 ?side2 A19.out).mono ?_); (case side1 => repeat (first | exact (Kd.C_below HR0.out (by repeat (first | (with_reducible first | exact HB.out | apply below_alloc | apply pw_below_drewN | apply below_drew1) | exact HB.out))) | (with_reducible refine Kd.C_alloc ?_ _) | (with_reducible refine Kd.C_drewN ?_ _) | (with_reducible refine Kd.C_drew ?_))); (case side2 => exact HC0.out); rintro e w' ⟨rfl, ⟨nd, rfl⟩⟩; refine ⟨_, rfl, ?_⟩) | (go_at_call 63; (with_reducible refine (types_above.calls _ _ l0 t162 t163 t164 _ ?side1 ?side2 A22.out).mono ?_); (case side1 => repeat (first | exact (Kd.C_below HR0.out (by repeat (first | (with_reducible first | exact HB.out | apply below_alloc | apply pw_below_drewN | apply below_drew1) | exact HB.out))) | (with_reducible refine Kd.C_alloc ?_ _) | (with_reducible refine Kd.C_drewN ?_ _) | (with_reducible refine Kd.C_drew ?_))); (case side2 => exact HC0.out); rintro e w23 ⟨rfl, hb⟩; have n0_ := Aside0.mk (below_step (by repeat (first | (with_reducible first | exact HB.out | apply below_alloc | apply pw_below_drewN | apply below_drew1) | exact HB.out)) hb); clear HB; have HB := n0_; clear n0_; (try clear hb); (try clear hb2); (try clear hk); (try clear hi)))
                        go_ret
                        exact ⟨by first | rfl | (simp [errW_none, errW_some] <;> rfl) | (simp [*, errW_none, errW_some] <;> rfl), by repeat (first | (with_reducible first | exact HB.out | apply below_alloc | apply pw_below_drewN | apply below_drew1) | exact HB.out)⟩
                      · rw [if_neg c21] at H
                        have c21b0 : decide (0 ≤ t163) = false := decide_eq_false c21
                        clear c21
                        obtain rfl := Option.some.inj H
                        go_wp2_with (first | ((with_reducible refine gate_callee (f := 61) rfl ?_); refine goesL_ (some 42) rfl rfl Try.func61 (by kernel_rfl) rfl #[.slice A0 l0.length c0, .int .u8 a1] rfl (by (try simp only [List.map_toArray, List.map_cons, List.map_nil]); first | done | rfl | (simp only [List.length_drop, List.length_take]; rfl)) ?_; (with_reducible refine (types_class.calls _ _ l0 a1 t162 _ ?side1 ?side2 A18.out).mono ?_); (case side1 => repeat (first | exact (Kd.C_below HR0.out HB.out) | (with_reducible refine Kd.C_alloc ?_ _) | (with_reducible refine Kd.C_drewN ?_ _) | (with_reducible refine Kd.C_drew ?_))); (case side2 => exact HC0.out); rintro e w' ⟨rfl, ⟨nd, rfl⟩⟩; refine ⟨_, rfl, ?_⟩) | ((with_reducible refine gate_callee (f := 61) rfl ?_); refine goesL_ (some 45) rfl rfl Try.func61 (by kernel_rfl) rfl #[.slice A0 l0.length c0, .int .u8 a2] rfl (by (try simp only [List.map_toArray, List.map_cons, List.map_nil]); first | done | rfl | (simp only [List.length_drop, List.length_take]; rfl)) ?_; (with_reducible refine (types_class.calls _ _ l0 a2 t163 _ ?side1 ?side2 A19.out).mono ?_); (case side1 => repeat (first | exact (Kd.C_below HR0.out (by repeat (first | (with_reducible first | exact HB.out | apply below_alloc | apply pw_below_drewN | apply below_drew1) | exact HB.out))) | (with_reducible refine Kd.C_alloc ?_ _) | (with_reducible refine Kd.C_drewN ?_ _) | (with_reducible refine Kd.C_drew ?_))); (case side2 => exact HC0.out); rintro e w' ⟨rfl, ⟨nd, rfl⟩⟩; refine ⟨_, rfl, ?_⟩))
                        go_ret
                        exact ⟨by first | rfl | (simp [errW_none, errW_some] <;> rfl) | (simp [*, errW_none, errW_some] <;> rfl), by repeat (first | (with_reducible first | exact HB.out | apply below_alloc | apply pw_below_drewN | apply below_drew1) | exact HB.out)⟩
                    · rw [if_neg c20] at H
                      have c20b0 : decide (0 ≤ t162) = false := decide_eq_false c20
                      clear c20
                      obtain rfl := Option.some.inj H
                      go_wp2_with (first | ((with_reducible refine gate_callee (f := 61) rfl ?_); refine goesL_ (some 42) rfl rfl Try.func61 (by kernel_rfl) rfl #[.slice A0 l0.length c0, .int .u8 a1] rfl (by (try simp only [List.map_toArray, List.map_cons, List.map_nil]); first | done | rfl | (simp only [List.length_drop, List.length_take]; rfl)) ?_; (with_reducible refine (types_class.calls _ _ l0 a1 t162 _ ?side1 ?side2 A18.out).mono ?_); (case side1 => repeat (first | exact (Kd.C_below HR0.out HB.out) | (with_reducible refine Kd.C_alloc ?_ _) | (with_reducible refine Kd.C_drewN ?_ _) | (with_reducible refine Kd.C_drew ?_))); (case side2 => exact HC0.out); rintro e w' ⟨rfl, ⟨nd, rfl⟩⟩; refine ⟨_, rfl, ?_⟩) | ((with_reducible refine gate_callee (f := 61) rfl ?_); refine goesL_ (some 45) rfl rfl Try.func61 (by kernel_rfl) rfl #[.slice A0 l0.length c0, .int .u8 a2] rfl (by (try simp only [List.map_toArray, List.map_cons, List.map_nil]); first | done | rfl | (simp only [List.length_drop, List.length_take]; rfl)) ?_; (with_reducible refine (types_class.calls _ _ l0 a2 t163 _ ?side1 ?side2 A19.out).mono ?_); (case side1 => repeat (first | exact (Kd.C_below HR0.out (by repeat (first | (with_reducible first | exact HB.out | apply below_alloc | apply pw_below_drewN | apply below_drew1) | exact HB.out))) | (with_reducible refine Kd.C_alloc ?_ _) | (with_reducible refine Kd.C_drewN ?_ _) | (with_reducible refine Kd.C_drew ?_))); (case side2 => exact HC0.out); rintro e w' ⟨rfl, ⟨nd, rfl⟩⟩; refine ⟨_, rfl, ?_⟩))
                      go_ret
                      exact ⟨by first | rfl | (simp [errW_none, errW_some] <;> rfl) | (simp [*, errW_none, errW_some] <;> rfl), by repeat (first | (with_reducible first | exact HB.out | apply below_alloc | apply pw_below_drewN | apply below_drew1) | exact HB.out)⟩

def alikeS (vb : Int → Bool) (a b : Fr) : Int := if checkS vb a = 0 then (if checkS vb b = 0 then (if a.loc = b.loc ∧ a.hgt = b.hgt then 0 else 32) else checkS vb b) else checkS vb a
def subS (vb : Int → Bool) (sb : Int → Int → Bool) (a b : Fr) : Bool := decide (alikeS vb a b = 0) && (List.range 24).all (fun i => sb (a.sl.getD i 0) (b.sl.getD i 0))
theorem all_succ (p : Nat → Bool) (i : Nat) : (List.range (i + 1)).all p = ((List.range i).all p && p i) := by
  rw [List.range_succ, List.all_append]
  simp
set_option maxHeartbeats 3200000 in
set_option maxRecDepth 100000 in
theorem alike_calls (A0 : Option Addr) (c0 : Nat) (l0 : List S59) (a b : Fr) (hfa : a.ok) (hfb : b.ok) (vb : Int → Bool) (w : World) (hr0 : Kd.C k59 w A0 l0.length l0) (hc0 : l0.length ≤ c0) (hva : ∀ t ∈ a.sl, types_Valid.f l0 t = some (vb t)) (hvb : ∀ t ∈ b.sl, types_Valid.f l0 t = some (vb t)) : Calls Try.prog 49 #[.slice A0 l0.length c0, .agg a.a, .agg b.a] w fun e w' => e = .returned (.int .i64 (alikeS vb a b)) ∧ Below w.heap.size w w' := by
  have HFA := Aside0.mk hfa
  have HFB := Aside0.mk hfb
  have HR0 := Aside0.mk hr0
  have HC0 := Aside0.mk hc0
  have HVA := Aside0.mk hva
  have HVB := Aside0.mk hvb
  have HA := Aside0.mk (Frs.nil w)
  clear hfa hfb hr0 hc0 hva hvb
  obtain ⟨ea, hea⟩ : ∃ ea, checkS vb a = ea := ⟨_, rfl⟩
  obtain ⟨eb, heb⟩ : ∃ eb, checkS vb b = eb := ⟨_, rfl⟩
  have HEa := Aside0.mk hea
  have HEb := Aside0.mk heb
  have HAL : Aside0 (alikeS vb a b = if ea = 0 then (if eb = 0 then (if a.loc = b.loc ∧ a.hgt = b.hgt then 0 else 32) else eb) else ea) := ⟨by unfold alikeS; rw [hea, heb]⟩
  clear hea heb
  by_cases z1 : ea = 0
  · subst z1
    by_cases z2 : eb = 0
    · subst z2
      by_cases z3 : a.loc = b.loc
      · have z3b : (a.loc != b.loc) = false := by rw [z3]; simp
        have Z3 := Aside0.mk z3
        clear z3
        by_cases z4 : a.hgt = b.hgt
        · have z4b : (a.hgt != b.hgt) = false := by rw [z4]; simp
          have Z4 := Aside0.mk z4
          clear z4
          go_enter Try.func49, Try.ntmps49
          go_wp2_with (first | ((with_reducible refine gate_dst (N := 4) rfl ?_); refine fr_box rfl rfl (f := a) rfl HFA.out HA.out ?_; intro ga w_ hA; (try simp only [List.cons_append, List.nil_append] at hA); replace HA := Aside0.mk hA; clear hA) | ((with_reducible refine gate_dst (N := 5) rfl ?_); refine fr_box rfl rfl (f := b) rfl HFB.out HA.out ?_; intro gb w_ hA; (try simp only [List.cons_append, List.nil_append] at hA); replace HA := Aside0.mk hA; clear hA) | (refine fr_load rfl rfl rfl HA.out (by first | exact List.mem_cons_self | exact List.mem_cons_of_mem _ List.mem_cons_self | exact List.mem_cons_of_mem _ (List.mem_cons_of_mem _ List.mem_cons_self) | exact List.mem_cons_of_mem _ (List.mem_cons_of_mem _ (List.mem_cons_of_mem _ List.mem_cons_self))) ?_) | (refine fr_load0 rfl rfl rfl HA.out (by first | exact List.mem_cons_self | exact List.mem_cons_of_mem _ List.mem_cons_self | exact List.mem_cons_of_mem _ (List.mem_cons_of_mem _ List.mem_cons_self) | exact List.mem_cons_of_mem _ (List.mem_cons_of_mem _ (List.mem_cons_of_mem _ List.mem_cons_self))) ?_) | (refine fr_load1 rfl rfl rfl HA.out (by first | exact List.mem_cons_self | exact List.mem_cons_of_mem _ List.mem_cons_self | exact List.mem_cons_of_mem _ (List.mem_cons_of_mem _ List.mem_cons_self) | exact List.mem_cons_of_mem _ (List.mem_cons_of_mem _ (List.mem_cons_of_mem _ List.mem_cons_self))) ?_))
          have hcall := Check_calls A0 c0 l0 a HFA.out vb w_ (Kd.C_below HR0.out HA.out.below) HC0.out HVA.out
          rw [HEa.out] at hcall
          refine hcall.mono ?_
          clear hcall
          rintro e w_ ⟨rfl, hb⟩
          replace HA := Aside0.mk (HA.out.step hb)
          clear hb
          go_wp2_with (first | ((with_reducible refine gate_dst (N := 4) rfl ?_); refine fr_box rfl rfl (f := a) rfl HFA.out HA.out ?_; intro ga w_ hA; (try simp only [List.cons_append, List.nil_append] at hA); replace HA := Aside0.mk hA; clear hA) | ((with_reducible refine gate_dst (N := 5) rfl ?_); refine fr_box rfl rfl (f := b) rfl HFB.out HA.out ?_; intro gb w_ hA; (try simp only [List.cons_append, List.nil_append] at hA); replace HA := Aside0.mk hA; clear hA) | (refine fr_load rfl rfl rfl HA.out (by first | exact List.mem_cons_self | exact List.mem_cons_of_mem _ List.mem_cons_self | exact List.mem_cons_of_mem _ (List.mem_cons_of_mem _ List.mem_cons_self) | exact List.mem_cons_of_mem _ (List.mem_cons_of_mem _ (List.mem_cons_of_mem _ List.mem_cons_self))) ?_) | (refine fr_load0 rfl rfl rfl HA.out (by first | exact List.mem_cons_self | exact List.mem_cons_of_mem _ List.mem_cons_self | exact List.mem_cons_of_mem _ (List.mem_cons_of_mem _ List.mem_cons_self) | exact List.mem_cons_of_mem _ (List.mem_cons_of_mem _ (List.mem_cons_of_mem _ List.mem_cons_self))) ?_) | (refine fr_load1 rfl rfl rfl HA.out (by first | exact List.mem_cons_self | exact List.mem_cons_of_mem _ List.mem_cons_self | exact List.mem_cons_of_mem _ (List.mem_cons_of_mem _ List.mem_cons_self) | exact List.mem_cons_of_mem _ (List.mem_cons_of_mem _ (List.mem_cons_of_mem _ List.mem_cons_self))) ?_))
          have hcall := Check_calls A0 c0 l0 b HFB.out vb w_ (Kd.C_below HR0.out HA.out.below) HC0.out HVB.out
          rw [HEb.out] at hcall
          refine hcall.mono ?_
          clear hcall
          rintro e w_ ⟨rfl, hb⟩
          replace HA := Aside0.mk (HA.out.step hb)
          clear hb
          have hc1 := HA.out.at1.c0
          have hc2 := HA.out.at1.c1
          have hc3 := HA.out.at0.c0
          have hc4 := HA.out.at0.c1
          go_wp2
          go_ret
          exact ⟨by rw [HAL.out]; simp [Z3.out, Z4.out], HA.out.below⟩
        · have z4b : (a.hgt != b.hgt) = true := by rw [bne_iff_ne]; exact z4
          have Z4 := Aside0.mk z4
          clear z4
          go_enter Try.func49, Try.ntmps49
          go_wp2_with (first | ((with_reducible refine gate_dst (N := 4) rfl ?_); refine fr_box rfl rfl (f := a) rfl HFA.out HA.out ?_; intro ga w_ hA; (try simp only [List.cons_append, List.nil_append] at hA); replace HA := Aside0.mk hA; clear hA) | ((with_reducible refine gate_dst (N := 5) rfl ?_); refine fr_box rfl rfl (f := b) rfl HFB.out HA.out ?_; intro gb w_ hA; (try simp only [List.cons_append, List.nil_append] at hA); replace HA := Aside0.mk hA; clear hA) | (refine fr_load rfl rfl rfl HA.out (by first | exact List.mem_cons_self | exact List.mem_cons_of_mem _ List.mem_cons_self | exact List.mem_cons_of_mem _ (List.mem_cons_of_mem _ List.mem_cons_self) | exact List.mem_cons_of_mem _ (List.mem_cons_of_mem _ (List.mem_cons_of_mem _ List.mem_cons_self))) ?_) | (refine fr_load0 rfl rfl rfl HA.out (by first | exact List.mem_cons_self | exact List.mem_cons_of_mem _ List.mem_cons_self | exact List.mem_cons_of_mem _ (List.mem_cons_of_mem _ List.mem_cons_self) | exact List.mem_cons_of_mem _ (List.mem_cons_of_mem _ (List.mem_cons_of_mem _ List.mem_cons_self))) ?_) | (refine fr_load1 rfl rfl rfl HA.out (by first | exact List.mem_cons_self | exact List.mem_cons_of_mem _ List.mem_cons_self | exact List.mem_cons_of_mem _ (List.mem_cons_of_mem _ List.mem_cons_self) | exact List.mem_cons_of_mem _ (List.mem_cons_of_mem _ (List.mem_cons_of_mem _ List.mem_cons_self))) ?_))
          have hcall := Check_calls A0 c0 l0 a HFA.out vb w_ (Kd.C_below HR0.out HA.out.below) HC0.out HVA.out
          rw [HEa.out] at hcall
          refine hcall.mono ?_
          clear hcall
          rintro e w_ ⟨rfl, hb⟩
          replace HA := Aside0.mk (HA.out.step hb)
          clear hb
          go_wp2_with (first | ((with_reducible refine gate_dst (N := 4) rfl ?_); refine fr_box rfl rfl (f := a) rfl HFA.out HA.out ?_; intro ga w_ hA; (try simp only [List.cons_append, List.nil_append] at hA); replace HA := Aside0.mk hA; clear hA) | ((with_reducible refine gate_dst (N := 5) rfl ?_); refine fr_box rfl rfl (f := b) rfl HFB.out HA.out ?_; intro gb w_ hA; (try simp only [List.cons_append, List.nil_append] at hA); replace HA := Aside0.mk hA; clear hA) | (refine fr_load rfl rfl rfl HA.out (by first | exact List.mem_cons_self | exact List.mem_cons_of_mem _ List.mem_cons_self | exact List.mem_cons_of_mem _ (List.mem_cons_of_mem _ List.mem_cons_self) | exact List.mem_cons_of_mem _ (List.mem_cons_of_mem _ (List.mem_cons_of_mem _ List.mem_cons_self))) ?_) | (refine fr_load0 rfl rfl rfl HA.out (by first | exact List.mem_cons_self | exact List.mem_cons_of_mem _ List.mem_cons_self | exact List.mem_cons_of_mem _ (List.mem_cons_of_mem _ List.mem_cons_self) | exact List.mem_cons_of_mem _ (List.mem_cons_of_mem _ (List.mem_cons_of_mem _ List.mem_cons_self))) ?_) | (refine fr_load1 rfl rfl rfl HA.out (by first | exact List.mem_cons_self | exact List.mem_cons_of_mem _ List.mem_cons_self | exact List.mem_cons_of_mem _ (List.mem_cons_of_mem _ List.mem_cons_self) | exact List.mem_cons_of_mem _ (List.mem_cons_of_mem _ (List.mem_cons_of_mem _ List.mem_cons_self))) ?_))
          have hcall := Check_calls A0 c0 l0 b HFB.out vb w_ (Kd.C_below HR0.out HA.out.below) HC0.out HVB.out
          rw [HEb.out] at hcall
          refine hcall.mono ?_
          clear hcall
          rintro e w_ ⟨rfl, hb⟩
          replace HA := Aside0.mk (HA.out.step hb)
          clear hb
          have hc1 := HA.out.at1.c0
          have hc2 := HA.out.at1.c1
          have hc3 := HA.out.at0.c0
          have hc4 := HA.out.at0.c1
          go_wp2
          go_ret
          exact ⟨by rw [HAL.out]; simp [Z4.out], HA.out.below⟩
      · have z3b : (a.loc != b.loc) = true := by rw [bne_iff_ne]; exact z3
        have Z3 := Aside0.mk z3
        clear z3
        go_enter Try.func49, Try.ntmps49
        go_wp2_with (first | ((with_reducible refine gate_dst (N := 4) rfl ?_); refine fr_box rfl rfl (f := a) rfl HFA.out HA.out ?_; intro ga w_ hA; (try simp only [List.cons_append, List.nil_append] at hA); replace HA := Aside0.mk hA; clear hA) | ((with_reducible refine gate_dst (N := 5) rfl ?_); refine fr_box rfl rfl (f := b) rfl HFB.out HA.out ?_; intro gb w_ hA; (try simp only [List.cons_append, List.nil_append] at hA); replace HA := Aside0.mk hA; clear hA) | (refine fr_load rfl rfl rfl HA.out (by first | exact List.mem_cons_self | exact List.mem_cons_of_mem _ List.mem_cons_self | exact List.mem_cons_of_mem _ (List.mem_cons_of_mem _ List.mem_cons_self) | exact List.mem_cons_of_mem _ (List.mem_cons_of_mem _ (List.mem_cons_of_mem _ List.mem_cons_self))) ?_) | (refine fr_load0 rfl rfl rfl HA.out (by first | exact List.mem_cons_self | exact List.mem_cons_of_mem _ List.mem_cons_self | exact List.mem_cons_of_mem _ (List.mem_cons_of_mem _ List.mem_cons_self) | exact List.mem_cons_of_mem _ (List.mem_cons_of_mem _ (List.mem_cons_of_mem _ List.mem_cons_self))) ?_) | (refine fr_load1 rfl rfl rfl HA.out (by first | exact List.mem_cons_self | exact List.mem_cons_of_mem _ List.mem_cons_self | exact List.mem_cons_of_mem _ (List.mem_cons_of_mem _ List.mem_cons_self) | exact List.mem_cons_of_mem _ (List.mem_cons_of_mem _ (List.mem_cons_of_mem _ List.mem_cons_self))) ?_))
        have hcall := Check_calls A0 c0 l0 a HFA.out vb w_ (Kd.C_below HR0.out HA.out.below) HC0.out HVA.out
        rw [HEa.out] at hcall
        refine hcall.mono ?_
        clear hcall
        rintro e w_ ⟨rfl, hb⟩
        replace HA := Aside0.mk (HA.out.step hb)
        clear hb
        go_wp2_with (first | ((with_reducible refine gate_dst (N := 4) rfl ?_); refine fr_box rfl rfl (f := a) rfl HFA.out HA.out ?_; intro ga w_ hA; (try simp only [List.cons_append, List.nil_append] at hA); replace HA := Aside0.mk hA; clear hA) | ((with_reducible refine gate_dst (N := 5) rfl ?_); refine fr_box rfl rfl (f := b) rfl HFB.out HA.out ?_; intro gb w_ hA; (try simp only [List.cons_append, List.nil_append] at hA); replace HA := Aside0.mk hA; clear hA) | (refine fr_load rfl rfl rfl HA.out (by first | exact List.mem_cons_self | exact List.mem_cons_of_mem _ List.mem_cons_self | exact List.mem_cons_of_mem _ (List.mem_cons_of_mem _ List.mem_cons_self) | exact List.mem_cons_of_mem _ (List.mem_cons_of_mem _ (List.mem_cons_of_mem _ List.mem_cons_self))) ?_) | (refine fr_load0 rfl rfl rfl HA.out (by first | exact List.mem_cons_self | exact List.mem_cons_of_mem _ List.mem_cons_self | exact List.mem_cons_of_mem _ (List.mem_cons_of_mem _ List.mem_cons_self) | exact List.mem_cons_of_mem _ (List.mem_cons_of_mem _ (List.mem_cons_of_mem _ List.mem_cons_self))) ?_) | (refine fr_load1 rfl rfl rfl HA.out (by first | exact List.mem_cons_self | exact List.mem_cons_of_mem _ List.mem_cons_self | exact List.mem_cons_of_mem _ (List.mem_cons_of_mem _ List.mem_cons_self) | exact List.mem_cons_of_mem _ (List.mem_cons_of_mem _ (List.mem_cons_of_mem _ List.mem_cons_self))) ?_))
        have hcall := Check_calls A0 c0 l0 b HFB.out vb w_ (Kd.C_below HR0.out HA.out.below) HC0.out HVB.out
        rw [HEb.out] at hcall
        refine hcall.mono ?_
        clear hcall
        rintro e w_ ⟨rfl, hb⟩
        replace HA := Aside0.mk (HA.out.step hb)
        clear hb
        have hc1 := HA.out.at1.c0
        have hc2 := HA.out.at1.c1
        have hc3 := HA.out.at0.c0
        have hc4 := HA.out.at0.c1
        go_wp2
        go_ret
        exact ⟨by rw [HAL.out]; simp [Z3.out], HA.out.below⟩
    · have z2b : (eb == 0) = false := by rw [beq_eq_false_iff_ne]; exact z2
      have Z2 := Aside0.mk z2
      clear z2
      go_enter Try.func49, Try.ntmps49
      go_wp2_with (first | ((with_reducible refine gate_dst (N := 4) rfl ?_); refine fr_box rfl rfl (f := a) rfl HFA.out HA.out ?_; intro ga w_ hA; (try simp only [List.cons_append, List.nil_append] at hA); replace HA := Aside0.mk hA; clear hA) | ((with_reducible refine gate_dst (N := 5) rfl ?_); refine fr_box rfl rfl (f := b) rfl HFB.out HA.out ?_; intro gb w_ hA; (try simp only [List.cons_append, List.nil_append] at hA); replace HA := Aside0.mk hA; clear hA) | (refine fr_load rfl rfl rfl HA.out (by first | exact List.mem_cons_self | exact List.mem_cons_of_mem _ List.mem_cons_self | exact List.mem_cons_of_mem _ (List.mem_cons_of_mem _ List.mem_cons_self) | exact List.mem_cons_of_mem _ (List.mem_cons_of_mem _ (List.mem_cons_of_mem _ List.mem_cons_self))) ?_) | (refine fr_load0 rfl rfl rfl HA.out (by first | exact List.mem_cons_self | exact List.mem_cons_of_mem _ List.mem_cons_self | exact List.mem_cons_of_mem _ (List.mem_cons_of_mem _ List.mem_cons_self) | exact List.mem_cons_of_mem _ (List.mem_cons_of_mem _ (List.mem_cons_of_mem _ List.mem_cons_self))) ?_) | (refine fr_load1 rfl rfl rfl HA.out (by first | exact List.mem_cons_self | exact List.mem_cons_of_mem _ List.mem_cons_self | exact List.mem_cons_of_mem _ (List.mem_cons_of_mem _ List.mem_cons_self) | exact List.mem_cons_of_mem _ (List.mem_cons_of_mem _ (List.mem_cons_of_mem _ List.mem_cons_self))) ?_))
      have hcall := Check_calls A0 c0 l0 a HFA.out vb w_ (Kd.C_below HR0.out HA.out.below) HC0.out HVA.out
      rw [HEa.out] at hcall
      refine hcall.mono ?_
      clear hcall
      rintro e w_ ⟨rfl, hb⟩
      replace HA := Aside0.mk (HA.out.step hb)
      clear hb
      go_wp2_with (first | ((with_reducible refine gate_dst (N := 4) rfl ?_); refine fr_box rfl rfl (f := a) rfl HFA.out HA.out ?_; intro ga w_ hA; (try simp only [List.cons_append, List.nil_append] at hA); replace HA := Aside0.mk hA; clear hA) | ((with_reducible refine gate_dst (N := 5) rfl ?_); refine fr_box rfl rfl (f := b) rfl HFB.out HA.out ?_; intro gb w_ hA; (try simp only [List.cons_append, List.nil_append] at hA); replace HA := Aside0.mk hA; clear hA) | (refine fr_load rfl rfl rfl HA.out (by first | exact List.mem_cons_self | exact List.mem_cons_of_mem _ List.mem_cons_self | exact List.mem_cons_of_mem _ (List.mem_cons_of_mem _ List.mem_cons_self) | exact List.mem_cons_of_mem _ (List.mem_cons_of_mem _ (List.mem_cons_of_mem _ List.mem_cons_self))) ?_) | (refine fr_load0 rfl rfl rfl HA.out (by first | exact List.mem_cons_self | exact List.mem_cons_of_mem _ List.mem_cons_self | exact List.mem_cons_of_mem _ (List.mem_cons_of_mem _ List.mem_cons_self) | exact List.mem_cons_of_mem _ (List.mem_cons_of_mem _ (List.mem_cons_of_mem _ List.mem_cons_self))) ?_) | (refine fr_load1 rfl rfl rfl HA.out (by first | exact List.mem_cons_self | exact List.mem_cons_of_mem _ List.mem_cons_self | exact List.mem_cons_of_mem _ (List.mem_cons_of_mem _ List.mem_cons_self) | exact List.mem_cons_of_mem _ (List.mem_cons_of_mem _ (List.mem_cons_of_mem _ List.mem_cons_self))) ?_))
      have hcall := Check_calls A0 c0 l0 b HFB.out vb w_ (Kd.C_below HR0.out HA.out.below) HC0.out HVB.out
      rw [HEb.out] at hcall
      refine hcall.mono ?_
      clear hcall
      rintro e w_ ⟨rfl, hb⟩
      replace HA := Aside0.mk (HA.out.step hb)
      clear hb
      have hc1 := HA.out.at1.c0
      have hc2 := HA.out.at1.c1
      have hc3 := HA.out.at0.c0
      have hc4 := HA.out.at0.c1
      go_wp2
      go_ret
      exact ⟨by rw [HAL.out]; simp [Z2.out], HA.out.below⟩
  · have z1b : (ea == 0) = false := by rw [beq_eq_false_iff_ne]; exact z1
    have Z1 := Aside0.mk z1
    clear z1
    go_enter Try.func49, Try.ntmps49
    go_wp2_with (first | ((with_reducible refine gate_dst (N := 4) rfl ?_); refine fr_box rfl rfl (f := a) rfl HFA.out HA.out ?_; intro ga w_ hA; (try simp only [List.cons_append, List.nil_append] at hA); replace HA := Aside0.mk hA; clear hA) | ((with_reducible refine gate_dst (N := 5) rfl ?_); refine fr_box rfl rfl (f := b) rfl HFB.out HA.out ?_; intro gb w_ hA; (try simp only [List.cons_append, List.nil_append] at hA); replace HA := Aside0.mk hA; clear hA) | (refine fr_load rfl rfl rfl HA.out (by first | exact List.mem_cons_self | exact List.mem_cons_of_mem _ List.mem_cons_self | exact List.mem_cons_of_mem _ (List.mem_cons_of_mem _ List.mem_cons_self) | exact List.mem_cons_of_mem _ (List.mem_cons_of_mem _ (List.mem_cons_of_mem _ List.mem_cons_self))) ?_) | (refine fr_load0 rfl rfl rfl HA.out (by first | exact List.mem_cons_self | exact List.mem_cons_of_mem _ List.mem_cons_self | exact List.mem_cons_of_mem _ (List.mem_cons_of_mem _ List.mem_cons_self) | exact List.mem_cons_of_mem _ (List.mem_cons_of_mem _ (List.mem_cons_of_mem _ List.mem_cons_self))) ?_) | (refine fr_load1 rfl rfl rfl HA.out (by first | exact List.mem_cons_self | exact List.mem_cons_of_mem _ List.mem_cons_self | exact List.mem_cons_of_mem _ (List.mem_cons_of_mem _ List.mem_cons_self) | exact List.mem_cons_of_mem _ (List.mem_cons_of_mem _ (List.mem_cons_of_mem _ List.mem_cons_self))) ?_))
    have hcall := Check_calls A0 c0 l0 a HFA.out vb w_ (Kd.C_below HR0.out HA.out.below) HC0.out HVA.out
    rw [HEa.out] at hcall
    refine hcall.mono ?_
    clear hcall
    rintro e w_ ⟨rfl, hb⟩
    replace HA := Aside0.mk (HA.out.step hb)
    clear hb
    go_wp2
    go_ret
    exact ⟨by rw [HAL.out]; simp [Z1.out], HA.out.below⟩

set_option maxHeartbeats 3200000 in
set_option maxRecDepth 100000 in
theorem frSub_calls (k : Nat) (A0 : Option Addr) (c0 : Nat) (l0 : List S59) (a b : Fr) (hfa : a.ok) (hfb : b.ok) (vb : Int → Bool) (sb : Int → Int → Bool) (w : World) (hr0 : Kd.C k59 w A0 l0.length l0) (hc0 : l0.length ≤ c0) (hva : ∀ t ∈ a.sl, types_Valid.f l0 t = some (vb t)) (hvb : ∀ t ∈ b.sl, types_Valid.f l0 t = some (vb t)) (hsb : ∀ i, i < 24 → types_Sub.f k l0 (a.sl.getD i 0) (b.sl.getD i 0) = some (sb (a.sl.getD i 0) (b.sl.getD i 0))) : Calls Try.prog 30 #[.slice A0 l0.length c0, .agg a.a, .agg b.a] w fun e w' => e = .returned (.bool (subS vb sb a b)) ∧ Below w.heap.size w w' := by
  have HFA := Aside0.mk hfa
  have HFB := Aside0.mk hfb
  have HR0 := Aside0.mk hr0
  have HC0 := Aside0.mk hc0
  have HVA := Aside0.mk hva
  have HVB := Aside0.mk hvb
  have HA := Aside0.mk (Frs.nil w)
  clear hfa hfb hr0 hc0 hva hvb
  have HSB := Aside0.mk hsb
  obtain ⟨al, hal⟩ : ∃ al, alikeS vb a b = al := ⟨_, rfl⟩
  have HAL := Aside0.mk hal
  clear hsb hal
  by_cases z1 : al = 0
  · subst z1
    go_enter Try.func30, Try.ntmps30
    go_wp2_with (first | ((with_reducible refine gate_dst (N := 4) rfl ?_); refine fr_box rfl rfl (f := a) rfl HFA.out HA.out ?_; intro ga w_ hA; (try simp only [List.cons_append, List.nil_append] at hA); replace HA := Aside0.mk hA; clear hA) | ((with_reducible refine gate_dst (N := 5) rfl ?_); refine fr_box rfl rfl (f := b) rfl HFB.out HA.out ?_; intro gb w_ hA; (try simp only [List.cons_append, List.nil_append] at hA); replace HA := Aside0.mk hA; clear hA) | (refine fr_load rfl rfl rfl HA.out (by first | exact List.mem_cons_self | exact List.mem_cons_of_mem _ List.mem_cons_self | exact List.mem_cons_of_mem _ (List.mem_cons_of_mem _ List.mem_cons_self) | exact List.mem_cons_of_mem _ (List.mem_cons_of_mem _ (List.mem_cons_of_mem _ List.mem_cons_self))) ?_) | (refine fr_load0 rfl rfl rfl HA.out (by first | exact List.mem_cons_self | exact List.mem_cons_of_mem _ List.mem_cons_self | exact List.mem_cons_of_mem _ (List.mem_cons_of_mem _ List.mem_cons_self) | exact List.mem_cons_of_mem _ (List.mem_cons_of_mem _ (List.mem_cons_of_mem _ List.mem_cons_self))) ?_) | (refine fr_load1 rfl rfl rfl HA.out (by first | exact List.mem_cons_self | exact List.mem_cons_of_mem _ List.mem_cons_self | exact List.mem_cons_of_mem _ (List.mem_cons_of_mem _ List.mem_cons_self) | exact List.mem_cons_of_mem _ (List.mem_cons_of_mem _ (List.mem_cons_of_mem _ List.mem_cons_self))) ?_))
    have hcall := alike_calls A0 c0 l0 a b HFA.out HFB.out vb w_ (Kd.C_below HR0.out HA.out.below) HC0.out HVA.out HVB.out
    rw [HAL.out] at hcall
    refine hcall.mono ?_
    clear hcall
    rintro e w_ ⟨rfl, hb⟩
    replace HA := Aside0.mk (HA.out.step hb)
    clear hb
    go_wp2
    go_loopw [13, 7] (fun v13 v7 wr => ∃ i : Nat, v13 = .int .i64 (i : Int) ∧ i ≤ 24 ∧ Aside0 ((List.range i).all (fun i => sb (a.sl.getD i 0) (b.sl.getD i 0)) = true) ∧ Aside0 (Frs w [(gb, b), (ga, a)] wr)) (fun v13 _ _ => (24 - intOf v13).toNat)
    case atStart => exact ⟨0, rfl, Nat.zero_le _, ⟨rfl⟩, HA⟩
    case round =>
      obtain ⟨i, rfl, hi, HP, HA⟩ := hrel
      by_cases c1 : i < 24
      · have c1b : decide ((i : Int) < 24) = true := decide_eq_true (by omega)
        have p1 : (0 ≤ (i : Int)) = True := eq_true (by omega)
        have p2 : ((i : Int) < 24) = True := eq_true (by omega)
        have HI : Aside0 (i < 24) := ⟨c1⟩
        have hq := HSB.out i c1
        have hca := fun (W : World) (h : Frs w [(gb, b), (ga, a)] W) => (h.at1).cs i (by have := HFA.out; unfold Fr.ok at this; omega)
        have hcb := fun (W : World) (h : Frs w [(gb, b), (ga, a)] W) => (h.at0).cs i (by have := HFB.out; unfold Fr.ok at this; omega)
        have ea : a.sl[i]'(by have := HFA.out; unfold Fr.ok at this; omega) = a.sl.getD i 0 := by rw [List.getD_eq_getElem?_getD, List.getElem?_eq_getElem (by have := HFA.out; unfold Fr.ok at this; omega)]; rfl
        have eb : b.sl[i]'(by have := HFB.out; unfold Fr.ok at this; omega) = b.sl.getD i 0 := by rw [List.getD_eq_getElem?_getD, List.getElem?_eq_getElem (by have := HFB.out; unfold Fr.ok at this; omega)]; rfl
        rw [ea] at hca
        rw [eb] at hcb
        obtain ⟨ta, hta⟩ : ∃ ta, a.sl.getD i 0 = ta := ⟨_, rfl⟩
        obtain ⟨tb, htb⟩ : ∃ tb, b.sl.getD i 0 = tb := ⟨_, rfl⟩
        rw [hta, htb] at hq
        rw [hta] at hca
        rw [htb] at hcb
        have HQ := Aside0.mk hq
        have HTA := Aside0.mk hta
        have HTB := Aside0.mk htb
        have HCA := Aside0.mk hca
        have HCB := Aside0.mk hcb
        clear hq hca hcb ea eb hta htb
        go_upto_region 6 with (fail)
        have hA := HA.out
        go_region_held3 (fun w' => w'.cell? ⟨ga, 2 + i, none⟩ = some (.int .u8 ta) ∧ w'.cell? ⟨gb, 2 + i, none⟩ = some (.int .u8 tb) ∧ Frs w [(gb, b), (ga, a)] w')
          (first | (exact ⟨HCA.out _ hW, HCB.out _ hW, hW⟩) | (exact ⟨HCA.out _ (hA.drewN 1), HCB.out _ (hA.drewN 1), hA.drewN 1⟩))
          (first | (go_at_call 50; (refine (types_Sub.calls k A0 c0 l0 ta tb (sb ta tb) _ (Kd.C_below HR0.out (hA.drewN 1).below) HC0.out HQ.out).mono ?_); rintro e w9 ⟨rfl, hb⟩; have hW : Frs w [(gb, b), (ga, a)] w9 := Frs.step (hA.drewN 1) hb))
        have HA := Aside0.mk hW
        clear hW hA
        by_cases hb2 : sb ta tb = true
        · have HT2 : Aside0 ((List.range (i + 1)).all (fun i => sb (a.sl.getD i 0) (b.sl.getD i 0)) = true) := ⟨by rw [all_succ, HP.out, HTA.out, HTB.out, hb2]; rfl⟩
          rw [hb2]
          clear hb2
          go_wp2
          exact ⟨⟨i + 1, rfl, by omega, HT2, HA⟩, by simp [intOf]; omega⟩
        · have hb2 := Bool.eq_false_iff.mpr hb2
          have HB9 := Aside0.mk hb2
          rw [hb2]
          clear hb2
          go_wp2
          go_ret
          refine ⟨?_, HA.out.below⟩
          have : subS vb sb a b = false := by
            unfold subS
            rw [HAL.out, Bool.and_eq_false_iff]
            refine .inr (Bool.eq_false_iff.mpr (fun h => ?_))
            have h2 := List.all_eq_true.1 h i (List.mem_range.2 HI.out)
            simp only [HTA.out, HTB.out, HB9.out] at h2
            cases h2
          rw [this]
          rfl
      · have c1b : decide ((i : Int) < 24) = false := decide_eq_false (by omega)
        obtain rfl : i = 24 := by omega
        go_wp2
        go_ret
        refine ⟨?_, HA.out.below⟩
        have : subS vb sb a b = true := by
          unfold subS
          rw [HAL.out, HP.out]
          rfl
        rw [this]
        rfl
  · have z1b : (al != 0) = true := by rw [bne_iff_ne]; exact z1
    have Z1 := Aside0.mk z1
    clear z1
    go_enter Try.func30, Try.ntmps30
    go_wp2_with (first | ((with_reducible refine gate_dst (N := 4) rfl ?_); refine fr_box rfl rfl (f := a) rfl HFA.out HA.out ?_; intro ga w_ hA; (try simp only [List.cons_append, List.nil_append] at hA); replace HA := Aside0.mk hA; clear hA) | ((with_reducible refine gate_dst (N := 5) rfl ?_); refine fr_box rfl rfl (f := b) rfl HFB.out HA.out ?_; intro gb w_ hA; (try simp only [List.cons_append, List.nil_append] at hA); replace HA := Aside0.mk hA; clear hA) | (refine fr_load rfl rfl rfl HA.out (by first | exact List.mem_cons_self | exact List.mem_cons_of_mem _ List.mem_cons_self | exact List.mem_cons_of_mem _ (List.mem_cons_of_mem _ List.mem_cons_self) | exact List.mem_cons_of_mem _ (List.mem_cons_of_mem _ (List.mem_cons_of_mem _ List.mem_cons_self))) ?_) | (refine fr_load0 rfl rfl rfl HA.out (by first | exact List.mem_cons_self | exact List.mem_cons_of_mem _ List.mem_cons_self | exact List.mem_cons_of_mem _ (List.mem_cons_of_mem _ List.mem_cons_self) | exact List.mem_cons_of_mem _ (List.mem_cons_of_mem _ (List.mem_cons_of_mem _ List.mem_cons_self))) ?_) | (refine fr_load1 rfl rfl rfl HA.out (by first | exact List.mem_cons_self | exact List.mem_cons_of_mem _ List.mem_cons_self | exact List.mem_cons_of_mem _ (List.mem_cons_of_mem _ List.mem_cons_self) | exact List.mem_cons_of_mem _ (List.mem_cons_of_mem _ (List.mem_cons_of_mem _ List.mem_cons_self))) ?_))
    have hcall := alike_calls A0 c0 l0 a b HFA.out HFB.out vb w_ (Kd.C_below HR0.out HA.out.below) HC0.out HVA.out HVB.out
    rw [HAL.out] at hcall
    refine hcall.mono ?_
    clear hcall
    rintro e w_ ⟨rfl, hb⟩
    replace HA := Aside0.mk (HA.out.step hb)
    clear hb
    go_wp2
    go_ret
    refine ⟨?_, HA.out.below⟩
    unfold subS
    rw [HAL.out, decide_eq_false Z1.out]
    rfl

section
variable {ops : Array Oper} {rest : List Oper} {o : Oper} {a : Act} {Q : Exit → Act → World → Prop}
theorem fr_loadt (hgd : o.guard = none) {x : Operand} (ho : o.op = .load 24 x) {g i : Nat} (hx : a.eval x = .pointer (some ⟨g, 2 + i, none⟩)) {w0 W : World} {l : List (Nat × Fr)} (hl : Frs w0 l W) {f : Fr} (hm : (g, f) ∈ l) (hi : i < 24) {t : Int} (ht : f.sl.getD i 0 = t)
    (h : wpList Try.prog ops Q rest (a.put o.dst (.int .u8 t)) W) : wpList Try.prog ops Q (o :: rest) a W := by
  subst ht
  exact fr_loads hgd ho hx hl hm hi h
end
theorem bare_zero {L H : Nat} {sl : List Int} (hl : sl.length = 24) (hn : L + H ≤ 24) : frEq (Fr.bare L H sl) ⟨(L : Int), (H : Int), sl⟩ = true ↔ ∀ j, L + H ≤ j → j < 24 → sl.getD j 0 = 0 := by
  rw [frEq_iff]
  unfold Fr.bare
  have hlen : (sl.take (L + H)).length = L + H := by rw [List.length_take]; omega
  constructor
  · intro h j h1 h2
    injection h with _ _ h3
    have := congrArg (fun l => l.getD j 0) h3
    simp only [List.getD_eq_getElem?_getD] at this
    rw [List.getElem?_append_right (by omega), hlen, List.getElem?_replicate, if_pos (by omega)] at this
    rw [List.getD_eq_getElem?_getD, ← this]
    rfl
  · intro h
    congr 1
    apply List.ext_getElem?
    intro j
    by_cases hj : j < L + H
    · rw [List.getElem?_append_left (by omega), List.getElem?_take_of_lt hj]
    · rw [List.getElem?_append_right (by omega), hlen, List.getElem?_replicate]
      by_cases hj2 : j < 24
      · have h0 := h j (by omega) hj2
        rw [if_pos (by omega), List.getElem?_eq_getElem (by omega)]
        rw [List.getD_eq_getElem?_getD, List.getElem?_eq_getElem (by omega)] at h0
        exact congrArg some h0.symm
      · rw [if_neg (by omega), List.getElem?_eq_none (by omega)]
theorem all_tail {vb : Int → Bool} (h0 : vb 0 = true) {sl : List Int} (hl : sl.length = 24) (n : Nat) (hz : ∀ j, n ≤ j → j < 24 → sl.getD j 0 = 0) (ha : (sl.take n).all vb = true) : sl.all vb = true := by
  rw [List.all_eq_true] at ha ⊢
  intro x hx
  obtain ⟨j, hj, rfl⟩ := List.mem_iff_getElem.1 hx
  by_cases h : j < n
  · exact ha _ (List.mem_take_iff_getElem.2 ⟨j, by omega, rfl⟩)
  · have := hz j (by omega) (by omega)
    rw [List.getD_eq_getElem?_getD, List.getElem?_eq_getElem hj] at this
    rw [show sl[j] = 0 from this]
    exact h0
set_option maxHeartbeats 3200000 in
set_option maxRecDepth 100000 in
theorem refCheck_calls (A0 : Option Addr) (c0 : Nat) (l0 : List S59) (f : Fr) (hf : f.ok) (vb : Int → Bool) (w : World) (hr0 : Kd.C k59 w A0 l0.length l0) (hc0 : l0.length ≤ c0) (h0 : vb 0 = true) (hv : ∀ t ∈ f.sl, provisoref02_Valid.f l0 t = some (vb t)) : Calls Try.prog 31 #[.slice A0 l0.length c0, .agg f.a] w fun e w' => e = .returned (.int .i64 (checkS vb f)) ∧ Below w.heap.size w w' := by
  have HF := Aside0.mk hf
  have HR0 := Aside0.mk hr0
  have HC0 := Aside0.mk hc0
  have HV := Aside0.mk hv
  have HV0 := Aside0.mk h0
  have HA := Aside0.mk (Frs.nil w)
  clear hr0 hc0 hv h0
  by_cases hs : f.shp = true
  · obtain ⟨L, H, sl, rfl, hL, hLH⟩ := Fr.shp_nat hs
    have HS := Aside0.mk hs
    have HLH := Aside0.mk hLH
    have HLEN : Aside0 (sl.length = 24) := ⟨hf⟩
    obtain ⟨n, hnn⟩ : ∃ n, n = L + H := ⟨_, rfl⟩
    have hs1 : (L : Int) + (H : Int) = (n : Int) := by omega
    have hw1 : wrap64 (n : Int) = (n : Int) := by unfold wrap64; omega
    have HN := Aside0.mk hnn
    have HLE : Aside0 (n ≤ 24) := ⟨by omega⟩
    clear hf hs hnn
    go_enter Try.func31, Try.ntmps31
    go_wp2_with (first | (refine fr_guard rfl (by rfl) ?_; dsimp only) | (refine fr_load rfl rfl rfl HA.out (by first | exact List.mem_cons_self | exact List.mem_cons_of_mem _ List.mem_cons_self | exact List.mem_cons_of_mem _ (List.mem_cons_of_mem _ List.mem_cons_self) | exact List.mem_cons_of_mem _ (List.mem_cons_of_mem _ (List.mem_cons_of_mem _ List.mem_cons_self))) ?_) | (refine fr_load0 rfl rfl rfl HA.out (by first | exact List.mem_cons_self | exact List.mem_cons_of_mem _ List.mem_cons_self | exact List.mem_cons_of_mem _ (List.mem_cons_of_mem _ List.mem_cons_self) | exact List.mem_cons_of_mem _ (List.mem_cons_of_mem _ (List.mem_cons_of_mem _ List.mem_cons_self))) ?_) | (refine fr_load1 rfl rfl rfl HA.out (by first | exact List.mem_cons_self | exact List.mem_cons_of_mem _ List.mem_cons_self | exact List.mem_cons_of_mem _ (List.mem_cons_of_mem _ List.mem_cons_self) | exact List.mem_cons_of_mem _ (List.mem_cons_of_mem _ (List.mem_cons_of_mem _ List.mem_cons_self))) ?_) | (refine fr_store rfl rfl rfl rfl (by first | exact HF.out | exact Fr.zero_ok) [] HA.out ?_; intro w_ hA; (try simp only [List.cons_append, List.nil_append] at hA); replace HA := Aside0.mk hA; clear hA) | (refine fr_store rfl rfl rfl rfl (by first | exact HF.out | exact Fr.zero_ok) [_] HA.out ?_; intro w_ hA; (try simp only [List.cons_append, List.nil_append] at hA); replace HA := Aside0.mk hA; clear hA) | (refine fr_store rfl rfl rfl rfl (by first | exact HF.out | exact Fr.zero_ok) [_, _] HA.out ?_; intro w_ hA; (try simp only [List.cons_append, List.nil_append] at hA); replace HA := Aside0.mk hA; clear hA) | (refine fr_store rfl rfl rfl rfl (by first | exact HF.out | exact Fr.zero_ok) [_, _, _] HA.out ?_; intro w_ hA; (try simp only [List.cons_append, List.nil_append] at hA); replace HA := Aside0.mk hA; clear hA) | (refine fr_box rfl rfl rfl (by first | exact HF.out | exact Fr.zero_ok) HA.out ?_; intro gp w_ hA; (try simp only [List.cons_append, List.nil_append] at hA); replace HA := Aside0.mk hA; clear hA) | (refine fr_alloc rfl rfl HA.out ?_; intro gr w_ hA; (try simp only [List.cons_append, List.nil_append] at hA); replace HA := Aside0.mk hA; clear hA) | (refine fr_build0 rfl rfl ?_) | (refine fr_build1 rfl rfl rfl ?_) | (refine fr_build2 rfl rfl rfl rfl ?_) | (refine fr_slot rfl rfl rfl rfl [] HA.out HQ.out ?_; intro w_ hA; (try simp only [List.cons_append, List.nil_append] at hA); replace HA := Aside0.mk hA; clear hA) | (refine fr_slot rfl rfl rfl rfl [_] HA.out HQ.out ?_; intro w_ hA; (try simp only [List.cons_append, List.nil_append] at hA); replace HA := Aside0.mk hA; clear hA) | (refine fr_slot rfl rfl rfl rfl [_, _] HA.out HQ.out ?_; intro w_ hA; (try simp only [List.cons_append, List.nil_append] at hA); replace HA := Aside0.mk hA; clear hA) | (refine fr_high rfl rfl rfl rfl [] HA.out ?_; intro w_ hA; (try simp only [List.cons_append, List.nil_append] at hA); replace HA := Aside0.mk hA; clear hA) | (refine fr_high rfl rfl rfl rfl [_] HA.out ?_; intro w_ hA; (try simp only [List.cons_append, List.nil_append] at hA); replace HA := Aside0.mk hA; clear hA) | (refine fr_high rfl rfl rfl rfl [_, _] HA.out ?_; intro w_ hA; (try simp only [List.cons_append, List.nil_append] at hA); replace HA := Aside0.mk hA; clear hA) | (refine fr_loads rfl rfl rfl HA.out (by first | exact List.mem_cons_self | exact List.mem_cons_of_mem _ List.mem_cons_self | exact List.mem_cons_of_mem _ (List.mem_cons_of_mem _ List.mem_cons_self) | exact List.mem_cons_of_mem _ (List.mem_cons_of_mem _ (List.mem_cons_of_mem _ List.mem_cons_self))) HQ.out ?_))
    refine (Shape_true HS.out HF.out _).mono ?_
    rintro e w_ ⟨rfl, hb⟩
    replace HA := Aside0.mk (HA.out.step hb)
    clear hb
    go_wp2_with (first | (refine fr_guard rfl (by rfl) ?_; dsimp only) | (refine fr_load rfl rfl rfl HA.out (by first | exact List.mem_cons_self | exact List.mem_cons_of_mem _ List.mem_cons_self | exact List.mem_cons_of_mem _ (List.mem_cons_of_mem _ List.mem_cons_self) | exact List.mem_cons_of_mem _ (List.mem_cons_of_mem _ (List.mem_cons_of_mem _ List.mem_cons_self))) ?_) | (refine fr_load0 rfl rfl rfl HA.out (by first | exact List.mem_cons_self | exact List.mem_cons_of_mem _ List.mem_cons_self | exact List.mem_cons_of_mem _ (List.mem_cons_of_mem _ List.mem_cons_self) | exact List.mem_cons_of_mem _ (List.mem_cons_of_mem _ (List.mem_cons_of_mem _ List.mem_cons_self))) ?_) | (refine fr_load1 rfl rfl rfl HA.out (by first | exact List.mem_cons_self | exact List.mem_cons_of_mem _ List.mem_cons_self | exact List.mem_cons_of_mem _ (List.mem_cons_of_mem _ List.mem_cons_self) | exact List.mem_cons_of_mem _ (List.mem_cons_of_mem _ (List.mem_cons_of_mem _ List.mem_cons_self))) ?_) | (refine fr_store rfl rfl rfl rfl (by first | exact HF.out | exact Fr.zero_ok) [] HA.out ?_; intro w_ hA; (try simp only [List.cons_append, List.nil_append] at hA); replace HA := Aside0.mk hA; clear hA) | (refine fr_store rfl rfl rfl rfl (by first | exact HF.out | exact Fr.zero_ok) [_] HA.out ?_; intro w_ hA; (try simp only [List.cons_append, List.nil_append] at hA); replace HA := Aside0.mk hA; clear hA) | (refine fr_store rfl rfl rfl rfl (by first | exact HF.out | exact Fr.zero_ok) [_, _] HA.out ?_; intro w_ hA; (try simp only [List.cons_append, List.nil_append] at hA); replace HA := Aside0.mk hA; clear hA) | (refine fr_store rfl rfl rfl rfl (by first | exact HF.out | exact Fr.zero_ok) [_, _, _] HA.out ?_; intro w_ hA; (try simp only [List.cons_append, List.nil_append] at hA); replace HA := Aside0.mk hA; clear hA) | (refine fr_box rfl rfl rfl (by first | exact HF.out | exact Fr.zero_ok) HA.out ?_; intro gp w_ hA; (try simp only [List.cons_append, List.nil_append] at hA); replace HA := Aside0.mk hA; clear hA) | (refine fr_alloc rfl rfl HA.out ?_; intro gr w_ hA; (try simp only [List.cons_append, List.nil_append] at hA); replace HA := Aside0.mk hA; clear hA) | (refine fr_build0 rfl rfl ?_) | (refine fr_build1 rfl rfl rfl ?_) | (refine fr_build2 rfl rfl rfl rfl ?_) | (refine fr_slot rfl rfl rfl rfl [] HA.out HQ.out ?_; intro w_ hA; (try simp only [List.cons_append, List.nil_append] at hA); replace HA := Aside0.mk hA; clear hA) | (refine fr_slot rfl rfl rfl rfl [_] HA.out HQ.out ?_; intro w_ hA; (try simp only [List.cons_append, List.nil_append] at hA); replace HA := Aside0.mk hA; clear hA) | (refine fr_slot rfl rfl rfl rfl [_, _] HA.out HQ.out ?_; intro w_ hA; (try simp only [List.cons_append, List.nil_append] at hA); replace HA := Aside0.mk hA; clear hA) | (refine fr_high rfl rfl rfl rfl [] HA.out ?_; intro w_ hA; (try simp only [List.cons_append, List.nil_append] at hA); replace HA := Aside0.mk hA; clear hA) | (refine fr_high rfl rfl rfl rfl [_] HA.out ?_; intro w_ hA; (try simp only [List.cons_append, List.nil_append] at hA); replace HA := Aside0.mk hA; clear hA) | (refine fr_high rfl rfl rfl rfl [_, _] HA.out ?_; intro w_ hA; (try simp only [List.cons_append, List.nil_append] at hA); replace HA := Aside0.mk hA; clear hA) | (refine fr_loads rfl rfl rfl HA.out (by first | exact List.mem_cons_self | exact List.mem_cons_of_mem _ List.mem_cons_self | exact List.mem_cons_of_mem _ (List.mem_cons_of_mem _ List.mem_cons_self) | exact List.mem_cons_of_mem _ (List.mem_cons_of_mem _ (List.mem_cons_of_mem _ List.mem_cons_self))) HQ.out ?_))
    go_loopw [5] (fun v5 wr => ∃ i : Nat, v5 = .int .i64 (i : Int) ∧ n ≤ i ∧ i ≤ 24 ∧ Aside0 (∀ j, n ≤ j → j < i → sl.getD j 0 = 0) ∧ Aside0 (Frs w [(gp, (⟨(L : Int), (H : Int), sl⟩ : Fr))] wr)) (fun v5 _ => (24 - intOf v5).toNat)
    case atStart => exact ⟨n, rfl, Nat.le_refl _, HLE.out, ⟨fun j h1 h2 => by omega⟩, HA⟩
    case round =>
      obtain ⟨i, rfl, h1, h2, HZ, HA⟩ := hrel
      by_cases c1 : i < 24
      · have c1b : decide ((i : Int) < 24) = true := decide_eq_true (by omega)
        have p1 : (0 ≤ (i : Int)) = True := eq_true (by omega)
        have p2 : ((i : Int) < 24) = True := eq_true (by omega)
        have HI : Aside0 (i < 24) := ⟨c1⟩
        obtain ⟨t, htt⟩ : ∃ t, sl.getD i 0 = t := ⟨_, rfl⟩
        have HTT := Aside0.mk htt
        clear htt
        by_cases t0 : t = 0
        · have HT0 := Aside0.mk t0
          have t0b : (t != 0) = false := by rw [t0]; rfl
          clear t0
          go_wp2_with (first | (refine fr_load0 rfl rfl rfl HA.out List.mem_cons_self ?_) | (refine fr_load1 rfl rfl rfl HA.out List.mem_cons_self ?_) | (refine fr_loadt rfl rfl (i := i) rfl HA.out List.mem_cons_self HI.out HTT.out ?_))
          exact ⟨⟨i + 1, rfl, by omega, by omega, ⟨fun j h3 h4 => by
            by_cases e : j = i
            · rw [e, HTT.out, HT0.out]
            · exact HZ.out j h3 (by omega)⟩, HA⟩, by simp [intOf]; omega⟩
        · have HT0 := Aside0.mk t0
          have t0b : (t != 0) = true := by rw [bne_iff_ne]; exact t0
          clear t0
          go_wp2_with (first | (refine fr_load0 rfl rfl rfl HA.out List.mem_cons_self ?_) | (refine fr_load1 rfl rfl rfl HA.out List.mem_cons_self ?_) | (refine fr_loadt rfl rfl (i := i) rfl HA.out List.mem_cons_self HI.out HTT.out ?_))
          go_ret
          refine ⟨?_, HA.out.below⟩
          unfold checkS
          rw [if_pos HS.out, if_neg (fun h => by
            rw [bareF_nat] at h
            have := (bare_zero HLEN.out HLH.out).1 h i (by have := HN.out; omega) HI.out
            exact HT0.out (HTT.out ▸ this))]
          rfl
      · have c1b : decide ((i : Int) < 24) = false := decide_eq_false (by omega)
        have HZ2 : Aside0 (∀ j, n ≤ j → j < 24 → sl.getD j 0 = 0) := ⟨fun j h3 h4 => HZ.out j h3 (by omega)⟩
        have HQ1 : Aside0 (frEq (bareF (⟨(L : Int), (H : Int), sl⟩ : Fr)) (⟨(L : Int), (H : Int), sl⟩ : Fr) = true) := ⟨by
          rw [bareF_nat]
          exact (bare_zero HLEN.out HLH.out).2 (fun j h3 h4 => HZ2.out j (by have := HN.out; omega) h4)⟩
        clear HZ
        go_wp2_with (first | (refine fr_load0 rfl rfl rfl HA.out List.mem_cons_self ?_) | (refine fr_load1 rfl rfl rfl HA.out List.mem_cons_self ?_))
        go_loopw [6] (fun v6 wr => ∃ i : Nat, v6 = .int .i64 (i : Int) ∧ i ≤ n ∧ Aside0 ((sl.take i).all vb = true) ∧ Aside0 (Frs w [(gp, (⟨(L : Int), (H : Int), sl⟩ : Fr))] wr)) (fun v6 _ => ((n : Int) - intOf v6).toNat)
        case atStart => exact ⟨0, rfl, Nat.zero_le _, ⟨rfl⟩, HA⟩
        case round =>
          obtain ⟨i, rfl, hi, HP, HA⟩ := hrel
          by_cases c1 : i < n
          · have c1c : decide (i < n) = true := decide_eq_true c1
            have c1b : decide ((i : Int) < (n : Int)) = true := decide_eq_true (by omega)
            have p1 : (0 ≤ (i : Int)) = True := eq_true (by omega)
            have p2 : ((i : Int) < 24) = True := eq_true (by have := HLE.out; omega)
            have HI : Aside0 (i < 24) := ⟨by have := HLE.out; omega⟩
            have hil : i < sl.length := by have := HLEN.out; have := HLE.out; omega
            have hg : sl.getD i 0 = sl[i] := by rw [List.getD_eq_getElem?_getD, List.getElem?_eq_getElem hil]; rfl
            have hvv := HV.out sl[i] (List.getElem_mem hil)
            rw [← hg] at hvv
            have HVV := Aside0.mk hvv
            have HTK : Aside0 ((sl.take (i + 1)).all vb = ((sl.take i).all vb && vb (sl.getD i 0))) := ⟨by rw [List.take_succ_eq_append_getElem hil, List.all_append, hg]; simp⟩
            have HAL : Aside0 (sl.all vb = true → vb (sl.getD i 0) = true) := ⟨fun h => by rw [hg]; exact List.all_eq_true.1 h _ (List.getElem_mem hil)⟩
            obtain ⟨t, htt⟩ : ∃ t, sl.getD i 0 = t := ⟨_, rfl⟩
            rw [htt] at HVV HTK HAL
            have HTT := Aside0.mk htt
            clear hvv hg hil htt
            go_wp2_with (first | (refine fr_load0 rfl rfl rfl HA.out List.mem_cons_self ?_) | (refine fr_load1 rfl rfl rfl HA.out List.mem_cons_self ?_) | (refine fr_loadt rfl rfl (i := i) rfl HA.out List.mem_cons_self HI.out HTT.out ?_))
            refine (provisoref02_Valid.calls A0 c0 l0 t (vb t) _ (Kd.C_below HR0.out HA.out.below) HC0.out HVV.out).mono ?_
            rintro e w_ ⟨rfl, m, rfl⟩
            replace HA := Aside0.mk (HA.out.drewN m)
            generalize World.drewN _ m = w_ at HA ⊢
            by_cases hb : vb t = true
            · have HT2 : Aside0 ((sl.take (i + 1)).all vb = true) := ⟨by rw [HTK.out, HP.out, hb]; rfl⟩
              rw [hb]
              clear hb
              go_wp2
              exact ⟨⟨i + 1, rfl, by omega, HT2, HA⟩, by simp [intOf]; omega⟩
            · have hb := Bool.eq_false_iff.mpr hb
              have HB9 := Aside0.mk hb
              rw [hb]
              clear hb
              go_wp2
              go_ret
              refine ⟨?_, HA.out.below⟩
              unfold checkS
              rw [if_pos HS.out, if_pos HQ1.out, if_neg (fun h => by have := HAL.out h; rw [HB9.out] at this; cases this)]
              rfl
          · have c1c : decide (i < n) = false := decide_eq_false c1
            have c1b : decide ((i : Int) < (n : Int)) = false := decide_eq_false (by omega)
            have hall : sl.all vb = true := all_tail HV0.out HLEN.out n HZ2.out (by
              have h := HP.out
              rwa [show i = n by omega] at h)
            have HALL := Aside0.mk hall
            clear hall
            go_wp2_with (first | (refine fr_load0 rfl rfl rfl HA.out List.mem_cons_self ?_) | (refine fr_load1 rfl rfl rfl HA.out List.mem_cons_self ?_))
            go_ret
            refine ⟨?_, HA.out.below⟩
            unfold checkS
            rw [if_pos HS.out, if_pos HQ1.out, if_pos HALL.out]
            rfl
  · have hs := Bool.eq_false_iff.mpr hs
    have HS := Aside0.mk hs
    clear hf hs
    go_enter Try.func31, Try.ntmps31
    go_wp2_with (first | (refine fr_guard rfl (by rfl) ?_; dsimp only) | (refine fr_load rfl rfl rfl HA.out (by first | exact List.mem_cons_self | exact List.mem_cons_of_mem _ List.mem_cons_self | exact List.mem_cons_of_mem _ (List.mem_cons_of_mem _ List.mem_cons_self) | exact List.mem_cons_of_mem _ (List.mem_cons_of_mem _ (List.mem_cons_of_mem _ List.mem_cons_self))) ?_) | (refine fr_load0 rfl rfl rfl HA.out (by first | exact List.mem_cons_self | exact List.mem_cons_of_mem _ List.mem_cons_self | exact List.mem_cons_of_mem _ (List.mem_cons_of_mem _ List.mem_cons_self) | exact List.mem_cons_of_mem _ (List.mem_cons_of_mem _ (List.mem_cons_of_mem _ List.mem_cons_self))) ?_) | (refine fr_load1 rfl rfl rfl HA.out (by first | exact List.mem_cons_self | exact List.mem_cons_of_mem _ List.mem_cons_self | exact List.mem_cons_of_mem _ (List.mem_cons_of_mem _ List.mem_cons_self) | exact List.mem_cons_of_mem _ (List.mem_cons_of_mem _ (List.mem_cons_of_mem _ List.mem_cons_self))) ?_) | (refine fr_store rfl rfl rfl rfl (by first | exact HF.out | exact Fr.zero_ok) [] HA.out ?_; intro w_ hA; (try simp only [List.cons_append, List.nil_append] at hA); replace HA := Aside0.mk hA; clear hA) | (refine fr_store rfl rfl rfl rfl (by first | exact HF.out | exact Fr.zero_ok) [_] HA.out ?_; intro w_ hA; (try simp only [List.cons_append, List.nil_append] at hA); replace HA := Aside0.mk hA; clear hA) | (refine fr_store rfl rfl rfl rfl (by first | exact HF.out | exact Fr.zero_ok) [_, _] HA.out ?_; intro w_ hA; (try simp only [List.cons_append, List.nil_append] at hA); replace HA := Aside0.mk hA; clear hA) | (refine fr_store rfl rfl rfl rfl (by first | exact HF.out | exact Fr.zero_ok) [_, _, _] HA.out ?_; intro w_ hA; (try simp only [List.cons_append, List.nil_append] at hA); replace HA := Aside0.mk hA; clear hA) | (refine fr_box rfl rfl rfl (by first | exact HF.out | exact Fr.zero_ok) HA.out ?_; intro gp w_ hA; (try simp only [List.cons_append, List.nil_append] at hA); replace HA := Aside0.mk hA; clear hA) | (refine fr_alloc rfl rfl HA.out ?_; intro gr w_ hA; (try simp only [List.cons_append, List.nil_append] at hA); replace HA := Aside0.mk hA; clear hA) | (refine fr_build0 rfl rfl ?_) | (refine fr_build1 rfl rfl rfl ?_) | (refine fr_build2 rfl rfl rfl rfl ?_) | (refine fr_slot rfl rfl rfl rfl [] HA.out HQ.out ?_; intro w_ hA; (try simp only [List.cons_append, List.nil_append] at hA); replace HA := Aside0.mk hA; clear hA) | (refine fr_slot rfl rfl rfl rfl [_] HA.out HQ.out ?_; intro w_ hA; (try simp only [List.cons_append, List.nil_append] at hA); replace HA := Aside0.mk hA; clear hA) | (refine fr_slot rfl rfl rfl rfl [_, _] HA.out HQ.out ?_; intro w_ hA; (try simp only [List.cons_append, List.nil_append] at hA); replace HA := Aside0.mk hA; clear hA) | (refine fr_high rfl rfl rfl rfl [] HA.out ?_; intro w_ hA; (try simp only [List.cons_append, List.nil_append] at hA); replace HA := Aside0.mk hA; clear hA) | (refine fr_high rfl rfl rfl rfl [_] HA.out ?_; intro w_ hA; (try simp only [List.cons_append, List.nil_append] at hA); replace HA := Aside0.mk hA; clear hA) | (refine fr_high rfl rfl rfl rfl [_, _] HA.out ?_; intro w_ hA; (try simp only [List.cons_append, List.nil_append] at hA); replace HA := Aside0.mk hA; clear hA) | (refine fr_loads rfl rfl rfl HA.out (by first | exact List.mem_cons_self | exact List.mem_cons_of_mem _ List.mem_cons_self | exact List.mem_cons_of_mem _ (List.mem_cons_of_mem _ List.mem_cons_self) | exact List.mem_cons_of_mem _ (List.mem_cons_of_mem _ (List.mem_cons_of_mem _ List.mem_cons_self))) HQ.out ?_))
    refine (Shape_false HS.out HF.out _).mono ?_
    rintro e w_ ⟨rfl, hb⟩
    replace HA := Aside0.mk (HA.out.step hb)
    clear hb
    go_wp2
    go_ret
    refine ⟨?_, HA.out.below⟩
    unfold checkS
    rw [if_neg (by rw [HS.out]; decide)]
    rfl
end Go.Proofs.Ytgjnmpgmbhbbhaa.P

end

section
namespace Go.Proofs.Ytgjnmpgmbhbbhaa.P
open Go.RowKit Go.Proofs.YtgjnmpgmbhbbhaaW.PrintWords Go.Proofs.YtgjnmpgmbhbbhaaW.PrintLast Go.Proofs.YtgjnmpgmbhbbhaaW.PrintMore
attribute [local go_sem] max2_int min2_int max_two min_two max_three min_three max_four min_four   -- for this text's walks alone
set_option linter.unusedVariables false
set_option linter.unusedSimpArgs false

def provisolaw03_FramesOrder.Facts (l0 : List S59) (a0 a1 : Int) (a2 : List Int) (b0 b1 : Int) (b2 : List Int) (d0 d1 : Int) (d2 : List Int) : Prop :=
  a2.length = 24 ∧ b2.length = 24 ∧ d2.length = 24 ∧ (∀ t, t ∈ a2 ∨ t ∈ b2 ∨ t ∈ d2 → 0 ≤ t ∧ t ≤ 255) ∧ ∃ (k : Nat) (tb : Bool), provisolaw03_table.f k l0 = some tb ∧ (tb = true → ∃ (vb : Int → Bool) (sb : Int → Int → Bool),
    provisoplain_Classes.f k l0 = some l0 ∧ vb 0 = true ∧
    (∀ t, 0 ≤ t ∧ t ≤ 255 → types_Valid.f l0 t = some (vb t) ∧ provisoref02_Valid.f l0 t = some (vb t)) ∧
    (∀ t u, 0 ≤ t ∧ t ≤ 255 → 0 ≤ u ∧ u ≤ 255 → types_Sub.f k l0 t u = some (sb t u)) ∧
    (∀ x : Fr, x = ⟨a0, a1, a2⟩ ∨ x = ⟨b0, b1, b2⟩ ∨ x = ⟨d0, d1, d2⟩ → subS vb sb x x = decide (checkS vb x = 0)) ∧ subS vb sb Fr.zero Fr.zero = true ∧
    (subS vb sb ⟨a0, a1, a2⟩ ⟨b0, b1, b2⟩ = true → subS vb sb ⟨b0, b1, b2⟩ ⟨d0, d1, d2⟩ = true → subS vb sb ⟨a0, a1, a2⟩ ⟨d0, d1, d2⟩ = true) ∧
    (subS vb sb ⟨a0, a1, a2⟩ ⟨b0, b1, b2⟩ = true → subS vb sb ⟨b0, b1, b2⟩ ⟨a0, a1, a2⟩ = true → (⟨a0, a1, a2⟩ : Fr) = ⟨b0, b1, b2⟩))
theorem order_mem {f : Fr} (hf : f.ok) {i : Nat} (hi : i < 24) : f.sl.getD i 0 ∈ f.sl := by
  have h : i < f.sl.length := by unfold Fr.ok at hf; omega
  rw [List.getD_eq_getElem?_getD, List.getElem?_eq_getElem h]
  exact List.getElem_mem h
theorem cons_of {n : Nat} {l : List Int} (h : l.length = n + 1) : ∃ x t, l = x :: t ∧ t.length = n := by
  cases l with
  | nil => simp at h
  | cons x t => exact ⟨x, t, rfl, by simpa using h⟩
set_option maxRecDepth 100000 in
theorem run_three (a b c : Fr) (ha : a.ok) (hb : b.ok) (hc : c.ok) (W : World) : (Instr.buildSlice 46 3 #[(0, .agg a.a), (1, .agg b.a), (2, .agg c.a)]).run Try.prog W = .ok (.slice (some ⟨W.heap.size, 0, none⟩) 3 3) (W.alloc (.cells (a.a ++ b.a ++ c.a) 27 (0, 0))) := by
  obtain ⟨al, ah, asl⟩ := a
  obtain ⟨bl, bh, bsl⟩ := b
  obtain ⟨cl, ch, csl⟩ := c
  have hx : asl.length = 23 + 1 := ha
  have hy : bsl.length = 23 + 1 := hb
  have hz : csl.length = 23 + 1 := hc
  clear ha hb hc
  obtain ⟨x0, sx1, rfl, hx1⟩ := cons_of hx
  obtain ⟨x1, sx2, rfl, hx2⟩ := cons_of hx1
  obtain ⟨x2, sx3, rfl, hx3⟩ := cons_of hx2
  obtain ⟨x3, sx4, rfl, hx4⟩ := cons_of hx3
  obtain ⟨x4, sx5, rfl, hx5⟩ := cons_of hx4
  obtain ⟨x5, sx6, rfl, hx6⟩ := cons_of hx5
  obtain ⟨x6, sx7, rfl, hx7⟩ := cons_of hx6
  obtain ⟨x7, sx8, rfl, hx8⟩ := cons_of hx7
  obtain ⟨x8, sx9, rfl, hx9⟩ := cons_of hx8
  obtain ⟨x9, sx10, rfl, hx10⟩ := cons_of hx9
  obtain ⟨x10, sx11, rfl, hx11⟩ := cons_of hx10
  obtain ⟨x11, sx12, rfl, hx12⟩ := cons_of hx11
  obtain ⟨x12, sx13, rfl, hx13⟩ := cons_of hx12
  obtain ⟨x13, sx14, rfl, hx14⟩ := cons_of hx13
  obtain ⟨x14, sx15, rfl, hx15⟩ := cons_of hx14
  obtain ⟨x15, sx16, rfl, hx16⟩ := cons_of hx15
  obtain ⟨x16, sx17, rfl, hx17⟩ := cons_of hx16
  obtain ⟨x17, sx18, rfl, hx18⟩ := cons_of hx17
  obtain ⟨x18, sx19, rfl, hx19⟩ := cons_of hx18
  obtain ⟨x19, sx20, rfl, hx20⟩ := cons_of hx19
  obtain ⟨x20, sx21, rfl, hx21⟩ := cons_of hx20
  obtain ⟨x21, sx22, rfl, hx22⟩ := cons_of hx21
  obtain ⟨x22, sx23, rfl, hx23⟩ := cons_of hx22
  obtain ⟨x23, sx24, rfl, hx24⟩ := cons_of hx23
  obtain rfl := List.eq_nil_of_length_eq_zero hx24
  obtain ⟨y0, sy1, rfl, hy1⟩ := cons_of hy
  obtain ⟨y1, sy2, rfl, hy2⟩ := cons_of hy1
  obtain ⟨y2, sy3, rfl, hy3⟩ := cons_of hy2
  obtain ⟨y3, sy4, rfl, hy4⟩ := cons_of hy3
  obtain ⟨y4, sy5, rfl, hy5⟩ := cons_of hy4
  obtain ⟨y5, sy6, rfl, hy6⟩ := cons_of hy5
  obtain ⟨y6, sy7, rfl, hy7⟩ := cons_of hy6
  obtain ⟨y7, sy8, rfl, hy8⟩ := cons_of hy7
  obtain ⟨y8, sy9, rfl, hy9⟩ := cons_of hy8
  obtain ⟨y9, sy10, rfl, hy10⟩ := cons_of hy9
  obtain ⟨y10, sy11, rfl, hy11⟩ := cons_of hy10
  obtain ⟨y11, sy12, rfl, hy12⟩ := cons_of hy11
  obtain ⟨y12, sy13, rfl, hy13⟩ := cons_of hy12
  obtain ⟨y13, sy14, rfl, hy14⟩ := cons_of hy13
  obtain ⟨y14, sy15, rfl, hy15⟩ := cons_of hy14
  obtain ⟨y15, sy16, rfl, hy16⟩ := cons_of hy15
  obtain ⟨y16, sy17, rfl, hy17⟩ := cons_of hy16
  obtain ⟨y17, sy18, rfl, hy18⟩ := cons_of hy17
  obtain ⟨y18, sy19, rfl, hy19⟩ := cons_of hy18
  obtain ⟨y19, sy20, rfl, hy20⟩ := cons_of hy19
  obtain ⟨y20, sy21, rfl, hy21⟩ := cons_of hy20
  obtain ⟨y21, sy22, rfl, hy22⟩ := cons_of hy21
  obtain ⟨y22, sy23, rfl, hy23⟩ := cons_of hy22
  obtain ⟨y23, sy24, rfl, hy24⟩ := cons_of hy23
  obtain rfl := List.eq_nil_of_length_eq_zero hy24
  obtain ⟨z0, sz1, rfl, hz1⟩ := cons_of hz
  obtain ⟨z1, sz2, rfl, hz2⟩ := cons_of hz1
  obtain ⟨z2, sz3, rfl, hz3⟩ := cons_of hz2
  obtain ⟨z3, sz4, rfl, hz4⟩ := cons_of hz3
  obtain ⟨z4, sz5, rfl, hz5⟩ := cons_of hz4
  obtain ⟨z5, sz6, rfl, hz6⟩ := cons_of hz5
  obtain ⟨z6, sz7, rfl, hz7⟩ := cons_of hz6
  obtain ⟨z7, sz8, rfl, hz8⟩ := cons_of hz7
  obtain ⟨z8, sz9, rfl, hz9⟩ := cons_of hz8
  obtain ⟨z9, sz10, rfl, hz10⟩ := cons_of hz9
  obtain ⟨z10, sz11, rfl, hz11⟩ := cons_of hz10
  obtain ⟨z11, sz12, rfl, hz12⟩ := cons_of hz11
  obtain ⟨z12, sz13, rfl, hz13⟩ := cons_of hz12
  obtain ⟨z13, sz14, rfl, hz14⟩ := cons_of hz13
  obtain ⟨z14, sz15, rfl, hz15⟩ := cons_of hz14
  obtain ⟨z15, sz16, rfl, hz16⟩ := cons_of hz15
  obtain ⟨z16, sz17, rfl, hz17⟩ := cons_of hz16
  obtain ⟨z17, sz18, rfl, hz18⟩ := cons_of hz17
  obtain ⟨z18, sz19, rfl, hz19⟩ := cons_of hz18
  obtain ⟨z19, sz20, rfl, hz20⟩ := cons_of hz19
  obtain ⟨z20, sz21, rfl, hz21⟩ := cons_of hz20
  obtain ⟨z21, sz22, rfl, hz22⟩ := cons_of hz21
  obtain ⟨z22, sz23, rfl, hz23⟩ := cons_of hz22
  obtain ⟨z23, sz24, rfl, hz24⟩ := cons_of hz23
  obtain rfl := List.eq_nil_of_length_eq_zero hz24
  clear hx1 hx2 hx3 hx4 hx5 hx6 hx7 hx8 hx9 hx10 hx11 hx12 hx13 hx14 hx15 hx16 hx17 hx18 hx19 hx20 hx21 hx22 hx23 hx24 hy1 hy2 hy3 hy4 hy5 hy6 hy7 hy8 hy9 hy10 hy11 hy12 hy13 hy14 hy15 hy16 hy17 hy18 hy19 hy20 hy21 hy22 hy23 hy24 hz1 hz2 hz3 hz4 hz5 hz6 hz7 hz8 hz9 hz10 hz11 hz12 hz13 hz14 hz15 hz16 hz17 hz18 hz19 hz20 hz21 hz22 hz23 hz24
  show _ = _
  kernel_rfl

section
variable {ops : Array Oper} {rest : List Oper} {o : Oper} {a : Act} {Q : Exit → Act → World → Prop}
theorem fr_three (hgd : o.guard = none) {x y z : Operand} (ho : o.op = .buildSlice 46 3 #[(0, x), (1, y), (2, z)]) {f g h : Fr} (hx : a.eval x = .agg f.a) (hy : a.eval y = .agg g.a) (hz : a.eval z = .agg h.a) (hf : f.ok) (hg : g.ok) (hh : h.ok) {w0 W : World} {l : List (Nat × Fr)} (hl : Frs w0 l W) {w5 : World} {l5 : List (Nat × Fr)} (h5 : Frs w5 l5 W)
    (hn : ∀ s w1, Frs w0 l w1 → Frs w5 l5 w1 → w1.heap[s]? = some (.cells (f.a ++ g.a ++ h.a) 27 (0, 0)) → wpList Try.prog ops Q rest (a.put o.dst (.slice (some ⟨s, 0, none⟩) 3 3)) w1) : wpList Try.prog ops Q (o :: rest) a W :=
  Kd.event_run hgd (by unfold execOp; simp only [ho, List.map_toArray, List.map_cons, List.map_nil, hx, hy, hz, Sem.run_bind, run_three f g h hf hg hh W, Result.andThen_ok, Sem.run_pure]) (hn W.heap.size _ (hl.step (below_alloc (Below.refl _ _) _)) (h5.step (below_alloc (Below.refl _ _) _)) (blk_new W _))
end
theorem three_range {W : World} {s : Nat} {a b c : Fr} (ha : a.ok) (hb : b.ok) (hc : c.ok) (h : W.heap[s]? = some (.cells (a.a ++ b.a ++ c.a) 27 (0, 0))) (i : Nat) (hi : i < 3) (x : Fr) (hx : x = if i = 0 then a else if i = 1 then b else c) : W.rangeAt s (26 * i) x.v := by
  intro j v hj
  rw [cell_of_row W s _ _ _ _ h]
  have s1 := Fr.size ha
  have s2 := Fr.size hb
  have s3 := Fr.size hc
  have hxa : x.a[j]? = some v := by unfold Fr.a; simpa using hj
  have hj2 : j < x.a.size := by
    rcases Nat.lt_or_ge j x.a.size with h | h
    · exact h
    · rw [Array.getElem?_eq_none h] at hxa
      cases hxa
  rw [Array.getElem?_append, Array.getElem?_append, Array.size_append, s1, s2]
  obtain rfl | rfl | rfl : i = 0 ∨ i = 1 ∨ i = 2 := by omega
  · simp only [if_true] at hx
    subst hx
    rw [if_pos (by omega), if_pos (by omega), Nat.mul_zero, Nat.zero_add]
    exact hxa
  · simp only [if_true, Nat.one_ne_zero, if_false] at hx
    subst hx
    rw [if_pos (by omega), if_neg (by omega), show 26 * 1 + j - 26 = j by omega]
    exact hxa
  · simp only [if_false, show ¬ (2 = 0) by decide, show ¬ (2 = 1) by decide] at hx
    subst hx
    rw [if_neg (by omega), show 26 * 2 + j - (26 + 26) = j by omega]
    exact hxa
set_option maxHeartbeats 12800000 in
set_option maxRecDepth 100000 in
theorem provisolaw03_FramesOrder.calls (A0 : Option Addr) (c0 : Nat) (l0 : List S59) (a0 a1 : Int) (a2 : List Int) (b0 b1 : Int) (b2 : List Int) (d0 d1 : Int) (d2 : List Int) (w : World) (hr0 : Kd.C k59 w A0 l0.length l0) (hc0 : l0.length ≤ c0) (h : provisolaw03_FramesOrder.Facts l0 a0 a1 a2 b0 b1 b2 d0 d1 d2) :
    Calls Try.prog 6 #[.slice A0 l0.length c0, .agg (⟨a0, a1, a2⟩ : Fr).a, .agg (⟨b0, b1, b2⟩ : Fr).a, .agg (⟨d0, d1, d2⟩ : Fr).a] w fun e w' => e = .returned (.bool true) ∧ Below w.heap.size w w' := by
  obtain ⟨hla, hlb, hld, hu8, k, tb, htb, h⟩ := h
  obtain ⟨a, hae⟩ : ∃ a : Fr, a = ⟨a0, a1, a2⟩ := ⟨_, rfl⟩
  obtain ⟨b, hbe⟩ : ∃ b : Fr, b = ⟨b0, b1, b2⟩ := ⟨_, rfl⟩
  obtain ⟨c, hce⟩ : ∃ c : Fr, c = ⟨d0, d1, d2⟩ := ⟨_, rfl⟩
  have ea2 : a2 = a.sl := by rw [hae]
  have eb2 : b2 = b.sl := by rw [hbe]
  have ec2 : d2 = c.sl := by rw [hce]
  rw [← hae, ← hbe, ← hce] at h ⊢
  rw [ea2, eb2, ec2] at hu8
  have HFA : Aside0 (a.ok) := ⟨by unfold Fr.ok; rw [← ea2]; exact hla⟩
  have HFB : Aside0 (b.ok) := ⟨by unfold Fr.ok; rw [← eb2]; exact hlb⟩
  have HFC : Aside0 (c.ok) := ⟨by unfold Fr.ok; rw [← ec2]; exact hld⟩
  clear ea2 eb2 ec2 hla hlb hld hae hbe hce
  have HR0 := Aside0.mk hr0
  have HC0 := Aside0.mk hc0
  have HTB := Aside0.mk htb
  have HFACT := Aside0.mk h
  have HU8 := Aside0.mk hu8
  have HA := Aside0.mk (Frs.nil w)
  clear hr0 hc0 htb h hu8
  go_enter Try.func6, Try.ntmps6
  go_wp2_with (first | ((with_reducible refine gate_dst (N := 5) rfl ?_); refine fr_box rfl rfl (f := a) rfl HFA.out HA.out ?_; intro ga w_ hA; (try simp only [List.cons_append, List.nil_append] at hA); replace HA := Aside0.mk hA; clear hA) | ((with_reducible refine gate_dst (N := 6) rfl ?_); refine fr_box rfl rfl (f := b) rfl HFB.out HA.out ?_; intro gb w_ hA; (try simp only [List.cons_append, List.nil_append] at hA); replace HA := Aside0.mk hA; clear hA) | ((with_reducible refine gate_dst (N := 7) rfl ?_); refine fr_box rfl rfl (f := c) rfl HFC.out HA.out ?_; intro gc w_ hA; (try simp only [List.cons_append, List.nil_append] at hA); replace HA := Aside0.mk hA; clear hA))
  refine (provisolaw03_table.calls k A0 c0 l0 tb w_ (Kd.C_below HR0.out HA.out.below) HC0.out HTB.out).mono ?_
  rintro e w_ ⟨rfl, hb⟩
  replace HA := Aside0.mk (HA.out.step hb)
  clear hb
  cases tb with
  | false =>
    go_wp2
    go_ret
    exact ⟨rfl, HA.out.below⟩
  | true =>
    obtain ⟨vb, sb, hcls, hv0, hval, hops, hrefl, hzz, htr, has⟩ := HFACT.out rfl
    have HCLS := Aside0.mk hcls
    have HV0 := Aside0.mk hv0
    have HVIA : Aside0 (∀ t ∈ a.sl, types_Valid.f l0 t = some (vb t)) := ⟨fun t ht => (hval t (HU8.out t (.inl ht))).1⟩
    have HVIB : Aside0 (∀ t ∈ b.sl, types_Valid.f l0 t = some (vb t)) := ⟨fun t ht => (hval t (HU8.out t (.inr (.inl ht)))).1⟩
    have HVIC : Aside0 (∀ t ∈ c.sl, types_Valid.f l0 t = some (vb t)) := ⟨fun t ht => (hval t (HU8.out t (.inr (.inr ht)))).1⟩
    have HVAL := Aside0.mk hval
    have HOPS := Aside0.mk hops
    have HREFL := Aside0.mk hrefl
    have HZZ := Aside0.mk hzz
    have HUA : Aside0 (∀ i, i < 24 → 0 ≤ a.sl.getD i 0 ∧ a.sl.getD i 0 ≤ 255) := ⟨fun i hi => HU8.out _ (.inl (order_mem HFA.out hi))⟩
    have HUB : Aside0 (∀ i, i < 24 → 0 ≤ b.sl.getD i 0 ∧ b.sl.getD i 0 ≤ 255) := ⟨fun i hi => HU8.out _ (.inr (.inl (order_mem HFB.out hi)))⟩
    have HUC : Aside0 (∀ i, i < 24 → 0 ≤ c.sl.getD i 0 ∧ c.sl.getD i 0 ≤ 255) := ⟨fun i hi => HU8.out _ (.inr (.inr (order_mem HFC.out hi)))⟩
    have HSIab : Aside0 (∀ i, i < 24 → types_Sub.f k l0 (a.sl.getD i 0) (b.sl.getD i 0) = some (sb (a.sl.getD i 0) (b.sl.getD i 0))) := ⟨fun i hi => HOPS.out _ _ (HUA.out i hi) (HUB.out i hi)⟩
    have HSIbc : Aside0 (∀ i, i < 24 → types_Sub.f k l0 (b.sl.getD i 0) (c.sl.getD i 0) = some (sb (b.sl.getD i 0) (c.sl.getD i 0))) := ⟨fun i hi => HOPS.out _ _ (HUB.out i hi) (HUC.out i hi)⟩
    have HSIac : Aside0 (∀ i, i < 24 → types_Sub.f k l0 (a.sl.getD i 0) (c.sl.getD i 0) = some (sb (a.sl.getD i 0) (c.sl.getD i 0))) := ⟨fun i hi => HOPS.out _ _ (HUA.out i hi) (HUC.out i hi)⟩
    have HSIba : Aside0 (∀ i, i < 24 → types_Sub.f k l0 (b.sl.getD i 0) (a.sl.getD i 0) = some (sb (b.sl.getD i 0) (a.sl.getD i 0))) := ⟨fun i hi => HOPS.out _ _ (HUB.out i hi) (HUA.out i hi)⟩
    have hz0 : ∀ t ∈ Fr.zero.sl, t = 0 := fun t ht => List.eq_of_mem_replicate ht
    have HVIZ : Aside0 (∀ t ∈ Fr.zero.sl, types_Valid.f l0 t = some (vb t)) := ⟨fun t ht => (HVAL.out t (by rw [hz0 t ht]; decide)).1⟩
    have HSIZ : Aside0 (∀ i, i < 24 → types_Sub.f k l0 (Fr.zero.sl.getD i 0) (Fr.zero.sl.getD i 0) = some (sb (Fr.zero.sl.getD i 0) (Fr.zero.sl.getD i 0))) := ⟨fun i hi => HOPS.out _ _ (by rw [hz0 _ (order_mem Fr.zero_ok hi)]; decide) (by rw [hz0 _ (order_mem Fr.zero_ok hi)]; decide)⟩
    obtain ⟨ab, hab⟩ : ∃ u, subS vb sb a b = u := ⟨_, rfl⟩
    obtain ⟨bc, hbc⟩ : ∃ u, subS vb sb b c = u := ⟨_, rfl⟩
    obtain ⟨ac, hac⟩ : ∃ u, subS vb sb a c = u := ⟨_, rfl⟩
    obtain ⟨ba, hba⟩ : ∃ u, subS vb sb b a = u := ⟨_, rfl⟩
    rw [hab, hbc, hac] at htr
    rw [hab, hba] at has
    have HTR := Aside0.mk htr
    have HAS := Aside0.mk has
    have HAB := Aside0.mk hab
    have HBC := Aside0.mk hbc
    have HAC := Aside0.mk hac
    have HBA := Aside0.mk hba
    clear hcls hv0 hval hops hrefl hzz htr has hab hbc hac hba hz0 HFACT HTB
    go_wp2_with fail
    refine (provisoplain_Classes.calls k A0 c0 l0 l0 _ (Kd.C_below HR0.out HA.out.below) HC0.out HCLS.out).mono ?_
    rintro e_ wc ⟨v2, rfl, hS, hb⟩
    obtain ⟨A2, c2, rfl, hc2, hC2⟩ := Kd.R_reads (Kd.S_R hS)
    replace HA := Aside0.mk (HA.out.step hb)
    have HC2 := Aside0.mk hc2
    have HG0 := Aside0.mk hC2
    have HB := Aside0.mk (Frs.nil wc)
    clear hS hc2 hC2 hb
    go_wp2_with (first | ((with_reducible refine gate_dst (N := 21) rfl ?_); refine fr_load rfl rfl rfl HA.out (by first | exact List.mem_cons_self | exact (List.mem_cons_of_mem _ List.mem_cons_self) | exact (List.mem_cons_of_mem _ (List.mem_cons_of_mem _ List.mem_cons_self)) | exact (List.mem_cons_of_mem _ (List.mem_cons_of_mem _ (List.mem_cons_of_mem _ List.mem_cons_self))) | exact (List.mem_cons_of_mem _ (List.mem_cons_of_mem _ (List.mem_cons_of_mem _ (List.mem_cons_of_mem _ List.mem_cons_self)))) | exact (List.mem_cons_of_mem _ (List.mem_cons_of_mem _ (List.mem_cons_of_mem _ (List.mem_cons_of_mem _ (List.mem_cons_of_mem _ List.mem_cons_self))))) | exact (List.mem_cons_of_mem _ (List.mem_cons_of_mem _ (List.mem_cons_of_mem _ (List.mem_cons_of_mem _ (List.mem_cons_of_mem _ (List.mem_cons_of_mem _ List.mem_cons_self))))))) ?_) | ((with_reducible refine gate_dst (N := 22) rfl ?_); refine fr_load rfl rfl rfl HA.out (by first | exact List.mem_cons_self | exact (List.mem_cons_of_mem _ List.mem_cons_self) | exact (List.mem_cons_of_mem _ (List.mem_cons_of_mem _ List.mem_cons_self)) | exact (List.mem_cons_of_mem _ (List.mem_cons_of_mem _ (List.mem_cons_of_mem _ List.mem_cons_self))) | exact (List.mem_cons_of_mem _ (List.mem_cons_of_mem _ (List.mem_cons_of_mem _ (List.mem_cons_of_mem _ List.mem_cons_self)))) | exact (List.mem_cons_of_mem _ (List.mem_cons_of_mem _ (List.mem_cons_of_mem _ (List.mem_cons_of_mem _ (List.mem_cons_of_mem _ List.mem_cons_self))))) | exact (List.mem_cons_of_mem _ (List.mem_cons_of_mem _ (List.mem_cons_of_mem _ (List.mem_cons_of_mem _ (List.mem_cons_of_mem _ (List.mem_cons_of_mem _ List.mem_cons_self))))))) ?_) | ((with_reducible refine gate_dst (N := 23) rfl ?_); refine fr_load rfl rfl rfl HA.out (by first | exact List.mem_cons_self | exact (List.mem_cons_of_mem _ List.mem_cons_self) | exact (List.mem_cons_of_mem _ (List.mem_cons_of_mem _ List.mem_cons_self)) | exact (List.mem_cons_of_mem _ (List.mem_cons_of_mem _ (List.mem_cons_of_mem _ List.mem_cons_self))) | exact (List.mem_cons_of_mem _ (List.mem_cons_of_mem _ (List.mem_cons_of_mem _ (List.mem_cons_of_mem _ List.mem_cons_self)))) | exact (List.mem_cons_of_mem _ (List.mem_cons_of_mem _ (List.mem_cons_of_mem _ (List.mem_cons_of_mem _ (List.mem_cons_of_mem _ List.mem_cons_self))))) | exact (List.mem_cons_of_mem _ (List.mem_cons_of_mem _ (List.mem_cons_of_mem _ (List.mem_cons_of_mem _ (List.mem_cons_of_mem _ (List.mem_cons_of_mem _ List.mem_cons_self))))))) ?_) | ((with_reducible refine gate_dst (N := 24) rfl ?_); refine fr_three rfl rfl rfl rfl rfl HFA.out HFB.out HFC.out HA.out HB.out ?_; intro gs w_ hA hB hgs; have HGS := Aside0.mk hgs; replace HA := Aside0.mk hA; have HB5 := Aside0.mk hB; clear hA hB hgs))
    clear HB
    obtain ⟨w5, hw5⟩ : ∃ w5, w5 = w_ := ⟨_, rfl⟩
    have HG : Aside0 (Kd.C k59 w5 A2 l0.length l0) := ⟨by rw [hw5]; exact Kd.C_below HG0.out HB5.out.below⟩
    have HGS5 : Aside0 (w5.heap[gs]? = some (.cells (a.a ++ b.a ++ c.a) 27 (0, 0))) := ⟨by rw [hw5]; exact HGS.out⟩
    have HB : Aside0 (Frs w5 [] w_) := ⟨by rw [hw5]; exact Frs.nil _⟩
    clear HG0 HB5 HGS hw5
    go_loopw [26] (fun v26 wr => ∃ i : Nat, v26 = .int .i64 (i : Int) ∧ i ≤ 3 ∧ Aside0 (Frs w [(gc, c), (gb, b), (ga, a)] wr) ∧ Aside0 (Frs w5 [] wr)) (fun v26 _ => (3 - intOf v26).toNat)
    case atStart => exact ⟨0, rfl, by decide, HA, HB⟩
    case round =>
      obtain ⟨i, rfl, hi, HA, HB⟩ := hrel
      by_cases c1 : i < 3
      · have c1b : decide ((i : Int) < 3) = true := decide_eq_true (by omega)
        have p1 : (0 ≤ (i : Int)) = True := eq_true (by omega)
        have p2 : ((i : Int) < 3) = True := eq_true (by omega)
        have HI : Aside0 (i < 3) := ⟨c1⟩
        have HW2 : Aside0 (wrap64 ((i : Int) + 1) = ((i + 1 : Nat) : Int)) := ⟨by have := HI.out; unfold wrap64; omega⟩
        obtain ⟨x, hx⟩ : ∃ x : Fr, x = if i = 0 then a else if i = 1 then b else c := ⟨_, rfl⟩
        have HRG : Aside0 (∀ W, Frs w5 [] W → W.rangeAt gs (i * 26) x.v) := ⟨fun W h => by rw [Nat.mul_comm]; exact three_range HFA.out HFB.out HFC.out (blk_below HGS5.out h.below) i HI.out x hx⟩
        have hx3 : x = a ∨ x = b ∨ x = c := by
          rw [hx]
          split
          · exact .inl rfl
          · split
            · exact .inr (.inl rfl)
            · exact .inr (.inr rfl)
        have HFX : Aside0 x.ok := ⟨by
          rcases hx3 with e | e | e
          · rw [e]; exact HFA.out
          · rw [e]; exact HFB.out
          · rw [e]; exact HFC.out⟩
        have HXI : Aside0 ((Try.prog.info? 27).map (·.size) = some x.v.length) := ⟨by have := Fr.info HFX.out; rwa [show x.a.size = x.v.length by unfold Fr.a; simp] at this⟩
        have hxu : ∀ t ∈ x.sl, 0 ≤ t ∧ t ≤ 255 := by
          intro t ht
          rcases hx3 with e | e | e <;> rw [e] at ht
          · exact HU8.out t (.inl ht)
          · exact HU8.out t (.inr (.inl ht))
          · exact HU8.out t (.inr (.inr ht))
        have HVIX : Aside0 (∀ t ∈ x.sl, types_Valid.f l0 t = some (vb t)) := ⟨fun t ht => (HVAL.out t (hxu t ht)).1⟩
        have HVRX : Aside0 (∀ t ∈ x.sl, provisoref02_Valid.f l0 t = some (vb t)) := ⟨fun t ht => (HVAL.out t (hxu t ht)).2⟩
        have HSIxx : Aside0 (∀ i, i < 24 → types_Sub.f k l0 (x.sl.getD i 0) (x.sl.getD i 0) = some (sb (x.sl.getD i 0) (x.sl.getD i 0))) := ⟨fun i hi => HOPS.out _ _ (hxu _ (order_mem HFX.out hi)) (hxu _ (order_mem HFX.out hi))⟩
        have hxs := HREFL.out x hx3
        obtain ⟨ex, hex⟩ : ∃ e, checkS vb x = e := ⟨_, rfl⟩
        obtain ⟨ux, hux⟩ : ∃ u, subS vb sb x x = u := ⟨_, rfl⟩
        rw [hex, hux] at hxs
        have hz : (ex == 0) = ux := by rw [hxs]; by_cases h : ex = 0 <;> simp [h]
        have hq : (ux != ux) = false := by simp
        have HEX := Aside0.mk hex
        have HUX := Aside0.mk hux
        clear hx hx3 hxu hxs hex hux c1
        go_upto_region 7 with (first | ((with_reducible refine gate_dst (N := 29) rfl ?_); refine wpList_load_mid rfl 27 _ rfl gs _ rfl x.v _ (HRG.out _ HB.out) Try.underlying27 rfl HXI.out ?_; change wpList _ _ _ _ (Act.put _ _ (.agg x.a)) _) | ((with_reducible refine gate_dst (N := 11) rfl ?_); refine fr_alloc2 rfl rfl HA.out HB.out ?_; intro gx w_ hA hB; (try simp only [List.cons_append, List.nil_append] at hA hB); replace HA := Aside0.mk hA; replace HB := Aside0.mk hB; clear hA hB) | (refine fr_store2 rfl rfl rfl rfl HFX.out [] HA.out [] HB.out ?_; intro w_ hA hB; (try simp only [List.cons_append, List.nil_append] at hA hB); replace HA := Aside0.mk hA; replace HB := Aside0.mk hB; clear hA hB))
        have hA := HA.out
        have hB := HB.out
        refine wp_region_held_drew (S := (fun w' => Frs w ((gx, x) :: [(gc, c), (gb, b), (ga, a)]) w' ∧ Frs w5 [(gx, x)] w')) (by kernel_rfl) ?_ (fun hHeld => ?_)
        · exact ⟨hA.drewN 1, hB.drewN 1⟩
        clear hA hB
        refine take_dst (i := 0) (v := ?_) 30 rfl rfl (by kernel_rfl) (by kernel_rfl) (by kernel_rfl) (fun _ _ _ h => h) (Or.inl ⟨by rfl, ?_⟩) (by assumption) ?_
        rotate_left
        · intro w hSw
          go_simp
          try with_reducible rfl
        (try simp only [Act.put, List.setIfInBounds_toArray, List.set_cons_zero, List.set_cons_succ])
        refine take_dst (i := 1) 31 rfl rfl (by kernel_rfl) (by kernel_rfl) (by kernel_rfl) (fun _ _ _ h => h) (fr_yields rfl rfl rfl (fun _ h => h.1) List.mem_cons_self) (by assumption) ?_
        (try simp only [Act.put, List.setIfInBounds_toArray, List.set_cons_zero, List.set_cons_succ])
        refine take_dst (i := 2) 32 rfl rfl (by kernel_rfl) (by kernel_rfl) (by kernel_rfl) (fun _ _ _ h => h) (fr_yields rfl rfl rfl (fun _ h => h.1) List.mem_cons_self) (by assumption) ?_
        (try simp only [Act.put, List.setIfInBounds_toArray, List.set_cons_zero, List.set_cons_succ])
        refine take_dst (i := 4) (v := ?_) 34 rfl rfl (by kernel_rfl) (by kernel_rfl) (by kernel_rfl) (fun _ _ _ h => h) (Or.inl ⟨by rfl, ?_⟩) (by assumption) ?_
        rotate_left
        · intro w hSw
          go_simp
          try with_reducible rfl
        (try simp only [Act.put, List.setIfInBounds_toArray, List.set_cons_zero, List.set_cons_succ])
        refine take_dst (i := 5) 35 rfl rfl (by kernel_rfl) (by kernel_rfl) (by kernel_rfl) (fun _ _ _ h => h) (fr_yields rfl rfl rfl (fun _ h => h.1) List.mem_cons_self) (by assumption) ?_
        (try simp only [Act.put, List.setIfInBounds_toArray, List.set_cons_zero, List.set_cons_succ])
        refine wpAnyH_ready (rs := [3]) (by kernel_rfl) (by simp) ?_
        refine AllReadyH.cons rfl (fun K hK => ?_) AllReadyH.nil
        go_simp
        have hcall := frSub_calls k A2 c2 l0 x x HFX.out HFX.out vb sb _ (Kd.C_below HG.out hHeld.2.below) HC2.out HVIX.out HVIX.out HSIxx.out
        rw [HUX.out] at hcall
        refine hcall.mono ?_
        clear hcall
        rintro e_ w9 ⟨rfl, hb⟩
        have h9 : Frs w ((gx, x) :: [(gc, c), (gb, b), (ga, a)]) w9 ∧ Frs w5 [(gx, x)] w9 := ⟨hHeld.1.step hb, hHeld.2.step hb⟩
        go_simp
        refine hK.out _ _ h9 (fun hHeld => ?_)
        (try simp only [Act.put, List.setIfInBounds_toArray, List.set_cons_zero, List.set_cons_succ])
        clear hK K h9 hb
        refine wpAnyH_ready (rs := [6]) (by kernel_rfl) (by simp) ?_
        refine AllReadyH.cons rfl (fun K hK => ?_) AllReadyH.nil
        go_simp
        have hcall := refCheck_calls A0 c0 l0 x HFX.out vb _ (Kd.C_below HR0.out hHeld.1.below) HC0.out HV0.out HVRX.out
        rw [HEX.out] at hcall
        refine hcall.mono ?_
        clear hcall
        rintro e_ w9 ⟨rfl, hb⟩
        have h9 : Frs w ((gx, x) :: [(gc, c), (gb, b), (ga, a)]) w9 ∧ Frs w5 [(gx, x)] w9 := ⟨hHeld.1.step hb, hHeld.2.step hb⟩
        go_simp
        refine hK.out _ _ h9 (fun hHeld => ?_)
        (try simp only [Act.put, List.setIfInBounds_toArray, List.set_cons_zero, List.set_cons_succ])
        clear hK K h9 hb
        refine take_dst (i := 7) (v := ?_) 37 rfl rfl (by kernel_rfl) (by kernel_rfl) (by kernel_rfl) (fun _ _ _ h => h) (Or.inl ⟨by rfl, ?_⟩) (by assumption) ?_
        rotate_left
        · intro w hSw
          go_simp
          try with_reducible rfl
        (try simp only [Act.put, List.setIfInBounds_toArray, List.set_cons_zero, List.set_cons_succ])
        refine take_dst (i := 8) (v := ?_) 38 rfl rfl (by kernel_rfl) (by kernel_rfl) (by kernel_rfl) (fun _ _ _ h => h) (Or.inl ⟨by rfl, ?_⟩) (by assumption) ?_
        rotate_left
        · intro w hSw
          go_simp
          try with_reducible rfl
        (try simp only [Act.put, List.setIfInBounds_toArray, List.set_cons_zero, List.set_cons_succ])
        refine wpAnyH_done (by kernel_rfl) ?_ _
        have HA := Aside0.mk hHeld.1.tail
        have HB := Aside0.mk hHeld.2.tail
        clear hHeld
        go_wp2
        exact ⟨⟨i + 1, rfl, HI.out, HA, HB⟩, by have := HI.out; simp [intOf]; omega⟩
      · have c1b : decide ((i : Int) < 3) = false := decide_eq_false (by omega)
        go_wp2_with (first | ((with_reducible refine gate_dst (N := 41) rfl ?_); refine fr_build0 rfl rfl ?_) | ((with_reducible refine gate_dst (N := 42) rfl ?_); refine fr_build0 rfl rfl ?_))
        have hcall := frSub_calls k A2 c2 l0 Fr.zero Fr.zero Fr.zero_ok Fr.zero_ok vb sb _ (Kd.C_below HG.out HB.out.below) HC2.out HVIZ.out HVIZ.out HSIZ.out
        rw [HZZ.out] at hcall
        refine hcall.mono ?_
        clear hcall
        rintro e_ w_ ⟨rfl, hb⟩
        replace HA := Aside0.mk (HA.out.step hb)
        replace HB := Aside0.mk (HB.out.step hb)
        clear hb
        go_upto_region 12 with (fail)
        have hA := HA.out
        have hB := HB.out
        refine wp_region_held_drew (S := (fun w' => Frs w [(gc, c), (gb, b), (ga, a)] w' ∧ Frs w5 [] w')) (by kernel_rfl) ?_ (fun hHeld => ?_)
        · exact ⟨hA.drewN 1, hB.drewN 1⟩
        clear hA hB
        refine take_dst (i := 0) (v := ?_) 45 rfl rfl (by kernel_rfl) (by kernel_rfl) (by kernel_rfl) (fun _ _ _ h => h) (Or.inl ⟨by rfl, ?_⟩) (by assumption) ?_
        rotate_left
        · intro w hSw
          go_simp
          try with_reducible rfl
        (try simp only [Act.put, List.setIfInBounds_toArray, List.set_cons_zero, List.set_cons_succ])
        refine take_dst (i := 1) 46 rfl rfl (by kernel_rfl) (by kernel_rfl) (by kernel_rfl) (fun _ _ _ h => h) (fr_yields rfl rfl rfl (fun _ h => h.1) (List.mem_cons_of_mem _ (List.mem_cons_of_mem _ List.mem_cons_self))) (by assumption) ?_
        (try simp only [Act.put, List.setIfInBounds_toArray, List.set_cons_zero, List.set_cons_succ])
        refine take_dst (i := 2) 47 rfl rfl (by kernel_rfl) (by kernel_rfl) (by kernel_rfl) (fun _ _ _ h => h) (fr_yields rfl rfl rfl (fun _ h => h.1) (List.mem_cons_of_mem _ List.mem_cons_self)) (by assumption) ?_
        (try simp only [Act.put, List.setIfInBounds_toArray, List.set_cons_zero, List.set_cons_succ])
        refine take_dst (i := 4) (v := ?_) 49 rfl rfl (by kernel_rfl) (by kernel_rfl) (by kernel_rfl) (fun _ _ _ h => h) (Or.inl ⟨by rfl, ?_⟩) (by assumption) ?_
        rotate_left
        · intro w hSw
          go_simp
          try with_reducible rfl
        (try simp only [Act.put, List.setIfInBounds_toArray, List.set_cons_zero, List.set_cons_succ])
        refine take_dst (i := 5) 50 rfl rfl (by kernel_rfl) (by kernel_rfl) (by kernel_rfl) (fun _ _ _ h => h) (fr_yields rfl rfl rfl (fun _ h => h.1) (List.mem_cons_of_mem _ List.mem_cons_self)) (by assumption) ?_
        (try simp only [Act.put, List.setIfInBounds_toArray, List.set_cons_zero, List.set_cons_succ])
        refine take_dst (i := 6) 51 rfl rfl (by kernel_rfl) (by kernel_rfl) (by kernel_rfl) (fun _ _ _ h => h) (fr_yields rfl rfl rfl (fun _ h => h.1) List.mem_cons_self) (by assumption) ?_
        (try simp only [Act.put, List.setIfInBounds_toArray, List.set_cons_zero, List.set_cons_succ])
        refine take_dst (i := 8) (v := ?_) 53 rfl rfl (by kernel_rfl) (by kernel_rfl) (by kernel_rfl) (fun _ _ _ h => h) (Or.inl ⟨by rfl, ?_⟩) (by assumption) ?_
        rotate_left
        · intro w hSw
          go_simp
          try with_reducible rfl
        (try simp only [Act.put, List.setIfInBounds_toArray, List.set_cons_zero, List.set_cons_succ])
        refine take_dst (i := 9) 54 rfl rfl (by kernel_rfl) (by kernel_rfl) (by kernel_rfl) (fun _ _ _ h => h) (fr_yields rfl rfl rfl (fun _ h => h.1) (List.mem_cons_of_mem _ (List.mem_cons_of_mem _ List.mem_cons_self))) (by assumption) ?_
        (try simp only [Act.put, List.setIfInBounds_toArray, List.set_cons_zero, List.set_cons_succ])
        refine take_dst (i := 10) 55 rfl rfl (by kernel_rfl) (by kernel_rfl) (by kernel_rfl) (fun _ _ _ h => h) (fr_yields rfl rfl rfl (fun _ h => h.1) List.mem_cons_self) (by assumption) ?_
        (try simp only [Act.put, List.setIfInBounds_toArray, List.set_cons_zero, List.set_cons_succ])
        refine take_dst (i := 12) (v := ?_) 57 rfl rfl (by kernel_rfl) (by kernel_rfl) (by kernel_rfl) (fun _ _ _ h => h) (Or.inl ⟨by rfl, ?_⟩) (by assumption) ?_
        rotate_left
        · intro w hSw
          go_simp
          try with_reducible rfl
        (try simp only [Act.put, List.setIfInBounds_toArray, List.set_cons_zero, List.set_cons_succ])
        refine take_dst (i := 13) 58 rfl rfl (by kernel_rfl) (by kernel_rfl) (by kernel_rfl) (fun _ _ _ h => h) (fr_yields rfl rfl rfl (fun _ h => h.1) (List.mem_cons_of_mem _ List.mem_cons_self)) (by assumption) ?_
        (try simp only [Act.put, List.setIfInBounds_toArray, List.set_cons_zero, List.set_cons_succ])
        refine take_dst (i := 14) 59 rfl rfl (by kernel_rfl) (by kernel_rfl) (by kernel_rfl) (fun _ _ _ h => h) (fr_yields rfl rfl rfl (fun _ h => h.1) (List.mem_cons_of_mem _ (List.mem_cons_of_mem _ List.mem_cons_self))) (by assumption) ?_
        (try simp only [Act.put, List.setIfInBounds_toArray, List.set_cons_zero, List.set_cons_succ])
        refine wpAnyH_ready (rs := [3]) (by kernel_rfl) (by simp) ?_
        refine AllReadyH.cons rfl (fun K hK => ?_) AllReadyH.nil
        go_simp
        have hcall := frSub_calls k A2 c2 l0 a b HFA.out HFB.out vb sb _ (Kd.C_below HG.out hHeld.2.below) HC2.out HVIA.out HVIB.out HSIab.out
        rw [HAB.out] at hcall
        refine hcall.mono ?_
        clear hcall
        rintro e_ w9 ⟨rfl, hb⟩
        have h9 : Frs w [(gc, c), (gb, b), (ga, a)] w9 ∧ Frs w5 [] w9 := ⟨hHeld.1.step hb, hHeld.2.step hb⟩
        go_simp
        refine hK.out _ _ h9 (fun hHeld => ?_)
        (try simp only [Act.put, List.setIfInBounds_toArray, List.set_cons_zero, List.set_cons_succ])
        clear hK K h9 hb
        refine wpAnyH_ready (rs := [7]) (by kernel_rfl) (by simp) ?_
        refine AllReadyH.cons rfl (fun K hK => ?_) AllReadyH.nil
        go_simp
        have hcall := frSub_calls k A2 c2 l0 b c HFB.out HFC.out vb sb _ (Kd.C_below HG.out hHeld.2.below) HC2.out HVIB.out HVIC.out HSIbc.out
        rw [HBC.out] at hcall
        refine hcall.mono ?_
        clear hcall
        rintro e_ w9 ⟨rfl, hb⟩
        have h9 : Frs w [(gc, c), (gb, b), (ga, a)] w9 ∧ Frs w5 [] w9 := ⟨hHeld.1.step hb, hHeld.2.step hb⟩
        go_simp
        refine hK.out _ _ h9 (fun hHeld => ?_)
        (try simp only [Act.put, List.setIfInBounds_toArray, List.set_cons_zero, List.set_cons_succ])
        clear hK K h9 hb
        refine wpAnyH_ready (rs := [11]) (by kernel_rfl) (by simp) ?_
        refine AllReadyH.cons rfl (fun K hK => ?_) AllReadyH.nil
        go_simp
        have hcall := frSub_calls k A2 c2 l0 a c HFA.out HFC.out vb sb _ (Kd.C_below HG.out hHeld.2.below) HC2.out HVIA.out HVIC.out HSIac.out
        rw [HAC.out] at hcall
        refine hcall.mono ?_
        clear hcall
        rintro e_ w9 ⟨rfl, hb⟩
        have h9 : Frs w [(gc, c), (gb, b), (ga, a)] w9 ∧ Frs w5 [] w9 := ⟨hHeld.1.step hb, hHeld.2.step hb⟩
        go_simp
        refine hK.out _ _ h9 (fun hHeld => ?_)
        (try simp only [Act.put, List.setIfInBounds_toArray, List.set_cons_zero, List.set_cons_succ])
        clear hK K h9 hb
        refine wpAnyH_ready (rs := [15]) (by kernel_rfl) (by simp) ?_
        refine AllReadyH.cons rfl (fun K hK => ?_) AllReadyH.nil
        go_simp
        have hcall := frSub_calls k A2 c2 l0 b a HFB.out HFA.out vb sb _ (Kd.C_below HG.out hHeld.2.below) HC2.out HVIB.out HVIA.out HSIba.out
        rw [HBA.out] at hcall
        refine hcall.mono ?_
        clear hcall
        rintro e_ w9 ⟨rfl, hb⟩
        have h9 : Frs w [(gc, c), (gb, b), (ga, a)] w9 ∧ Frs w5 [] w9 := ⟨hHeld.1.step hb, hHeld.2.step hb⟩
        go_simp
        refine hK.out _ _ h9 (fun hHeld => ?_)
        (try simp only [Act.put, List.setIfInBounds_toArray, List.set_cons_zero, List.set_cons_succ])
        clear hK K h9 hb
        refine take_dst (i := 16) (v := ?_) 12 rfl rfl (by kernel_rfl) (by kernel_rfl) (by kernel_rfl) (fun _ _ _ h => h) (Or.inl ⟨by rfl, ?_⟩) (by assumption) ?_
        rotate_left
        · intro w hSw
          go_simp
          try with_reducible rfl
        (try simp only [Act.put, List.setIfInBounds_toArray, List.set_cons_zero, List.set_cons_succ])
        refine take_dst (i := 17) (v := ?_) 13 rfl rfl (by kernel_rfl) (by kernel_rfl) (by kernel_rfl) (fun _ _ _ h => h) (Or.inl ⟨by rfl, ?_⟩) (by assumption) ?_
        rotate_left
        · intro w hSw
          go_simp
          try with_reducible rfl
        (try simp only [Act.put, List.setIfInBounds_toArray, List.set_cons_zero, List.set_cons_succ])
        refine take_dst (i := 18) (v := ?_) 14 rfl rfl (by kernel_rfl) (by kernel_rfl) (by kernel_rfl) (fun _ _ _ h => h) (Or.inl ⟨by rfl, ?_⟩) (by assumption) ?_
        rotate_left
        · intro w hSw
          go_simp
          try with_reducible rfl
        (try simp only [Act.put, List.setIfInBounds_toArray, List.set_cons_zero, List.set_cons_succ])
        refine take_dst (i := 19) (v := ?_) 15 rfl rfl (by kernel_rfl) (by kernel_rfl) (by kernel_rfl) (fun _ _ _ h => h) (Or.inl ⟨by rfl, ?_⟩) (by assumption) ?_
        rotate_left
        · intro w hSw
          go_simp
          try with_reducible rfl
        (try simp only [Act.put, List.setIfInBounds_toArray, List.set_cons_zero, List.set_cons_succ])
        refine wpAnyH_done (by kernel_rfl) ?_ _
        have HA := Aside0.mk hHeld.1
        clear hHeld
        cases ab with
        | false =>
          go_wp2
          go_ret
          exact ⟨rfl, HA.out.below⟩
        | true =>
          cases ba with
          | false =>
            cases bc with
            | false =>
              go_wp2
              go_ret
              exact ⟨rfl, HA.out.below⟩
            | true =>
              obtain rfl : ac = true := by simpa using HTR.out
              go_wp2
              go_ret
              exact ⟨rfl, HA.out.below⟩
          | true =>
            have hab : a = b := by simpa using HAS.out
            have hfq : frEq a b = true := by rw [hab]; exact frEq_self _
            have HFQ := Aside0.mk hfq
            clear hab hfq
            cases bc with
            | false =>
              go_wp2_with (first | ((with_reducible refine gate_dst (N := 76) rfl ?_); refine fr_guard rfl (by rfl) ?_; dsimp only; refine fr_load rfl rfl rfl HA.out (by first | exact List.mem_cons_self | exact (List.mem_cons_of_mem _ List.mem_cons_self) | exact (List.mem_cons_of_mem _ (List.mem_cons_of_mem _ List.mem_cons_self)) | exact (List.mem_cons_of_mem _ (List.mem_cons_of_mem _ (List.mem_cons_of_mem _ List.mem_cons_self))) | exact (List.mem_cons_of_mem _ (List.mem_cons_of_mem _ (List.mem_cons_of_mem _ (List.mem_cons_of_mem _ List.mem_cons_self)))) | exact (List.mem_cons_of_mem _ (List.mem_cons_of_mem _ (List.mem_cons_of_mem _ (List.mem_cons_of_mem _ (List.mem_cons_of_mem _ List.mem_cons_self))))) | exact (List.mem_cons_of_mem _ (List.mem_cons_of_mem _ (List.mem_cons_of_mem _ (List.mem_cons_of_mem _ (List.mem_cons_of_mem _ (List.mem_cons_of_mem _ List.mem_cons_self))))))) ?_) | ((with_reducible refine gate_dst (N := 77) rfl ?_); refine fr_guard rfl (by rfl) ?_; dsimp only; refine fr_load rfl rfl rfl HA.out (by first | exact List.mem_cons_self | exact (List.mem_cons_of_mem _ List.mem_cons_self) | exact (List.mem_cons_of_mem _ (List.mem_cons_of_mem _ List.mem_cons_self)) | exact (List.mem_cons_of_mem _ (List.mem_cons_of_mem _ (List.mem_cons_of_mem _ List.mem_cons_self))) | exact (List.mem_cons_of_mem _ (List.mem_cons_of_mem _ (List.mem_cons_of_mem _ (List.mem_cons_of_mem _ List.mem_cons_self)))) | exact (List.mem_cons_of_mem _ (List.mem_cons_of_mem _ (List.mem_cons_of_mem _ (List.mem_cons_of_mem _ (List.mem_cons_of_mem _ List.mem_cons_self))))) | exact (List.mem_cons_of_mem _ (List.mem_cons_of_mem _ (List.mem_cons_of_mem _ (List.mem_cons_of_mem _ (List.mem_cons_of_mem _ (List.mem_cons_of_mem _ List.mem_cons_self))))))) ?_) | ((with_reducible refine gate_dst (N := 78) rfl ?_); refine fr_guard rfl (by rfl) ?_; dsimp only; refine fr_eql rfl rfl (f := a) (g := b) rfl rfl HFA.out HFB.out ?_; rw [HFQ.out]))
              go_ret
              exact ⟨rfl, HA.out.below⟩
            | true =>
              obtain rfl : ac = true := by simpa using HTR.out
              go_wp2_with (first | ((with_reducible refine gate_dst (N := 76) rfl ?_); refine fr_guard rfl (by rfl) ?_; dsimp only; refine fr_load rfl rfl rfl HA.out (by first | exact List.mem_cons_self | exact (List.mem_cons_of_mem _ List.mem_cons_self) | exact (List.mem_cons_of_mem _ (List.mem_cons_of_mem _ List.mem_cons_self)) | exact (List.mem_cons_of_mem _ (List.mem_cons_of_mem _ (List.mem_cons_of_mem _ List.mem_cons_self))) | exact (List.mem_cons_of_mem _ (List.mem_cons_of_mem _ (List.mem_cons_of_mem _ (List.mem_cons_of_mem _ List.mem_cons_self)))) | exact (List.mem_cons_of_mem _ (List.mem_cons_of_mem _ (List.mem_cons_of_mem _ (List.mem_cons_of_mem _ (List.mem_cons_of_mem _ List.mem_cons_self))))) | exact (List.mem_cons_of_mem _ (List.mem_cons_of_mem _ (List.mem_cons_of_mem _ (List.mem_cons_of_mem _ (List.mem_cons_of_mem _ (List.mem_cons_of_mem _ List.mem_cons_self))))))) ?_) | ((with_reducible refine gate_dst (N := 77) rfl ?_); refine fr_guard rfl (by rfl) ?_; dsimp only; refine fr_load rfl rfl rfl HA.out (by first | exact List.mem_cons_self | exact (List.mem_cons_of_mem _ List.mem_cons_self) | exact (List.mem_cons_of_mem _ (List.mem_cons_of_mem _ List.mem_cons_self)) | exact (List.mem_cons_of_mem _ (List.mem_cons_of_mem _ (List.mem_cons_of_mem _ List.mem_cons_self))) | exact (List.mem_cons_of_mem _ (List.mem_cons_of_mem _ (List.mem_cons_of_mem _ (List.mem_cons_of_mem _ List.mem_cons_self)))) | exact (List.mem_cons_of_mem _ (List.mem_cons_of_mem _ (List.mem_cons_of_mem _ (List.mem_cons_of_mem _ (List.mem_cons_of_mem _ List.mem_cons_self))))) | exact (List.mem_cons_of_mem _ (List.mem_cons_of_mem _ (List.mem_cons_of_mem _ (List.mem_cons_of_mem _ (List.mem_cons_of_mem _ (List.mem_cons_of_mem _ List.mem_cons_self))))))) ?_) | ((with_reducible refine gate_dst (N := 78) rfl ?_); refine fr_guard rfl (by rfl) ?_; dsimp only; refine fr_eql rfl rfl (f := a) (g := b) rfl rfl HFA.out HFB.out ?_; rw [HFQ.out]))
              go_ret
              exact ⟨rfl, HA.out.below⟩

def classOf (l : List S59) (a : Int) : Int := if a < 16 then -1 else if (a - 16) % 256 ≥ (l.length : Int) then -1 else (a - 16) % 256
theorem class_is (l : List S59) (a : Int) : types_class.f l a = some (classOf l a) := by
  unfold types_class.f classOf
  split
  · rfl
  · split <;> rfl
def isRefB (a : Int) : Bool := decide (a = 3) || decide (a = 4) || decide (a = 5) || decide (a ≥ 16)
theorem isRef_is (a : Int) : types_IsRef.f a = some (isRefB a) := by
  unfold types_IsRef.f isRefB
  by_cases h3 : a = 3 <;> by_cases h4 : a = 4 <;> by_cases h5 : a = 5 <;> simp [h3, h4, h5]
structure MergeHeld (W0 : World) (Bo : Nat) (A0 : Option Addr) (c0 : Nat) (l : List S59) (W : World) : Prop where
  reads : Kd.C k59 W A0 l.length l
  below : Below W0.heap.size W0 W
  lies : W.heap[W0.heap.size]? = some (.cells #[.slice A0 l.length c0] 22 (0, 0))
  out : W.heap[Bo]? = some (.cells #[.int .u8 5] 24 (0, 0))
theorem MergeHeld.drew {W0 : World} {Bo : Nat} {A0 : Option Addr} {c0 : Nat} {l : List S59} {W : World} (h : MergeHeld W0 Bo A0 c0 l W) : MergeHeld W0 Bo A0 c0 l W.drew := ⟨Kd.C_drew h.reads, below_drew1 h.below, blk_drew h.lies, blk_drew h.out⟩
theorem MergeHeld.drewN {W0 : World} {Bo : Nat} {A0 : Option Addr} {c0 : Nat} {l : List S59} {W : World} (h : MergeHeld W0 Bo A0 c0 l W) (m : Nat) : MergeHeld W0 Bo A0 c0 l (W.drewN m) := ⟨Kd.C_drewN h.reads m, pw_below_drewN h.below m, blk_drewN h.lies m, blk_drewN h.out m⟩
theorem MergeHeld.alloc {W0 : World} {Bo : Nat} {A0 : Option Addr} {c0 : Nat} {l : List S59} {W : World} (h : MergeHeld W0 Bo A0 c0 l W) (o : Obj) : MergeHeld W0 Bo A0 c0 l (W.alloc o) := ⟨Kd.C_alloc h.reads o, below_alloc h.below o, blk_alloc h.lies o, blk_alloc h.out o⟩
end Go.Proofs.Ytgjnmpgmbhbbhaa.P

end

section
namespace Go.Proofs.Ytgjnmpgmbhbbhaa.P
open Go.RowKit Go.Proofs.YtgjnmpgmbhbbhaaW.PrintWords
def provisolaw03_FramesOrder.Pure : Prop := ∀ (l0 : List (S59)) (a1_0 : Int) (a1_1 : Int) (a1_2 : List (Int)) (a2_0 : Int) (a2_1 : Int) (a2_2 : List (Int)) (a3_0 : Int) (a3_1 : Int) (a3_2 : List (Int)), (fun l : List (S59) => l.length ≤ 9223372036854775807 ∧ l.length * 48 ≤ 140737488351232 ∧ ∀ x ∈ l, Ok59 x) l0 → (fun n : Int => (Lit.int .i64 n).wf = true) a1_0 → (fun n : Int => (Lit.int .i64 n).wf = true) a1_1 → (fun l : List (Int) => l.length = 24 ∧ ∀ x ∈ l, (fun n : Int => (Lit.int .u8 n).wf = true) x) a1_2 → (fun n : Int => (Lit.int .i64 n).wf = true) a2_0 → (fun n : Int => (Lit.int .i64 n).wf = true) a2_1 → (fun l : List (Int) => l.length = 24 ∧ ∀ x ∈ l, (fun n : Int => (Lit.int .u8 n).wf = true) x) a2_2 → (fun n : Int => (Lit.int .i64 n).wf = true) a3_0 → (fun n : Int => (Lit.int .i64 n).wf = true) a3_1 → (fun l : List (Int) => l.length = 24 ∧ ∀ x ∈ l, (fun n : Int => (Lit.int .u8 n).wf = true) x) a3_2 → provisolaw03_FramesOrder.Facts l0 a1_0 a1_1 a1_2 a2_0 a2_1 a2_2 a3_0 a3_1 a3_2
end Go.Proofs.Ytgjnmpgmbhbbhaa.P

end

section
namespace Go.Proofs.Ytgjnmpgmbhbbhaa.P
open Go.RowKit Go.Proofs.YtgjnmpgmbhbbhaaW.PrintWords Go.Proofs.YtgjnmpgmbhbbhaaW.PrintLast Go.Proofs.YtgjnmpgmbhbbhaaW.PrintMore
set_option linter.unusedVariables false
set_option linter.unusedSimpArgs false

theorem w_next {i : Int} {n : Nat} (h0 : 0 ≤ i) (h : i < (n : Int)) (hn : n ≤ 9223372036854775807) : wrap64 (i + 1) = i + 1 := by
  unfold wrap64
  omega

def sign (i c : Int) : Bool :=
  (decide (97 ≤ c) && decide (c ≤ 122)) || (decide (65 ≤ c) && decide (c ≤ 90)) || (decide (0 < i) && ((decide (48 ≤ c) && decide (c ≤ 57)) || decide (c = 95)))
def tailOk (s : ByteArray) : Nat → Bool
  | 0 => true
  | d + 1 => sign ((s.size : Int) - (d + 1)) (bt s ((s.size : Int) - (d + 1))) && tailOk s d
def nameOk (s : ByteArray) : Bool := decide (1 ≤ s.size) && decide (s.size ≤ 24) && tailOk s s.size
theorem ref_name_tail (s : ByteArray) (hn : s.size ≤ 140737488351232) (d : Nat) : ∀ (i : Int), 0 ≤ i → i ≤ s.size → (s.size : Int) - i = d → Ev (fun k => provisoref02_IsName.l0 k s i) (tailOk s d) := by
  induction d with
  | zero =>
    intro i h0 h1 hd
    exact Ev.step (f := fun _ => some true) (fun k => by simp only [provisoref02_IsName.l0]; rw [if_neg (by omega)]) (Ev.now _)
  | succ d ih =>
    intro i h0 h1 hd
    have hlt : i < (s.size : Int) := by omega
    have hi : (s.size : Int) - (d + 1) = i := by omega
    have h := ih (i + 1) (by omega) (by omega) (by omega)
    cases hs : sign i (bt s i) with
    | true =>
      refine Ev.step (fun k => ?_) (show Ev _ (tailOk s (d + 1)) from by simp only [tailOk, hi, hs, Bool.true_and]; exact h)
      simp only [provisoref02_IsName.l0]
      rw [if_pos hlt, if_pos h0, w_next h0 hlt (by omega)]
      revert hs
      generalize bt s i = c
      intro hs
      by_cases a1 : 97 ≤ c <;> by_cases a2 : c ≤ 122 <;> by_cases a3 : 65 ≤ c <;> by_cases a4 : c ≤ 90 <;> by_cases a5 : i = 0 <;> by_cases a6 : c < 48 <;> by_cases a7 : 57 < c <;> by_cases a8 : c = 95 <;> (try omega) <;> (have a9 : 0 < i ∨ i = 0 := by omega) <;> simp [sign, a1, a2, a3, a4, a5, a6, a7, a8] at hs ⊢ <;> omega
    | false =>
      refine Ev.step (f := fun _ => some false) (fun k => ?_) (show Ev _ (tailOk s (d + 1)) from by simp only [tailOk, hi, hs, Bool.false_and]; exact Ev.now _)
      simp only [provisoref02_IsName.l0]
      rw [if_pos hlt, if_pos h0, w_next h0 hlt (by omega)]
      revert hs
      generalize bt s i = c
      intro hs
      by_cases a1 : 97 ≤ c <;> by_cases a2 : c ≤ 122 <;> by_cases a3 : 65 ≤ c <;> by_cases a4 : c ≤ 90 <;> by_cases a5 : i = 0 <;> by_cases a6 : c < 48 <;> by_cases a7 : 57 < c <;> by_cases a8 : c = 95 <;> (try omega) <;> (have a9 : 0 < i ∨ i = 0 := by omega) <;> simp [sign, a1, a2, a3, a4, a5, a6, a7, a8] at hs ⊢ <;> omega
theorem ref_name (s : ByteArray) (hn : s.size ≤ 140737488351232) : Ev (fun k => provisoref02_IsName.f k s) (nameOk s) := by
  have h := ref_name_tail s hn s.size 0 (by omega) (by omega) (by omega)
  by_cases a1 : (s.size : Int) < 1
  · have e : nameOk s = false := by unfold nameOk; rw [decide_eq_false (by omega)]; simp
    rw [e]
    refine Ev.congr (f := fun k => provisoref02_IsName.j0 k s true) (fun k => by unfold provisoref02_IsName.f; rw [if_pos a1]) ?_
    exact Ev.step (f := fun _ => some false) (fun k => by simp only [provisoref02_IsName.j0]; rfl) (Ev.now _)
  · refine Ev.congr (f := fun k => provisoref02_IsName.j0 k s (decide ((s.size : Int) > 24))) (fun k => by unfold provisoref02_IsName.f; rw [if_neg a1]) ?_
    by_cases a2 : (s.size : Int) > 24
    · have e : nameOk s = false := by unfold nameOk; rw [decide_eq_false (p := s.size ≤ 24) (by omega)]; simp
      rw [e]
      exact Ev.step (f := fun _ => some false) (fun k => by simp only [provisoref02_IsName.j0]; simp [a2]) (Ev.now _)
    · have e : nameOk s = tailOk s s.size := by unfold nameOk; rw [decide_eq_true (p := s.size ≤ 24) (by omega), decide_eq_true (p := 1 ≤ s.size) (by omega)]; simp
      rw [e]
      exact Ev.step (fun k => by simp only [provisoref02_IsName.j0]; simp [a2]) h

theorem str_eq (a b : ByteArray) : a.toList = b.toList ↔ a = b :=
  ⟨fun h => by rw [ByteArray.toList_eq, ByteArray.toList_eq] at h; exact Go.WideShapes.bytes_inj h, fun h => by rw [h]⟩
def words6 : List ByteArray := [⟨#[116, 111, 112]⟩, ⟨#[105, 110, 116]⟩, ⟨#[98, 111, 111, 108]⟩, ⟨#[110, 117, 108, 108]⟩, ⟨#[105, 110, 116, 115]⟩, ⟨#[97, 110, 121]⟩]
def isWordB (s : ByteArray) : Bool := words6.any fun t => decide (t = s)
theorem ref_word (s : ByteArray) : Ev (fun k => provisoref02_isWord.f k s) (isWordB s) := by
  have step : ∀ (x : Int) (t : ByteArray) (r : Bool), 0 ≤ x → x ≤ 5 → provisoref02_word.f x = some t → Ev (fun k => provisoref02_isWord.l0 k s (x + 1)) r → Ev (fun k => provisoref02_isWord.l0 k s x) (decide (t = s) || r) := by
    intro x t r h0 h5 ht h
    by_cases e : t = s
    · rw [decide_eq_true e, Bool.true_or]
      exact Ev.step (f := fun _ => some true) (fun k => by simp only [provisoref02_isWord.l0]; rw [if_pos (by omega), ht]; simp [e]) (Ev.now _)
    · rw [decide_eq_false e, Bool.false_or]
      refine Ev.step (fun k => ?_) h
      simp only [provisoref02_isWord.l0]
      rw [if_pos (by omega), ht]
      simp only [Option.bind_some, str_eq]
      rw [if_neg e, show (x + 1) % 256 = x + 1 from by omega]
  have h6 : Ev (fun k => provisoref02_isWord.l0 k s 6) false := Ev.step (f := fun _ => some false) (fun k => by simp only [provisoref02_isWord.l0]; rw [if_neg (by omega)]) (Ev.now _)
  have h := step 0 _ _ (by omega) (by omega) rfl (step 1 _ _ (by omega) (by omega) rfl (step 2 _ _ (by omega) (by omega) rfl (step 3 _ _ (by omega) (by omega) rfl (step 4 _ _ (by omega) (by omega) rfl (step 5 _ _ (by omega) (by omega) rfl h6)))))
  exact h

abbrev Tbl := List S59
def par (l : Tbl) (c : Int) : Int := (rd_T59 l c).f1
def nam (l : Tbl) (c : Int) : ByteArray := (rd_T59 l c).f0
def own (l : Tbl) (c : Int) : List S62 := (rd_T59 l c).f2
def Dec (l : Tbl) (n : Int) : Prop := ∀ i : Int, 0 ≤ i → i < n → par l i < i
def fieldsOf (l : Tbl) (c : Int) : List S62 := (climbL l c).reverse.flatMap fun i => own l i
theorem line_tells (l : Tbl) (n : Int) (hn : n ≤ l.length) (hl : l.length * 48 ≤ 140737488351232) (hd : Dec l n) : ∀ (d : Nat) (c : Int) (acc : List Int), c < n → (c + 1).toNat ≤ d → (acc.length : Int) + c < l.length → acc.length ≤ l.length →
    Ev (fun k => provisoref02_Line.l0 k l c acc) (acc ++ climbL l c)
  | 0, c, acc, _, h, _, _ => by
    rw [climbL_out l c (by omega), List.append_nil]
    exact Ev.step (f := fun _ => some acc) (fun k => by simp only [provisoref02_Line.l0]; rw [if_neg (by omega)]) (Ev.now _)
  | d + 1, c, acc, hc, hcd, ha, ha2 => by
    by_cases h0 : 0 ≤ c
    · have hp := hd c h0 hc
      have hcl : c < (l.length : Int) := by omega
      rw [climbL_in l c h0 hcl hp]
      have hx := line_tells l n hn hl hd d (par l c) (acc ++ [c]) (by omega) (by omega) (by simp; omega) (by simp; omega)
      rw [List.append_assoc] at hx
      refine Ev.step (fun k => ?_) hx
      simp only [provisoref02_Line.l0]
      rw [if_pos h0, if_pos hcl, if_pos (by omega), if_pos (by omega), if_pos h0]
      rfl
    · rw [climbL_out l c (by omega), List.append_nil]
      exact Ev.step (f := fun _ => some acc) (fun k => by simp only [provisoref02_Line.l0]; rw [if_neg (by omega)]) (Ev.now _)
theorem ref_line (l : Tbl) (n : Int) (hn : n ≤ l.length) (hl : l.length * 48 ≤ 140737488351232) (hd : Dec l n) (c : Int) (hc : c < n) : Ev (fun k => provisoref02_Line.f k l c) (climbL l c) := by
  by_cases h0 : l.length = 0
  · rw [climbL_out l c (by omega)]
    refine Ev.congr (f := fun k => provisoref02_Line.l0 k l c []) (fun k => rfl) ?_
    exact Ev.step (f := fun _ => some []) (fun k => by simp only [provisoref02_Line.l0]; rw [if_neg (by omega)]) (Ev.now _)
  · have := line_tells l n hn hl hd (c + 1).toNat c [] hc (Nat.le_refl _) (by simp; omega) (by simp)
    rw [List.nil_append] at this
    exact this
theorem fields_tells (l : Tbl) (line : List Int) (hm : ∀ x ∈ line, 0 ≤ x ∧ x < (l.length : Int)) (hl : l.length * 48 ≤ 140737488351232) (hll : line.length ≤ l.length) (hlim : (line.reverse.flatMap fun i => own l i).length < 5864062014805) : ∀ (d : Nat), d ≤ line.length →
    Ev (fun k => provisoref02_Fields.l0 k l line ((line.drop d).reverse.flatMap fun i => own l i) ((d : Int) - 1)) (line.reverse.flatMap fun i => own l i)
  | 0, _ => by
    rw [List.drop_zero]
    exact Ev.step (f := fun _ => some _) (fun k => by simp only [provisoref02_Fields.l0]; rw [if_neg (by omega)]) (Ev.now _)
  | d + 1, hd => by
    have ih := fields_tells l line hm hl hll hlim d (by omega)
    have hrd : rd line ((d : Nat) : Int) = line[d]'(by omega) := by simp [rd, List.getD_eq_getElem?_getD, show d < line.length by omega]
    have hmd := hm (line[d]'(by omega)) (List.getElem_mem _)
    have e1 : ((line.drop d).reverse.flatMap fun i => own l i) = ((line.drop (d + 1)).reverse.flatMap fun i => own l i) ++ own l (line[d]'(by omega)) := by
      rw [List.drop_eq_getElem_cons (by omega), List.reverse_cons, List.flatMap_append]
      simp
    have hle : ((line.drop d).reverse.flatMap fun i => own l i).length ≤ (line.reverse.flatMap fun i => own l i).length := by
      have : line = line.take d ++ line.drop d := by simp
      conv => rhs; rw [this, List.reverse_append, List.flatMap_append, List.length_append]
      omega
    rw [e1] at ih hle
    rw [List.length_append] at hle
    refine Ev.step (fun k => ?_) ih
    simp only [provisoref02_Fields.l0]
    rw [show ((d + 1 : Nat) : Int) - 1 = (d : Int) by omega, hrd, if_pos (by omega), if_pos (by omega), if_pos (by omega), if_pos hmd.1, if_pos hmd.2]
    rw [if_pos (by unfold own at hle hlim ⊢; omega), show wrap64 ((d : Int) - 1) = (d : Int) - 1 by unfold wrap64; omega]
    rfl
theorem ref_fields (l : Tbl) (n : Int) (hn : n ≤ l.length) (hl : l.length * 48 ≤ 140737488351232) (hd : Dec l n) (c : Int) (hc : c < n) (hlim : (fieldsOf l c).length < 5864062014805) : Ev (fun k => provisoref02_Fields.f k l c) (fieldsOf l c) := by
  have hll := climbL_length l c
  have h := fields_tells l (climbL l c) (climbL_mem l c) hl hll hlim (climbL l c).length (Nat.le_refl _)
  rw [List.drop_length, List.reverse_nil, List.flatMap_nil] at h
  refine Ev.congr (fun k => rfl) (Ev.bind (ref_line l n hn hl hd c hc) (f := fun k t => provisoref02_Fields.l0 k l t [] (wrap64 ((t.length : Int) - 1))) ?_)
  rw [show wrap64 (((climbL l c).length : Int) - 1) = ((climbL l c).length : Int) - 1 by unfold wrap64; omega]
  exact h

def hasB (fs : List S62) (s : ByteArray) : Bool := fs.any fun f => decide (f.f0 = s)
theorem has_tells (fs : List S62) (s : ByteArray) (hl : fs.length ≤ 9223372036854775807) : ∀ (d i : Nat), fs.length - i = d → i ≤ fs.length → Ev (fun k => provisoref02_has.l0 k fs s (i : Int)) (hasB (fs.drop i) s)
  | 0, i, hd, hi => by
    rw [List.drop_of_length_le (by omega)]
    exact Ev.step (f := fun _ => some false) (fun k => by simp only [provisoref02_has.l0]; rw [if_neg (by omega)]) (Ev.now _)
  | d + 1, i, hd, hi => by
    have ih := has_tells fs s hl d (i + 1) (by omega) (by omega)
    have hlt : i < fs.length := by omega
    have hrd : rd_T62 fs ((i : Nat) : Int) = fs[i] := by simp [rd_T62, List.getD_eq_getElem?_getD, hlt]
    rw [List.drop_eq_getElem_cons hlt]
    by_cases e : fs[i].f0 = s
    · have e2 : hasB (fs[i] :: fs.drop (i + 1)) s = true := by unfold hasB; rw [List.any_cons, decide_eq_true e, Bool.true_or]
      rw [e2]
      exact Ev.step (f := fun _ => some true) (fun k => by simp only [provisoref02_has.l0]; rw [if_pos (by omega), if_pos (by omega), hrd]; simp [e]) (Ev.now _)
    · have e2 : hasB (fs[i] :: fs.drop (i + 1)) s = hasB (fs.drop (i + 1)) s := by unfold hasB; rw [List.any_cons, decide_eq_false e, Bool.false_or]
      rw [e2]
      refine Ev.step (fun k => ?_) ih
      simp only [provisoref02_has.l0]
      rw [if_pos (by omega), if_pos (by omega), hrd, if_neg (by rw [str_eq]; exact e), w_next (n := fs.length) (by omega) (by omega) hl]
      rfl
theorem ref_has (fs : List S62) (s : ByteArray) (hl : fs.length ≤ 9223372036854775807) : Ev (fun k => provisoref02_has.f k fs s) (hasB fs s) := by
  have := has_tells fs s hl fs.length 0 (by omega) (by omega)
  rw [List.drop_zero] at this
  exact this
def validB (l : Tbl) (a : Int) : Bool := decide (a ≤ 5) || (decide (16 ≤ a) && decide (a - 16 < (l.length : Int)))
theorem ref_valid (l : Tbl) (a : Int) (ha : 0 ≤ a ∧ a ≤ 255) : provisoref02_Valid.f l a = some (validB l a) := by
  unfold provisoref02_Valid.f validB
  by_cases h1 : a ≤ 5
  · simp [h1]
  · by_cases h2 : a ≥ 16
    · rw [if_neg h1, if_pos h2, show (a - 16) % 256 = a - 16 by omega]
      simp [h1, h2]
    · rw [if_neg h1, if_neg h2]
      simp [h1, h2]
def storedB (l : Tbl) (a : Int) : Bool := validB l a && decide (a ≠ 0) && decide (a ≠ 3)
theorem ref_stored (l : Tbl) (a : Int) (ha : 0 ≤ a ∧ a ≤ 255) : provisoref02_Stored.f l a = some (storedB l a) := by
  unfold provisoref02_Stored.f storedB
  rw [ref_valid l a ha]
  simp only [Option.bind_some]
  cases validB l a <;> by_cases h0 : a = 0 <;> by_cases h3 : a = 3 <;> simp [h0, h3]
end Go.Proofs.Ytgjnmpgmbhbbhaa.P


end

section
namespace Go.Proofs.Ytgjnmpgmbhbbhaa.P
open Go.RowKit Go.Proofs.YtgjnmpgmbhbbhaaW.PrintWords Go.Proofs.YtgjnmpgmbhbbhaaW.PrintLast Go.Proofs.YtgjnmpgmbhbbhaaW.PrintMore
set_option linter.unusedVariables false
set_option linter.unusedSimpArgs false

def Sane (l : Tbl) : Prop := l.length ≤ 9223372036854775807 ∧ l.length * 48 ≤ 140737488351232 ∧ ∀ x ∈ l, Ok59 x
theorem rd_mem (l : Tbl) (c : Int) (h0 : 0 ≤ c) (h1 : c < (l.length : Int)) : rd_T59 l c ∈ l := by
  have h : c.toNat < l.length := by omega
  simp [rd_T59, List.getD_eq_getElem?_getD, h]
theorem Sane.size {l : Tbl} (h : Sane l) : l.length ≤ 2932031007320 := by have := h.2.1; omega
theorem Sane.nam {l : Tbl} (h : Sane l) {c : Int} (h0 : 0 ≤ c) (h1 : c < (l.length : Int)) : (nam l c).size ≤ 140737488351232 := (h.2.2 _ (rd_mem l c h0 h1)).1
theorem Sane.par {l : Tbl} (h : Sane l) {c : Int} (h0 : 0 ≤ c) (h1 : c < (l.length : Int)) : -9223372036854775808 ≤ par l c ∧ par l c ≤ 9223372036854775807 := by
  have := (h.2.2 _ (rd_mem l c h0 h1)).2.1
  simp [Lit.wf, IntKind.min, IntKind.max, IntKind.signed, IntKind.bits] at this
  exact this
theorem Sane.own {l : Tbl} (h : Sane l) {c : Int} (h0 : 0 ≤ c) (h1 : c < (l.length : Int)) : (own l c).length * 24 ≤ 140737488351232 ∧ ∀ x ∈ own l c, x.f0.size ≤ 140737488351232 ∧ (0 ≤ x.f1 ∧ x.f1 ≤ 255) := by
  obtain ⟨_, h2, h3⟩ := (h.2.2 _ (rd_mem l c h0 h1)).2.2
  refine ⟨h2, fun x hx => ⟨(h3 x hx).1, ?_⟩⟩
  have := (h3 x hx).2
  simp [Lit.wf, IntKind.min, IntKind.max, IntKind.signed, IntKind.bits] at this
  exact this

theorem nam_eq (l : Tbl) (i : Int) (s : ByteArray) : (rd_T59 l i).f0.toList = s.toList ↔ nam l i = s := str_eq _ _

def fieldFaultFrom (l : Tbl) (all fs : List S62) : Nat → Nat → Int
  | 0, _ => if (fs.length : Int) > 32 - (all.length : Int) then 4 else 0
  | d + 1, i => if nameOk (rd_T62 fs i).f0 = true then (if hasB all (rd_T62 fs i).f0 = true then 20 else if hasB (fs.take i) (rd_T62 fs i).f0 = true then 20 else if storedB l (rd_T62 fs i).f1 = true then fieldFaultFrom l all fs d (i + 1) else 22) else 6
def fieldFault (l : Tbl) (all fs : List S62) : Int := fieldFaultFrom l all fs fs.length 0
def aheadFrom (l : Tbl) (c : Int) : Nat → Bool
  | 0 => false
  | d + 1 => decide (nam l (c - (d + 1)) = nam l c) || aheadFrom l c d
def aheadB (l : Tbl) (c : Int) : Bool := aheadFrom l c c.toNat
def parFault (l : Tbl) (c : Int) : Int := if par l c < -1 then 21 else if par l c ≥ c then 21 else fieldFault l (fieldsOf l (par l c)) (own l c)
def faultB (l : Tbl) (c : Int) : Int :=
  if c ≥ 32 then 4 else if nameOk (nam l c) = true then (if isWordB (nam l c) = true then 6 else if aheadB l c = true then 20 else parFault l c) else 6

theorem fields_fault (l : Tbl) (all fs : List S62) (h1 : all.length ≤ 5864062014805) (h2 : fs.length * 24 ≤ 140737488351232) (h3 : ∀ x ∈ fs, x.f0.size ≤ 140737488351232 ∧ (0 ≤ x.f1 ∧ x.f1 ≤ 255)) (nm : ByteArray) (pr : Int) : ∀ (d i : Nat), fs.length - i = d → i ≤ fs.length →
    Ev (fun k => provisoref02_fault.l1 k l all (i : Int) nm pr fs) (fieldFaultFrom l all fs d i)
  | 0, i, hd, hi => by
    unfold fieldFaultFrom
    refine Ev.step (f := fun _ => some _) (fun k => ?_) (Ev.now _)
    simp only [provisoref02_fault.l1]
    rw [if_neg (by omega), show wrap64 (32 - (all.length : Int)) = 32 - (all.length : Int) by unfold wrap64; omega]
    split <;> rfl
  | d + 1, i, hd, hi => by
    have hlt : i < fs.length := by omega
    have hrd : rd_T62 fs ((i : Nat) : Int) = fs[i] := by simp [rd_T62, List.getD_eq_getElem?_getD, hlt]
    obtain ⟨hs, ht⟩ := h3 fs[i] (List.getElem_mem _)
    have ih := fields_fault l all fs h1 h2 h3 nm pr d (i + 1) (by omega) (by omega)
    unfold fieldFaultFrom
    rw [hrd]
    refine Ev.step (fun k => by simp only [provisoref02_fault.l1]; rw [if_pos (by omega), if_pos (by omega), hrd]) ?_
    refine Ev.bind (f := fun k t => if t = true then _ else _) (ref_name _ hs) ?_
    cases nameOk fs[i].f0 with
    | false => exact Ev.now _
    | true =>
      refine Ev.bind (f := fun k t => if t = true then _ else _) (ref_has all _ (by omega)) ?_
      cases hasB all fs[i].f0 with
      | true => exact Ev.now _
      | false =>
        refine Ev.congr (f := fun k => (provisoref02_has.f k (fs.take i) fs[i].f0).bind _) (fun k => by
          show (if (i : Int) ≤ (fs.length : Int) then _ else _) = _
          rw [if_pos (by omega), Int.toNat_natCast]) ?_
        refine Ev.bind (f := fun k t => if t = true then _ else _) (ref_has (fs.take i) _ (by simp; omega)) ?_
        cases hasB (fs.take i) fs[i].f0 with
        | true => exact Ev.now _
        | false =>
          refine Ev.congr (f := fun k => if storedB l fs[i].f1 = true then _ else _) (fun k => by
            show (provisoref02_Stored.f l fs[i].f1).bind _ = _
            rw [ref_stored l _ ht]
            rfl) ?_
          cases storedB l fs[i].f1 with
          | false => exact Ev.now _
          | true =>
            refine Ev.congr (fun k => ?_) ih
            show provisoref02_fault.l1 k l all (wrap64 ((i : Int) + 1)) nm pr fs = _
            rw [w_next (n := fs.length) (by omega) (by omega) (by omega)]
            rfl
theorem par_fault (l : Tbl) (hs : Sane l) (c : Int) (h0 : 0 ≤ c) (h1 : c < (l.length : Int)) (hd : Dec l c) (hlim : ∀ p : Int, -1 ≤ p → p < c → (fieldsOf l p).length ≤ 32) :
    Ev (fun k => provisoref02_fault.l0 k l c c (nam l c) (par l c) (own l c)) (parFault l c) := by
  unfold parFault
  have hj : Ev (fun k => provisoref02_fault.j2 k l true (nam l c) (par l c) (own l c)) 21 := Ev.step (f := fun _ => some 21) (fun k => by simp only [provisoref02_fault.j2]; rfl) (Ev.now _)
  by_cases p1 : par l c < -1
  · rw [if_pos p1]
    exact Ev.step (fun k => by simp only [provisoref02_fault.l0]; rw [if_neg (by omega), if_pos p1]) hj
  · rw [if_neg p1]
    by_cases p2 : par l c ≥ c
    · rw [if_pos p2]
      exact Ev.step (fun k => by simp only [provisoref02_fault.l0]; rw [if_neg (by omega), if_neg p1, decide_eq_true p2]) hj
    · rw [if_neg p2]
      refine Ev.step (f := fun k => provisoref02_fault.j2 k l false (nam l c) (par l c) (own l c)) (fun k => by simp only [provisoref02_fault.l0]; rw [if_neg (by omega), if_neg p1, decide_eq_false p2]) ?_
      have hlp := hlim (par l c) (by omega) (by omega)
      refine Ev.step (f := fun k => (provisoref02_Fields.f k l (par l c)).bind fun t => provisoref02_fault.l1 k l t 0 (nam l c) (par l c) (own l c)) (fun k => by simp only [provisoref02_fault.j2]; rfl) ?_
      refine Ev.bind (f := fun k t => provisoref02_fault.l1 k l t 0 (nam l c) (par l c) (own l c)) (ref_fields l c (by omega) hs.2.1 hd (par l c) (by omega) (by omega)) ?_
      exact fields_fault l _ (own l c) (by omega) (hs.own h0 h1).1 (hs.own h0 h1).2 _ _ _ 0 (by omega) (by omega)
theorem ahead_fault (l : Tbl) (hs : Sane l) (c : Int) (h0 : 0 ≤ c) (h1 : c < (l.length : Int)) (hd : Dec l c) (hlim : ∀ p : Int, -1 ≤ p → p < c → (fieldsOf l p).length ≤ 32) : ∀ (d : Nat), (d : Int) ≤ c →
    Ev (fun k => provisoref02_fault.l0 k l c (c - d) (nam l c) (par l c) (own l c)) (if aheadFrom l c d = true then 20 else parFault l c)
  | 0, _ => by
    have := par_fault l hs c h0 h1 hd hlim
    simpa [aheadFrom] using this
  | d + 1, hdc => by
    have ih := ahead_fault l hs c h0 h1 hd hlim d (by omega)
    have hsz := hs.size
    have e1 : c - ((d : Int) + 1) + 1 = c - d := by omega
    by_cases e : nam l (c - ((d : Int) + 1)) = nam l c
    · have e2 : aheadFrom l c (d + 1) = true := by unfold aheadFrom; rw [decide_eq_true e, Bool.true_or]
      rw [e2, if_pos rfl]
      refine Ev.step (f := fun _ => some 20) (fun k => ?_) (Ev.now _)
      show provisoref02_fault.l0 (k + 1) l c (c - ((d : Int) + 1)) (nam l c) (par l c) (own l c) = _
      simp only [provisoref02_fault.l0]
      rw [if_pos (by omega), if_pos (by omega), if_pos (by omega), if_pos ((nam_eq l _ _).mpr e)]
    · have e2 : aheadFrom l c (d + 1) = aheadFrom l c d := by conv => lhs; unfold aheadFrom
                                                              rw [decide_eq_false e, Bool.false_or]
      rw [e2]
      refine Ev.step (fun k => ?_) ih
      show provisoref02_fault.l0 (k + 1) l c (c - ((d : Int) + 1)) (nam l c) (par l c) (own l c) = _
      simp only [provisoref02_fault.l0]
      rw [if_pos (by omega), if_pos (by omega), if_pos (by omega), if_neg (fun h9 => e ((nam_eq l _ _).mp h9)), show wrap64 (c - ((d : Int) + 1) + 1) = c - d by rw [e1]; unfold wrap64; omega]
theorem ref_fault (l : Tbl) (hs : Sane l) (c : Int) (h0 : 0 ≤ c) (h1 : c < (l.length : Int)) (hd : Dec l c) (hlim : ∀ p : Int, -1 ≤ p → p < c → (fieldsOf l p).length ≤ 32) : Ev (fun k => provisoref02_fault.f k l c) (faultB l c) := by
  unfold faultB
  have ha := ahead_fault l hs c h0 h1 hd hlim c.toNat (by omega)
  rw [show c - (c.toNat : Int) = 0 by omega] at ha
  have hj : ∀ b : Bool, Ev (fun k => provisoref02_fault.j0 k l c b (nam l c) (par l c) (own l c)) (if b = true then 6 else if aheadB l c = true then 20 else parFault l c) := by
    intro b
    cases b with
    | true => exact Ev.step (f := fun _ => some 6) (fun k => by simp only [provisoref02_fault.j0]; rfl) (Ev.now _)
    | false => exact Ev.step (fun k => by simp only [provisoref02_fault.j0]; rfl) ha
  by_cases h32 : c ≥ 32
  · rw [if_pos h32]
    exact Ev.congr (f := fun _ => some 4) (fun k => by unfold provisoref02_fault.f; rw [if_pos h0, if_pos h1, if_pos h32]) (Ev.now _)
  · rw [if_neg h32]
    refine Ev.congr (fun k => by unfold provisoref02_fault.f; rw [if_pos h0, if_pos h1, if_neg h32]; rfl) (Ev.bind (f := fun k t => if t = true then ((provisoref02_isWord.f k (nam l c)).bind fun t119 => provisoref02_fault.j0 k l c t119 (nam l c) (par l c) (own l c)) else provisoref02_fault.j0 k l c true (nam l c) (par l c) (own l c)) (ref_name _ (hs.nam h0 h1)) ?_)
    have hjt := hj true
    cases nameOk (nam l c) with
    | false => exact hjt
    | true => exact Ev.bind (f := fun k t => provisoref02_fault.j0 k l c t (nam l c) (par l c) (own l c)) (ref_word _) (hj _)

def GoodTo (l : Tbl) (n : Int) : Prop := ∀ c : Int, 0 ≤ c → c < n → faultB l c = 0
theorem field_fault_long (l : Tbl) (all fs : List S62) : ∀ (d i : Nat), fieldFaultFrom l all fs d i = 0 → (fs.length : Int) ≤ 32 - all.length
  | 0, i, h => by
    unfold fieldFaultFrom at h
    split at h <;> omega
  | d + 1, i, h => by
    unfold fieldFaultFrom at h
    split at h
    · split at h
      · omega
      · split at h
        · omega
        · split at h
          · exact field_fault_long l all fs d (i + 1) h
          · omega
    · omega
theorem fault_zero {l : Tbl} {c : Int} (h : faultB l c = 0) : c < 32 ∧ nameOk (nam l c) = true ∧ isWordB (nam l c) = false ∧ aheadB l c = false ∧ -1 ≤ par l c ∧ par l c < c ∧ fieldFault l (fieldsOf l (par l c)) (own l c) = 0 := by
  unfold faultB parFault at h
  split at h
  · omega
  · split at h
    · split at h
      · omega
      · split at h
        · omega
        · split at h
          · omega
          · split at h
            · omega
            · rename_i h1 h2 h3 h4 h5 h6
              exact ⟨by omega, h2, by simpa using h3, by simpa using h4, by omega, by omega, h⟩
    · omega
theorem GoodTo.dec {l : Tbl} {n : Int} (h : GoodTo l n) : Dec l n := fun i h0 h1 => (fault_zero (h i h0 h1)).2.2.2.2.2.1
theorem fieldsOf_in (l : Tbl) (c : Int) (h0 : 0 ≤ c) (h1 : c < (l.length : Int)) (h2 : par l c < c) : fieldsOf l c = fieldsOf l (par l c) ++ own l c := by
  unfold fieldsOf
  rw [climbL_in l c h0 h1 h2, List.reverse_cons, List.flatMap_append]
  simp [par]
theorem fieldsOf_out (l : Tbl) (c : Int) (h : ¬ (0 ≤ c ∧ c < (l.length : Int))) : fieldsOf l c = [] := by
  unfold fieldsOf
  rw [climbL_out l c h]
  rfl
theorem GoodTo.fields {l : Tbl} {n : Int} (hn : n ≤ l.length) (h : GoodTo l n) (c : Int) (hc : c < n) : (fieldsOf l c).length ≤ 32 := by
  by_cases h0 : 0 ≤ c
  · obtain ⟨_, _, _, _, h5, h6, h7⟩ := fault_zero (h c h0 hc)
    have := field_fault_long l _ _ _ _ h7
    rw [fieldsOf_in l c h0 (by omega) h6, List.length_append]
    omega
  · rw [fieldsOf_out l c (by omega)]
    simp
def checkFrom (l : Tbl) : Nat → Int → Int × Int
  | 0, _ => (0, 0)
  | d + 1, c => if faultB l c = 0 then checkFrom l d (c + 1) else (c, faultB l c)
def checkB (l : Tbl) : Int × Int := checkFrom l l.length 0
theorem check_tells (l : Tbl) (hs : Sane l) : ∀ (d : Nat) (c : Int), 0 ≤ c → (l.length : Int) - c = d → GoodTo l c → Ev (fun k => provisoref02_Check.l0 k l c) (checkFrom l d c)
  | 0, c, h0, hd, hg => by
    unfold checkFrom
    exact Ev.step (f := fun _ => some _) (fun k => by simp only [provisoref02_Check.l0]; rw [if_neg (by omega)]) (Ev.now _)
  | d + 1, c, h0, hd, hg => by
    have hf := ref_fault l hs c h0 (by omega) hg.dec (fun p hp1 hp2 => hg.fields (by omega) p hp2)
    unfold checkFrom
    refine Ev.step (fun k => by simp only [provisoref02_Check.l0]; rw [if_pos (by omega)]) (Ev.bind (f := fun k t => if t = 0 then _ else _) hf ?_)
    by_cases e : faultB l c = 0
    · rw [if_pos e]
      have hsz := hs.size
      refine Ev.congr (fun k => ?_) (check_tells l hs d (c + 1) (by omega) (by omega) (fun i hi0 hi1 => if hi : i < c then hg i hi0 hi else by rw [show i = c by omega]; exact e))
      rw [if_pos e, show wrap64 (c + 1) = c + 1 by unfold wrap64; omega]
    · rw [if_neg e]
      exact Ev.congr (f := fun _ => some _) (fun k => by rw [if_neg e]) (Ev.now _)
theorem ref_check (l : Tbl) (hs : Sane l) : Ev (fun k => provisoref02_Check.f k l) (checkB l) :=
  check_tells l hs l.length 0 (by omega) (by omega) (fun i h0 h1 => by omega)
theorem checkFrom_zero (l : Tbl) : ∀ (d : Nat) (c : Int), (checkFrom l d c).2 = 0 ↔ ∀ i : Int, c ≤ i → i < c + d → faultB l i = 0
  | 0, c => by
    constructor
    · intro _ i h1 h2; omega
    · intro _; rfl
  | d + 1, c => by
    unfold checkFrom
    split
    · rename_i e
      rw [checkFrom_zero l d (c + 1)]
      constructor
      · intro h i h1 h2
        by_cases hi : i = c
        · rw [hi]; exact e
        · exact h i (by omega) (by omega)
      · intro h i h1 h2
        exact h i (by omega) (by omega)
    · rename_i e
      constructor
      · intro h; exact absurd h e
      · intro h; exact h c (by omega) (by omega)
def Good (l : Tbl) : Prop := GoodTo l l.length
theorem good_iff (l : Tbl) : (checkB l).2 = 0 ↔ Good l := by
  unfold checkB
  rw [checkFrom_zero l l.length 0]
  unfold Good GoodTo
  simp
theorem Good.dec {l : Tbl} (h : Good l) : Dec l l.length := GoodTo.dec h
end Go.Proofs.Ytgjnmpgmbhbbhaa.P


end

section
namespace Go.Proofs.Ytgjnmpgmbhbbhaa.P
open Go.RowKit Go.Proofs.YtgjnmpgmbhbbhaaW.PrintWords Go.Proofs.YtgjnmpgmbhbbhaaW.PrintLast Go.Proofs.YtgjnmpgmbhbbhaaW.PrintMore
set_option linter.unusedVariables false
set_option linter.unusedSimpArgs false

theorem u8_of {a : Int} (h : (Lit.int .u8 a).wf = true) : 0 ≤ a ∧ a ≤ 255 := by
  simp [Lit.wf, IntKind.min, IntKind.max, IntKind.signed, IntKind.bits] at h
  exact h
theorem Good.nameOk {l : Tbl} (h : Good l) {c : Int} (h0 : 0 ≤ c) (h1 : c < (l.length : Int)) : nameOk (nam l c) = true ∧ isWordB (nam l c) = false :=
  ⟨(fault_zero (h c h0 h1)).2.1, (fault_zero (h c h0 h1)).2.2.1⟩
end Go.Proofs.Ytgjnmpgmbhbbhaa.P


end

section
namespace Go.Proofs.Ytgjnmpgmbhbbhaa.P
open Go.RowKit Go.Proofs.YtgjnmpgmbhbbhaaW.PrintWords Go.Proofs.YtgjnmpgmbhbbhaaW.PrintLast Go.Proofs.YtgjnmpgmbhbbhaaW.PrintMore
set_option linter.unusedVariables false
set_option linter.unusedSimpArgs false

theorem climb_suffix {l : Tbl} (hd : Dec l l.length) : ∀ (d : Nat) (x y : Int), (x + 1).toNat ≤ d → y ∈ climbL l x → ∃ pre, climbL l x = pre ++ climbL l y
  | 0, x, y, h, hm => by
    rw [climbL_out l x (by omega)] at hm
    cases hm
  | d + 1, x, y, h, hm => by
    by_cases hx : 0 ≤ x ∧ x < (l.length : Int)
    · have hp := hd x hx.1 hx.2
      rw [climbL_in l x hx.1 hx.2 hp] at hm ⊢
      rcases List.mem_cons.1 hm with rfl | hm
      · exact ⟨[], by rw [climbL_in l y hx.1 hx.2 hp]; rfl⟩
      · obtain ⟨pre, e⟩ := climb_suffix hd d _ y (by unfold par at hp; omega) hm
        exact ⟨x :: pre, by rw [e]; rfl⟩
    · rw [climbL_out l x hx] at hm
      cases hm
theorem climb_trans {l : Tbl} (hd : Dec l l.length) {x y z : Int} (h1 : y ∈ climbL l x) (h2 : z ∈ climbL l y) : z ∈ climbL l x := by
  obtain ⟨pre, e⟩ := climb_suffix hd _ x y (Nat.le_refl _) h1
  rw [e]
  exact List.mem_append_right _ h2
theorem climb_le {l : Tbl} (hd : Dec l l.length) : ∀ (d : Nat) (x y : Int), (x + 1).toNat ≤ d → y ∈ climbL l x → y ≤ x
  | 0, x, y, h, hm => by
    rw [climbL_out l x (by omega)] at hm
    cases hm
  | d + 1, x, y, h, hm => by
    by_cases hx : 0 ≤ x ∧ x < (l.length : Int)
    · have hp := hd x hx.1 hx.2
      rw [climbL_in l x hx.1 hx.2 hp] at hm
      rcases List.mem_cons.1 hm with rfl | hm
      · exact Int.le_refl _
      · have := climb_le hd d _ y (by unfold par at hp; omega) hm
        unfold par at hp
        omega
    · rw [climbL_out l x hx] at hm
      cases hm
theorem climb_antisymm {l : Tbl} (hd : Dec l l.length) {x y : Int} (h1 : y ∈ climbL l x) (h2 : x ∈ climbL l y) : x = y := by
  have a := climb_le hd _ x y (Nat.le_refl _) h1
  have b := climb_le hd _ y x (Nat.le_refl _) h2
  omega
theorem class_valid (l : Tbl) (a : Int) (ha : 0 ≤ a ∧ a ≤ 255) : classOf l a = if 16 ≤ a ∧ a - 16 < (l.length : Int) then a - 16 else -1 := by
  unfold classOf
  by_cases h1 : a < 16
  · rw [if_pos h1, if_neg (by omega)]
  · rw [if_neg h1, show (a - 16) % 256 = a - 16 by omega]
    by_cases h2 : a - 16 ≥ (l.length : Int)
    · rw [if_pos h2, if_neg (by omega)]
    · rw [if_neg h2, if_pos (by omega)]
theorem impl_valid (l : Tbl) (a : Int) (ha : 0 ≤ a ∧ a ≤ 255) : types_Valid.f l a = some (validB l a) := by
  unfold types_Valid.f validB
  by_cases h1 : a ≤ 5
  · simp [h1]
  · rw [if_neg h1, class_is, class_valid l a ha]
    by_cases h2 : 16 ≤ a ∧ a - 16 < (l.length : Int)
    · rw [if_pos h2]
      simp [h1, h2.1, h2.2]
    · rw [if_neg h2]
      simp [h1]
      omega
def subB (l : Tbl) (a b : Int) : Bool :=
  if validB l a = true ∧ validB l b = true then (if a = b then true else if b = 0 then true else if a = 3 ∨ b = 5 then isRefB a && isRefB b else if 0 ≤ classOf l a ∧ 0 ≤ classOf l b then decide (classOf l b ∈ climbL l (classOf l a)) else false) else false
theorem impl_sub (l : Tbl) (a b : Int) (ha : 0 ≤ a ∧ a ≤ 255) (hb : 0 ≤ b ∧ b ≤ 255) (k : Nat) : types_Sub.f (k + 3) l a b = some (subB l a b) := by
  unfold types_Sub.f subB
  rw [impl_valid l a ha, impl_valid l b hb]
  simp only [Option.bind_some, types_Sub.j0, types_Sub.j1, types_Sub.j2, isRef_is, class_is, types_above.f]
  cases validB l a with
  | false => simp
  | true =>
    cases validB l b with
    | false => simp
    | true =>
      by_cases e1 : a = b
      · simp [e1]
      · by_cases e2 : b = 0
        · simp [e1, e2]
        · by_cases e3 : a = 3
          · cases hra : isRefB a <;> cases hrb : isRefB b <;> simp [e1, e2, e3, hra, hrb] <;> simp_all
          · by_cases e5 : b = 5
            · cases hra : isRefB a <;> cases hrb : isRefB b <;> simp [e1, e2, e3, e5, hra, hrb] <;> simp_all
            · by_cases g1 : 0 ≤ classOf l a <;> by_cases g2 : 0 ≤ classOf l b <;> simp [e1, e2, e3, e5, g1, g2] <;> omega

theorem valid_cases {l : Tbl} {a : Int} (ha : 0 ≤ a ∧ a ≤ 255) (h : validB l a = true) : (a ≤ 5 ∧ classOf l a = -1) ∨ (16 ≤ a ∧ a - 16 < (l.length : Int) ∧ classOf l a = a - 16) := by
  unfold validB at h
  rw [class_valid l a ha]
  simp at h
  rcases h with h | ⟨h1, h2⟩
  · exact .inl ⟨h, by rw [if_neg (by omega)]⟩
  · exact .inr ⟨h1, by omega, by rw [if_pos (by omega)]⟩
theorem sub_iff (l : Tbl) (a b : Int) : subB l a b = true ↔ validB l a = true ∧ validB l b = true ∧ (a = b ∨ b = 0 ∨ ((a = 3 ∨ b = 5) ∧ isRefB a = true ∧ isRefB b = true) ∨ (¬ (a = 3 ∨ b = 5) ∧ 0 ≤ classOf l a ∧ 0 ≤ classOf l b ∧ classOf l b ∈ climbL l (classOf l a))) := by
  unfold subB
  by_cases h : validB l a = true ∧ validB l b = true
  · rw [if_pos h]
    by_cases e1 : a = b
    · simp [e1, h.2]
    · rw [if_neg e1]
      by_cases e2 : b = 0
      · simp [e2, h.1]
        rw [← e2]; exact h.2
      · rw [if_neg e2]
        by_cases e3 : a = 3 ∨ b = 5
        · rw [if_pos e3]
          simp [h.1, h.2, e1, e2, e3]
        · rw [if_neg e3]
          by_cases g : 0 ≤ classOf l a ∧ 0 ≤ classOf l b
          · rw [if_pos g]
            simp [h.1, h.2, e1, e2, e3, g.1, g.2]
          · rw [if_neg g]
            simp [h.1, h.2, e1, e2, e3]
            intro g1 g2
            exact absurd ⟨g1, g2⟩ g
  · rw [if_neg h]
    simp
    intro h1 h2
    exact absurd ⟨h1, h2⟩ h
theorem isRef_iff (a : Int) : isRefB a = true ↔ a = 3 ∨ a = 4 ∨ a = 5 ∨ a ≥ 16 := by unfold isRefB; simp [or_assoc]
theorem sub_refl (l : Tbl) (a : Int) (h : validB l a = true) : subB l a a = true := (sub_iff l a a).2 ⟨h, h, .inl rfl⟩
theorem sub_trans {l : Tbl} (hg : Good l) {a b c : Int} (ha : 0 ≤ a ∧ a ≤ 255) (hb : 0 ≤ b ∧ b ≤ 255) (hc : 0 ≤ c ∧ c ≤ 255) (h1 : subB l a b = true) (h2 : subB l b c = true) : subB l a c = true := by
  rw [sub_iff] at h1 h2 ⊢
  obtain ⟨va, vb, h1⟩ := h1
  obtain ⟨_, vc, h2⟩ := h2
  refine ⟨va, vc, ?_⟩
  have ka := valid_cases ha va
  have kb := valid_cases hb vb
  have kc := valid_cases hc vc
  rw [isRef_iff, isRef_iff] at h1 h2 ⊢
  rcases h1 with rfl | rfl | ⟨p1, p2, p3⟩ | ⟨p1, p2, p3, p4⟩
  · exact h2
  · rcases h2 with rfl | rfl | ⟨q1, q2, q3⟩ | ⟨q1, q2, q3, q4⟩
    · exact .inr (.inl rfl)
    · exact .inr (.inl rfl)
    · omega
    · omega
  · rcases h2 with rfl | rfl | ⟨q1, q2, q3⟩ | ⟨q1, q2, q3, q4⟩
    · exact .inr (.inr (.inl ⟨p1, p2, p3⟩))
    · exact .inr (.inl rfl)
    · omega
    · omega
  · rcases h2 with rfl | rfl | ⟨q1, q2, q3⟩ | ⟨q1, q2, q3, q4⟩
    · exact .inr (.inr (.inr ⟨p1, p2, p3, p4⟩))
    · exact .inr (.inl rfl)
    · omega
    · exact .inr (.inr (.inr ⟨by omega, p2, q3, climb_trans hg.dec p4 q4⟩))
theorem sub_antisymm {l : Tbl} (hg : Good l) {a b : Int} (ha : 0 ≤ a ∧ a ≤ 255) (hb : 0 ≤ b ∧ b ≤ 255) (h1 : subB l a b = true) (h2 : subB l b a = true) : a = b := by
  rw [sub_iff] at h1 h2
  obtain ⟨va, vb, h1⟩ := h1
  obtain ⟨_, _, h2⟩ := h2
  have ka := valid_cases ha va
  have kb := valid_cases hb vb
  rw [isRef_iff, isRef_iff] at h1 h2
  rcases h1 with rfl | rfl | ⟨p1, p2, p3⟩ | ⟨p1, p2, p3, p4⟩
  · rfl
  · rcases h2 with rfl | rfl | ⟨q1, q2, q3⟩ | ⟨q1, q2, q3, q4⟩ <;> omega
  · rcases h2 with rfl | rfl | ⟨q1, q2, q3⟩ | ⟨q1, q2, q3, q4⟩ <;> omega
  · rcases h2 with rfl | rfl | ⟨q1, q2, q3⟩ | ⟨q1, q2, q3, q4⟩
    · rfl
    · omega
    · omega
    · have := climb_antisymm hg.dec p4 q4
      omega
end Go.Proofs.Ytgjnmpgmbhbbhaa.P


end

section
namespace Go.Proofs.Ytgjnmpgmbhbbhaa.P
open Go.RowKit Go.Proofs.YtgjnmpgmbhbbhaaW.PrintWords Go.Proofs.YtgjnmpgmbhbbhaaW.PrintLast Go.Proofs.YtgjnmpgmbhbbhaaW.PrintMore
set_option linter.unusedVariables false
set_option linter.unusedSimpArgs false

theorem top_valid (l : Tbl) : validB l 0 = true := by simp [validB]
end Go.Proofs.Ytgjnmpgmbhbbhaa.P


end

section
namespace Go.Proofs.Ytgjnmpgmbhbbhaa.P
open Go.RowKit Go.Proofs.YtgjnmpgmbhbbhaaW.PrintWords Go.Proofs.YtgjnmpgmbhbbhaaW.PrintLast Go.Proofs.YtgjnmpgmbhbbhaaW.PrintMore
set_option linter.unusedVariables false
set_option linter.unusedSimpArgs false

theorem rd_class (l : Tbl) (i : Nat) (h : i < l.length) : rd_T59 l (i : Int) = l[i] := by simp [rd_T59, List.getD_eq_getElem?_getD, h]
theorem classes_tells (l : Tbl) (hs : Sane l) : ∀ (d i : Nat), l.length - i = d → i ≤ l.length → Ev (fun k => provisoplain_Classes.l0 k (l.take i) l (l.length : Int) (i : Int)) l
  | 0, i, hd, hi => by
    have e : l.take i = l := List.take_of_length_le (by omega)
    rw [e]
    exact Ev.step (f := fun _ => some l) (fun k => by simp only [provisoplain_Classes.l0]; rw [if_neg (by omega)]) (Ev.now _)
  | d + 1, i, hd, hi => by
    have hlt : i < l.length := by omega
    have ih := classes_tells l hs d (i + 1) (by omega) (by omega)
    have hsz := hs.size
    have ho := (hs.own (c := (i : Int)) (by omega) (by omega)).1
    unfold own at ho
    refine Ev.step (fun k => ?_) ih
    simp only [provisoplain_Classes.l0]
    rw [if_pos (by omega), if_pos (by omega), if_pos (by omega)]
    unfold api_Field_41.f
    rw [if_pos (by omega)]
    simp only [Option.bind_some]
    rw [if_pos (by rw [List.length_take]; omega), rd_class l i hlt, show wrap64 ((i : Int) + 1) = ((i + 1 : Nat) : Int) by unfold wrap64; omega, List.take_succ_eq_append_getElem hlt]
theorem impl_classes (l : Tbl) (hs : Sane l) : Ev (fun k => provisoplain_Classes.f k l) l := by
  have := classes_tells l hs l.length 0 (by omega) (by omega)
  rw [List.take_zero] at this
  exact this
end Go.Proofs.Ytgjnmpgmbhbbhaa.P


end

section
namespace Go.Proofs.Ytgjnmpgmbhbbhaa.Pure
open Go.RowKit Go.Proofs.Ytgjnmpgmbhbbhaa.P Go.Proofs.YtgjnmpgmbhbbhaaW.PrintWords
set_option linter.unusedSimpArgs false
set_option linter.unusedVariables false
theorem fr_get {xs : List Int} {i : Nat} (h : i < xs.length) : xs.getD i 0 = xs[i] := by
  rw [List.getD_eq_getElem?_getD, List.getElem?_eq_getElem h]
  rfl
theorem fr_get_mem {xs : List Int} {i : Nat} (h : i < xs.length) : xs.getD i 0 ∈ xs := by
  rw [fr_get h]
  exact List.getElem_mem h
theorem fr_alike {vb : Int → Bool} {x y : Fr} : alikeS vb x y = 0 ↔ checkS vb x = 0 ∧ checkS vb y = 0 ∧ x.loc = y.loc ∧ x.hgt = y.hgt := by
  unfold alikeS
  by_cases h1 : checkS vb x = 0
  · rw [if_pos h1]
    by_cases h2 : checkS vb y = 0
    · rw [if_pos h2]
      by_cases h3 : x.loc = y.loc ∧ x.hgt = y.hgt
      · rw [if_pos h3]
        exact ⟨fun _ => ⟨h1, h2, h3.1, h3.2⟩, fun _ => rfl⟩
      · rw [if_neg h3]
        exact ⟨fun h => (by cases h), fun h => absurd ⟨h.2.2.1, h.2.2.2⟩ h3⟩
    · rw [if_neg h2]
      exact ⟨fun h => absurd h h2, fun h => absurd h.2.1 h2⟩
  · rw [if_neg h1]
    exact ⟨fun h => absurd h h1, fun h => absurd h.1 h1⟩
theorem fr_sub {vb : Int → Bool} {sb : Int → Int → Bool} {x y : Fr} : subS vb sb x y = true ↔ alikeS vb x y = 0 ∧ ∀ i, i < 24 → sb (x.sl.getD i 0) (y.sl.getD i 0) = true := by
  unfold subS
  rw [Bool.and_eq_true, decide_eq_true_eq, List.all_eq_true]
  exact ⟨fun h => ⟨h.1, fun i hi => h.2 i (List.mem_range.2 hi)⟩, fun h => ⟨h.1, fun i hi => h.2 i (List.mem_range.1 hi)⟩⟩
theorem fr_valid {vb : Int → Bool} {f : Fr} (hf : f.ok) (h : checkS vb f = 0) (i : Nat) (hi : i < 24) : vb (f.sl.getD i 0) = true := by
  unfold checkS at h
  by_cases hs : f.shp = true
  · rw [if_pos hs] at h
    by_cases hb : frEq (bareF f) f = true
    · rw [if_pos hb] at h
      by_cases ha : f.sl.all vb = true
      · exact List.all_eq_true.1 ha _ (fr_get_mem (by unfold Fr.ok at hf; omega))
      · rw [if_neg ha] at h
        cases h
    · rw [if_neg hb] at h
      cases h
  · rw [if_neg hs] at h
    cases h
theorem fr_make {vb : Int → Bool} {L H : Nat} {sl : List Int} (hl : sl.length = 24) (h1 : L ≤ 16) (h2 : L + H ≤ 24) (hz : ∀ j, L + H ≤ j → j < 24 → sl.getD j 0 = 0) (hv : ∀ i, i < 24 → vb (sl.getD i 0) = true) : checkS vb ⟨(L : Int), (H : Int), sl⟩ = 0 := by
  unfold checkS
  rw [if_pos (Fr.shp_of L H sl h1 h2), bareF_nat, if_pos ((bare_zero hl h2).2 hz), if_pos]
  rw [List.all_eq_true]
  intro x hx
  obtain ⟨i, hi, rfl⟩ := List.getElem_of_mem hx
  have hi : i < sl.length := hi
  rw [← fr_get hi]
  exact hv i (by omega)
theorem fr_ext {x y : List Int} (hx : x.length = 24) (hy : y.length = 24) (h : ∀ i, i < 24 → x.getD i 0 = y.getD i 0) : x = y := by
  refine List.ext_getElem (by omega) (fun i h1 h2 => ?_)
  rw [← fr_get h1, ← fr_get h2]
  exact h i (by omega)
end Go.Proofs.Ytgjnmpgmbhbbhaa.Pure

end

section
namespace Go.Proofs.Ytgjnmpgmbhbbhaa.Pure
open Go.RowKit Go.Proofs.Ytgjnmpgmbhbbhaa.P Go.Proofs.YtgjnmpgmbhbbhaaW.PrintWords
set_option linter.unusedSimpArgs false
theorem FramesOrder : provisolaw03_FramesOrder.Pure := by
  intro l0 a0 a1 a2 b0 b1 b2 d0 d1 d2 hl _ _ ha _ _ hb _ _ hd
  have hs : Sane l0 := hl
  have ra : ∀ t ∈ a2, 0 ≤ t ∧ t ≤ 255 := fun t ht => u8_of (ha.2 t ht)
  have rbb : ∀ t ∈ b2, 0 ≤ t ∧ t ≤ 255 := fun t ht => u8_of (hb.2 t ht)
  have rd : ∀ t ∈ d2, 0 ≤ t ∧ t ≤ 255 := fun t ht => u8_of (hd.2 t ht)
  have ga : ∀ i, i < 24 → 0 ≤ a2.getD i 0 ∧ a2.getD i 0 ≤ 255 := fun i hi => ra _ (fr_get_mem (by rw [ha.1]; exact hi))
  have gb : ∀ i, i < 24 → 0 ≤ b2.getD i 0 ∧ b2.getD i 0 ≤ 255 := fun i hi => rbb _ (fr_get_mem (by rw [hb.1]; exact hi))
  have gd : ∀ i, i < 24 → 0 ≤ d2.getD i 0 ∧ d2.getD i 0 ≤ 255 := fun i hi => rd _ (fr_get_mem (by rw [hd.1]; exact hi))
  obtain ⟨K1, h1⟩ := ref_check l0 hs
  obtain ⟨K2, h2⟩ := impl_classes l0 hs
  refine ⟨ha.1, hb.1, hd.1, fun t ht => ht.elim (ra t) (fun h => h.elim (rbb t) (rd t)), K1 + K2 + 3, ((checkB l0).2 == 0), ?_, fun htb => ?_⟩
  · unfold provisolaw03_table.f
    have h1 : provisoref02_Check.f (K1 + K2 + 3) l0 = some (checkB l0) := h1 _ (by omega)
    rw [h1]
    rfl
  · have hg := (good_iff l0).1 (by simpa using htb)
    refine ⟨validB l0, subB l0, h2 _ (by omega), top_valid l0, fun t ht => ⟨impl_valid l0 t ht, ref_valid l0 t ht⟩, fun t u ht hu => impl_sub l0 t u ht hu _, fun x hx => ?_, ?_, fun hab hbc => ?_, fun hab hba => ?_⟩
    · have hok : x.ok := by
        rcases hx with e | e | e <;> rw [e]
        · exact ha.1
        · exact hb.1
        · exact hd.1
      by_cases hc : checkS (validB l0) x = 0
      · rw [decide_eq_true hc]
        exact fr_sub.2 ⟨fr_alike.2 ⟨hc, hc, rfl, rfl⟩, fun i hi => sub_refl l0 _ (fr_valid hok hc i hi)⟩
      · rw [decide_eq_false hc]
        rw [Bool.eq_false_iff]
        intro h
        exact hc (fr_alike.1 (fr_sub.1 h).1).1
    · have hz : checkS (validB l0) Fr.zero = 0 := by
        have hg0 : ∀ i, i < 24 → (List.replicate 24 (0 : Int)).getD i 0 = 0 := fun i hi => List.eq_of_mem_replicate (fr_get_mem (by rw [List.length_replicate]; exact hi))
        refine fr_make (L := 0) (H := 0) (sl := List.replicate 24 0) rfl (by decide) (by decide) (fun j _ h4 => hg0 j h4) (fun i hi => ?_)
        rw [hg0 i hi]
        exact top_valid l0
      exact fr_sub.2 ⟨fr_alike.2 ⟨hz, hz, rfl, rfl⟩, fun i hi => sub_refl l0 _ (fr_valid Fr.zero_ok hz i hi)⟩
    · obtain ⟨q1, q2⟩ := fr_sub.1 hab
      obtain ⟨r1, r2⟩ := fr_sub.1 hbc
      obtain ⟨c1, c2, g0, g1⟩ := fr_alike.1 q1
      obtain ⟨c3, c4, g2, g3⟩ := fr_alike.1 r1
      exact fr_sub.2 ⟨fr_alike.2 ⟨c1, c4, g0.trans g2, g1.trans g3⟩, fun i hi => sub_trans hg (ga i hi) (gb i hi) (gd i hi) (q2 i hi) (r2 i hi)⟩
    · obtain ⟨q1, q2⟩ := fr_sub.1 hab
      obtain ⟨r1, r2⟩ := fr_sub.1 hba
      obtain ⟨c1, c2, g0, g1⟩ := fr_alike.1 q1
      have g0 : a0 = b0 := g0
      have g1 : a1 = b1 := g1
      rw [g0, g1, fr_ext ha.1 hb.1 (fun i hi => sub_antisymm hg (ga i hi) (gb i hi) (q2 i hi) (r2 i hi))]
end Go.Proofs.Ytgjnmpgmbhbbhaa.Pure

end

section
namespace Go.Proofs.Ytgjnmpgmbhbbhaa.framesOrder
open Go.ChangeShapes Go.WideShapes Go.ChangeAt Go.RowKit Go.Proofs.YtgjnmpgmbhbbhaaW.PrintWords Go.Proofs.Ytgjnmpgmbhbbhaa.Sees Go.Proofs.Ytgjnmpgmbhbbhaa.P
open Go.ChangeMaps (open_string shut_string)
set_option linter.unusedVariables false
set_option linter.unusedSimpArgs false
theorem own : ownKnob Try.prog.godebug = none := by kernel_rfl
theorem laidOut : laidOutB Try.prog = true := by kernel_rfl
set_option maxRecDepth 100000 in
theorem lifted (os : Os) (started : os.Started) (H : Type) (enc : TypeId × Value → H) :
    ReturnsInHanded {} Try.checked os 6 .any (Rows.framesOrderSpec.pre6 enc Try.prog Try.f6 Rows.framesOrderRow.domain false) (Rows.framesOrderSpec.post enc Try.prog Try.f6 false true false false) := by
  refine returnsInHanded_of_change_sized (C := Try.checked) own started (by kernel_rfl) Try.func6
    (ChangeSpec.witness6 (enc := enc) (C := Try.checked) false ⟨#[], #[.slice none 0 0, .agg #[.int .i64 0, .int .i64 0, .int .u8 0, .int .u8 0, .int .u8 0, .int .u8 0, .int .u8 0, .int .u8 0, .int .u8 0, .int .u8 0, .int .u8 0, .int .u8 0, .int .u8 0, .int .u8 0, .int .u8 0, .int .u8 0, .int .u8 0, .int .u8 0, .int .u8 0, .int .u8 0, .int .u8 0, .int .u8 0, .int .u8 0, .int .u8 0, .int .u8 0, .int .u8 0], .agg #[.int .i64 0, .int .i64 0, .int .u8 0, .int .u8 0, .int .u8 0, .int .u8 0, .int .u8 0, .int .u8 0, .int .u8 0, .int .u8 0, .int .u8 0, .int .u8 0, .int .u8 0, .int .u8 0, .int .u8 0, .int .u8 0, .int .u8 0, .int .u8 0, .int .u8 0, .int .u8 0, .int .u8 0, .int .u8 0, .int .u8 0, .int .u8 0, .int .u8 0, .int .u8 0], .agg #[.int .i64 0, .int .i64 0, .int .u8 0, .int .u8 0, .int .u8 0, .int .u8 0, .int .u8 0, .int .u8 0, .int .u8 0, .int .u8 0, .int .u8 0, .int .u8 0, .int .u8 0, .int .u8 0, .int .u8 0, .int .u8 0, .int .u8 0, .int .u8 0, .int .u8 0, .int .u8 0, .int .u8 0, .int .u8 0, .int .u8 0, .int .u8 0, .int .u8 0, .int .u8 0]], []⟩ 8 (by kernel_rfl) (by kernel_rfl) (by kernel_rfl) (by kernel_rfl)) ?_
  intro W base args ds gs before hval0 hW hcnd hsz0 _
  have hsz : (DataW.weightsEach Try.prog (Try.f6.params.toList ++ Rows.framesOrderSpec.plain.varTypes Try.prog) (ds ++ gs)).all (· ≤ reachBytes) = true := hsz0
  have hval : ∀ (j : Nat) t v, Try.f6.params[j]? = some t → args[j]? = some v → Value.okWide Try.prog W .any base t v := hval0
  have hW' := hW
  obtain ⟨p, q, hA0, hV, rfl, hfz, hnd⟩ := hW
  have hA : DataW.TrodAll enc Try.prog W 0 (fun _ => true) true Try.f6.params.toList args.toList ds p := hA0
  rw [Try.params6] at hA hval hsz
  obtain ⟨v0, vs0, d0, ds0, p0, q0, hargs, rfl, rfl, h0, r0⟩ := trodAll_cons hA
  obtain ⟨v1, vs1, d1, ds1, p1, q1, rfl, rfl, rfl, h1, r1⟩ := trodAll_cons r0
  obtain ⟨v2, vs2, d2, ds2, p2, q2, rfl, rfl, rfl, h2, r2⟩ := trodAll_cons r1
  obtain ⟨v3, vs3, d3, ds3, p3, q3, rfl, rfl, rfl, h3, r3⟩ := trodAll_cons r2
  obtain ⟨rfl, rfl, rfl⟩ := trodAll_nil r3
  obtain rfl : args = #[v0, v1, v2, v3] := by cases args; simp_all
  obtain ⟨rfl, rfl⟩ := trodVars_none hV
  have k0 := h0
  have lt0 : ∀ x ∈ p0, x.block < W.heap.size := by obtain ⟨m, hm⟩ := k0; exact DataW.trod_lt m _ _ _ hm
  obtain ⟨y0, hy0, oy0⟩ := see_arg (j := 0) (t := 22) (sees_slice (B := 48) Try.underlying22 (by kernel_rfl) (by kernel_rfl) sees59) hsz rfl rfl h0
  obtain ⟨a0, len0, cap0, rfl⟩ := okWide_slice Try.underlying22 (hval 0 22 v0 rfl rfl)
  obtain ⟨rfl, hc0, hr0⟩ := see_slice rfl hy0
  have k1 := h1
  have lt1 : ∀ x ∈ p1, x.block < W.heap.size := by obtain ⟨m, hm⟩ := k1; exact DataW.trod_lt m _ _ _ hm
  obtain ⟨y1, hy1, oy1⟩ := see_arg (j := 1) (t := 27) (sees_struct (fun y => y) (fun y => y) (fun _ => rfl) Try.underlying27 (by kernel_rfl) (sees_more rfl (by kernel_rfl) (sees_int Try.underlying3) (sees_more rfl (by kernel_rfl) (sees_int Try.underlying3) (sees_last rfl (by kernel_rfl) (sees_array (by decide) Try.underlying25 (by kernel_rfl) (by kernel_rfl) (sees_int Try.underlying24)))))) hsz rfl rfl h1
  obtain ⟨cs1, rfl, hcs1⟩ := okWide_struct Try.underlying27 (hval 1 27 v1 rfl rfl)
  obtain rfl : cs1 = (⟨y1.1, y1.2.1, y1.2.2⟩ : Fr).a := Array.ext' (by have e_ := (frame_cells hy1).1; simpa [Value.cells, Fr.a] using e_)
  have k2 := h2
  have lt2 : ∀ x ∈ p2, x.block < W.heap.size := by obtain ⟨m, hm⟩ := k2; exact DataW.trod_lt m _ _ _ hm
  obtain ⟨y2, hy2, oy2⟩ := see_arg (j := 2) (t := 27) (sees_struct (fun y => y) (fun y => y) (fun _ => rfl) Try.underlying27 (by kernel_rfl) (sees_more rfl (by kernel_rfl) (sees_int Try.underlying3) (sees_more rfl (by kernel_rfl) (sees_int Try.underlying3) (sees_last rfl (by kernel_rfl) (sees_array (by decide) Try.underlying25 (by kernel_rfl) (by kernel_rfl) (sees_int Try.underlying24)))))) hsz rfl rfl h2
  obtain ⟨cs2, rfl, hcs2⟩ := okWide_struct Try.underlying27 (hval 2 27 v2 rfl rfl)
  obtain rfl : cs2 = (⟨y2.1, y2.2.1, y2.2.2⟩ : Fr).a := Array.ext' (by have e_ := (frame_cells hy2).1; simpa [Value.cells, Fr.a] using e_)
  have k3 := h3
  have lt3 : ∀ x ∈ p3, x.block < W.heap.size := by obtain ⟨m, hm⟩ := k3; exact DataW.trod_lt m _ _ _ hm
  obtain ⟨y3, hy3, oy3⟩ := see_arg (j := 3) (t := 27) (sees_struct (fun y => y) (fun y => y) (fun _ => rfl) Try.underlying27 (by kernel_rfl) (sees_more rfl (by kernel_rfl) (sees_int Try.underlying3) (sees_more rfl (by kernel_rfl) (sees_int Try.underlying3) (sees_last rfl (by kernel_rfl) (sees_array (by decide) Try.underlying25 (by kernel_rfl) (by kernel_rfl) (sees_int Try.underlying24)))))) hsz rfl rfl h3
  obtain ⟨cs3, rfl, hcs3⟩ := okWide_struct Try.underlying27 (hval 3 27 v3 rfl rfl)
  obtain rfl : cs3 = (⟨y3.1, y3.2.1, y3.2.2⟩ : Fr).a := Array.ext' (by have e_ := (frame_cells hy3).1; simpa [Value.cells, Fr.a] using e_)
  clear hA0 hval0 hsz0 hsz
  have hk := Pure.FramesOrder y0 y1.1 y1.2.1 y1.2.2 y2.1 y2.2.1 y2.2.2 y3.1 y3.2.1 y3.2.2 oy0 oy1.1 oy1.2.1 oy1.2.2 oy2.1 oy2.2.1 oy2.2.2 oy3.1 oy3.2.1 oy3.2.2
  refine (provisolaw03_FramesOrder.calls _ _ y0 (y1.1) (y1.2.1) (y1.2.2) (y2.1) (y2.2.1) (y2.2.2) (y3.1) (y3.2.1) (y3.2.2) W hr0 hc0 hk).mono ?_
  rintro e W' ⟨rfl, bel0⟩
  have bel : Below W.heap.size W W' := bel0
  exact ⟨_, rfl, _, _, _, [], _, [], hW', trodAll_mk1 (shut_bool Try.underlying4 _), (trodAll_cons_mk (Below.trod laidOut (by kernel_rfl) (of_decide_eq_true (by kernel_rfl)) k0 bel lt0) (trodAll_cons_mk (Below.trod laidOut (by kernel_rfl) (of_decide_eq_true (by kernel_rfl)) k1 bel lt1) (trodAll_cons_mk (Below.trod laidOut (by kernel_rfl) (of_decide_eq_true (by kernel_rfl)) k2 bel lt2) (trodAll_cons_mk (Below.trod laidOut (by kernel_rfl) (of_decide_eq_true (by kernel_rfl)) k3 bel lt3) trodAll_mk0)))), rfl, bel.frame _, fun h => by cases h⟩
theorem over : Rows.framesOrderRow.holds Try.pinned (OpenSpec.ofChange Rows.framesOrderSpec) :=
  OpenClaim.holds_of_wide 6 Try.f6 rfl rfl rfl rfl rfl rfl rfl ⟨rfl, rfl, rfl, rfl, rfl⟩ rfl rfl rfl rfl rfl (by kernel_rfl) Try.func6 (by kernel_rfl)
    (of_decide_eq_true (by kernel_rfl)) (by unfold Func.isWrapper; first | (rw [if_pos (by decide +kernel)]; kernel_rfl) | (rw [if_neg (by decide +kernel)]; exact ⟨rfl, rfl⟩))
    (fun os started H enc _ => lifted os started H enc)
theorem proved : Rows.FramesOrderSaid := over
end Go.Proofs.Ytgjnmpgmbhbbhaa.framesOrder
namespace Go.Proofs.Ytgjnmpgmbhbbhaa
theorem framesOrder_holds : Rows.FramesOrderSaid := framesOrder.proved
end Go.Proofs.Ytgjnmpgmbhbbhaa

end

