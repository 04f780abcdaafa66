/- Proved: the law FramesRanks holds for every input that the row lets in. No condition of ours. -/
import Derived.Test.YtgjnmpgmbhbbhaaBFramesRanksd
import Derived.Test.YtgjnmpgmbhbbhaaRows
import Derived.ShutString
import Derived.ChangeOld
import Derived.Lib.SmallJoins
section
namespace Go.Proofs.Ytgjnmpgmbhbbhaa.P
open Go.RowKit Go.Proofs.YtgjnmpgmbhbbhaaW.PrintWords Go.Proofs.YtgjnmpgmbhbbhaaW.PrintLast Go.Proofs.YtgjnmpgmbhbbhaaW.PrintMore
attribute [local go_sem] max2_int min2_int max_two min_two max_three min_three max_four min_four   -- for this text's walks alone
set_option linter.unusedVariables false
set_option linter.unusedSimpArgs false

set_option maxHeartbeats 8000000 in
set_option maxRecDepth 100000 in
theorem types_Sub.calls (k : Nat) (A0 : Option Addr) (c0 : Nat) (l0 : List (S59)) (a1 : Int) (a2 : Int) (r : Bool) (w : World) (hr0 : Kd.C k59 w A0 l0.length l0) (hc0 : l0.length ≤ c0) (h : types_Sub.f k l0 a1 a2 = some r) :
    Calls Try.prog 50 #[.slice A0 l0.length c0, .int .u8 a1, .int .u8 a2] w fun e w' => e = .returned (.bool r) ∧ Below w.heap.size w w' := by
  have HR0 := Aside0.mk hr0
  have HC0 := Aside0.mk hc0
  clear hr0 hc0
  have HB := Aside0.mk (Below.refl w.heap.size w)
  have H : ((types_Valid.f l0 a1).bind fun t158 => (if t158 = true then ((types_Valid.f l0 a2).bind fun t159 => (types_Sub.j0 k l0 a1 a2 (!t159))) else (types_Sub.j0 k l0 a1 a2 true))) = some r := h
  clear h
  have HC4 := Aside0.mk H
  clear H
  go_enter Try.func50, Try.ntmps50
  go_upto_region 1 with (fail)
  go_cut [18] (fun v18 wc => ∃ (kq : Nat) (x18_3 : Bool), v18 = .bool x18_3 ∧ Aside0 (types_Sub.j0 kq l0 a1 a2 x18_3 = some r) ∧ Aside0 (kq ≤ k) ∧ Aside0 (Below w.heap.size w wc))
  case first =>
    have H := HC4.out
    clear HC4
    replace H := Option.bind_eq_some_iff.mp H
    obtain ⟨t158, A50, H⟩ := H
    replace H : (if t158 = true then ((types_Valid.f l0 a2).bind fun t159 => (types_Sub.j0 k l0 a1 a2 (!t159))) else (types_Sub.j0 k l0 a1 a2 true)) = some r := H
    have A5 := Aside0.mk A50
    clear A50
    by_cases c6 : t158 = true
    · subst c6
      have H1 : ((types_Valid.f l0 a2).bind fun t159 => (types_Sub.j0 k l0 a1 a2 (!t159))) = some r := by rw [if_pos rfl] at H; exact H
      clear H
      have H := H1
      clear H1
      replace H := Option.bind_eq_some_iff.mp H
      obtain ⟨t159, A70, H⟩ := H
      replace H : (types_Sub.j0 k l0 a1 a2 (!t159)) = some r := H
      have A7 := Aside0.mk A70
      clear A70
      have H' := Aside0.mk H
      clear H
      go_wp2_with (first | ((with_reducible refine gate_callee (f := 42) rfl ?_); refine goesL_ (some 11) rfl rfl Try.func42 (by kernel_rfl) rfl #[.slice A0 l0.length c0, .int .u8 a1] rfl (by (try simp only [List.map_toArray, List.map_cons, List.map_nil]); first | done | rfl | (simp only [List.length_drop, List.length_take]; rfl)) ?_; (with_reducible refine (types_Valid.calls _ _ l0 a1 true _ ?side1 ?side2 A5.out).mono ?_); (case side1 => repeat (first | exact (Kd.C_below HR0.out HB.out) | (with_reducible refine Kd.C_alloc ?_ _) | (with_reducible refine Kd.C_drewN ?_ _) | (with_reducible refine Kd.C_drew ?_))); (case side2 => exact HC0.out); rintro e w' ⟨rfl, ⟨nd, rfl⟩⟩; refine ⟨_, rfl, ?_⟩) | (go_at_call 42; (with_reducible refine (types_Valid.calls _ _ l0 a2 t159 _ ?side1 ?side2 A7.out).mono ?_); (case side1 => repeat (first | exact (Kd.C_below HR0.out (by repeat (first | (with_reducible first | exact HB.out | apply below_alloc | apply pw_below_drewN | apply below_drew1) | exact HB.out))) | (with_reducible refine Kd.C_alloc ?_ _) | (with_reducible refine Kd.C_drewN ?_ _) | (with_reducible refine Kd.C_drew ?_))); (case side2 => exact HC0.out); rintro e w' ⟨rfl, ⟨nd, rfl⟩⟩))
      go_meet
      case rel => exact ⟨_, (!t159), (by first | rfl | (simp; done) | (simp [*]; done)), H', ⟨by first | omega | exact Nat.le_refl _⟩, ⟨by repeat (first | (with_reducible first | exact HB.out | apply below_alloc | apply pw_below_drewN | apply below_drew1) | exact HB.out)⟩⟩
    · replace c6 := Bool.eq_false_iff.mpr c6
      subst c6
      have H1 : (types_Sub.j0 k l0 a1 a2 true) = some r := by rw [if_neg (show ¬ (false = true) by decide)] at H; exact H
      clear H
      have H := H1
      clear H1
      have H' := Aside0.mk H
      clear H
      go_wp2_with (first | ((with_reducible refine gate_callee (f := 42) rfl ?_); refine goesL_ (some 11) rfl rfl Try.func42 (by kernel_rfl) rfl #[.slice A0 l0.length c0, .int .u8 a1] rfl (by (try simp only [List.map_toArray, List.map_cons, List.map_nil]); first | done | rfl | (simp only [List.length_drop, List.length_take]; rfl)) ?_; (with_reducible refine (types_Valid.calls _ _ l0 a1 false _ ?side1 ?side2 A5.out).mono ?_); (case side1 => repeat (first | exact (Kd.C_below HR0.out HB.out) | (with_reducible refine Kd.C_alloc ?_ _) | (with_reducible refine Kd.C_drewN ?_ _) | (with_reducible refine Kd.C_drew ?_))); (case side2 => exact HC0.out); rintro e w' ⟨rfl, ⟨nd, rfl⟩⟩; refine ⟨_, rfl, ?_⟩))
      go_meet
      case rel => exact ⟨_, (true), (by first | rfl | (simp; done) | (simp [*]; done)), H', ⟨by first | omega | exact Nat.le_refl _⟩, ⟨by repeat (first | (with_reducible first | exact HB.out | apply below_alloc | apply pw_below_drewN | apply below_drew1) | exact HB.out)⟩⟩
  case rest =>
    clear HC4
    try clear p2
    try clear c4
    try clear c5
    try clear c6
    obtain ⟨kq, x18_3, rfl, HA, HJ3, HB⟩ := hcut
    cases kq with
    | zero => exact absurd HA.out (by simp [types_Sub.j0])
    | succ kj3 =>
      have H := HA.out
      clear HA
      simp only [types_Sub.j0] at H
      by_cases c8 : x18_3 = true
      · subst c8
        have H1 : (some false) = some r := by rw [if_pos rfl] at H; exact H
        clear H
        have H := H1
        clear H1
        obtain rfl := Option.some.inj H
        go_wp2
        go_ret
        exact ⟨by first | rfl | (simp [errW_none, errW_some] <;> rfl) | (simp [*, errW_none, errW_some] <;> rfl), by repeat (first | (with_reducible first | exact HB.out | apply below_alloc | apply pw_below_drewN | apply below_drew1) | exact HB.out)⟩
      · replace c8 := Bool.eq_false_iff.mpr c8
        subst c8
        have H1 : (if a1 = a2 then (types_Sub.j1 kj3 l0 a1 a2 true) else (types_Sub.j1 kj3 l0 a1 a2 (a2 == 0))) = some r := by rw [if_neg (show ¬ (false = true) by decide)] at H; exact H
        clear H
        have H := H1
        clear H1
        have HC9 := Aside0.mk H
        clear H
        go_upto_region 3 with (fail)
        go_cut [19] (fun v19 wc => ∃ (kq : Nat) (x19_8 : Bool), v19 = .bool x19_8 ∧ Aside0 (types_Sub.j1 kq l0 a1 a2 x19_8 = some r) ∧ Aside0 (kq ≤ kj3) ∧ Aside0 (Below w.heap.size w wc))
        case first =>
          have H := HC9.out
          clear HC9
          by_cases c10 : a1 = a2
          · rw [if_pos c10] at H
            have c10b0 : (a1 == a2) = true := beq_iff_eq.mpr c10
            have c10b1 : (a1 != a2) = false := bne_eq_false_iff_eq.mpr c10
            clear c10
            (first | rw [c10b0] | (simp only [i64_w, i32_w]; rw [c10b0]) | skip)
            have H' := Aside0.mk H
            clear H
            go_wp2
            go_meet
            case rel => exact ⟨_, (true), (by first | rfl | (simp; done) | (simp [*]; done)), H', ⟨by have := HJ3.out; first | omega | exact Nat.le_refl _⟩, ⟨by repeat (first | (with_reducible first | exact HB.out | apply below_alloc | apply pw_below_drewN | apply below_drew1) | exact HB.out)⟩⟩
          · rw [if_neg c10] at H
            have c10b0 : (a1 == a2) = false := beq_eq_false_iff_ne.mpr c10
            have c10b1 : (a1 != a2) = true := bne_iff_ne.mpr c10
            (first | rw [c10b0] | (simp only [i64_w, i32_w]; rw [c10b0]) | skip)
            have H' := Aside0.mk H
            clear H
            go_wp2
            go_meet
            case rel => exact ⟨_, ((a2 == 0)), (by first | rfl | (simp; done) | (simp [*]; done)), H', ⟨by have := HJ3.out; first | omega | exact Nat.le_refl _⟩, ⟨by repeat (first | (with_reducible first | exact HB.out | apply below_alloc | apply pw_below_drewN | apply below_drew1) | exact HB.out)⟩⟩
        case rest =>
          clear HC9
          try clear c1
          try clear p2
          try clear c4
          try clear c5
          try clear c6
          try clear c8
          try clear c10
          try clear c10b0
          try clear c10b1
          try clear p2
          obtain ⟨kq, x19_8, rfl, HA, HJ8, HB⟩ := hcut
          cases kq with
          | zero => exact absurd HA.out (by simp [types_Sub.j1])
          | succ kj8 =>
            have H := HA.out
            clear HA
            simp only [types_Sub.j1] at H
            by_cases c11 : x19_8 = true
            · subst c11
              have H1 : (some true) = some r := by rw [if_pos rfl] at H; exact H
              clear H
              have H := H1
              clear H1
              obtain rfl := Option.some.inj H
              go_wp2
              go_ret
              exact ⟨by first | rfl | (simp [errW_none, errW_some] <;> rfl) | (simp [*, errW_none, errW_some] <;> rfl), by repeat (first | (with_reducible first | exact HB.out | apply below_alloc | apply pw_below_drewN | apply below_drew1) | exact HB.out)⟩
            · replace c11 := Bool.eq_false_iff.mpr c11
              subst c11
              have H1 : (if a1 = 3 then (types_Sub.j2 kj8 l0 a1 a2 true) else (types_Sub.j2 kj8 l0 a1 a2 (a2 == 5))) = some r := by rw [if_neg (show ¬ (false = true) by decide)] at H; exact H
              clear H
              have H := H1
              clear H1
              have HC12 := Aside0.mk H
              clear H
              go_upto_region 5 with (fail)
              go_cut [27] (fun v27 wc => ∃ (kq : Nat) (x27_11 : Bool), v27 = .bool x27_11 ∧ Aside0 (types_Sub.j2 kq l0 a1 a2 x27_11 = some r) ∧ Aside0 (kq ≤ kj8) ∧ Aside0 (Below w.heap.size w wc))
              case first =>
                have H := HC12.out
                clear HC12
                by_cases c13 : a1 = 3
                · rw [if_pos c13] at H
                  have c13b0 : (a1 == 3) = true := beq_iff_eq.mpr c13
                  have c13b1 : (a1 != 3) = false := bne_eq_false_iff_eq.mpr c13
                  clear c13
                  (first | rw [c13b0] | (simp only [i64_w, i32_w]; rw [c13b0]) | skip)
                  have H' := Aside0.mk H
                  clear H
                  go_wp2
                  go_meet
                  case rel => exact ⟨_, (true), (by first | rfl | (simp; done) | (simp [*]; done)), H', ⟨by have := HJ3.out; have := HJ8.out; first | omega | exact Nat.le_refl _⟩, ⟨by repeat (first | (with_reducible first | exact HB.out | apply below_alloc | apply pw_below_drewN | apply below_drew1) | exact HB.out)⟩⟩
                · rw [if_neg c13] at H
                  have c13b0 : (a1 == 3) = false := beq_eq_false_iff_ne.mpr c13
                  have c13b1 : (a1 != 3) = true := bne_iff_ne.mpr c13
                  (first | rw [c13b0] | (simp only [i64_w, i32_w]; rw [c13b0]) | skip)
                  have H' := Aside0.mk H
                  clear H
                  go_wp2
                  go_meet
                  case rel => exact ⟨_, ((a2 == 5)), (by first | rfl | (simp; done) | (simp [*]; done)), H', ⟨by have := HJ3.out; have := HJ8.out; first | omega | exact Nat.le_refl _⟩, ⟨by repeat (first | (with_reducible first | exact HB.out | apply below_alloc | apply pw_below_drewN | apply below_drew1) | exact HB.out)⟩⟩
              case rest =>
                clear HC12
                try clear c1
                try clear p2
                try clear c4
                try clear c5
                try clear c6
                try clear c8
                try clear c10
                try clear c10b0
                try clear c10b1
                try clear c11
                try clear c13
                try clear c13b0
                try clear c13b1
                try clear p2
                obtain ⟨kq, x27_11, rfl, HA, HJ11, HB⟩ := hcut
                cases kq with
                | zero => exact absurd HA.out (by simp [types_Sub.j2])
                | succ kj11 =>
                  have H := HA.out
                  clear HA
                  simp only [types_Sub.j2] at H
                  by_cases c14 : x27_11 = true
                  · subst c14
                    have H1 : ((types_IsRef.f a1).bind fun t160 => (if t160 = true then ((types_IsRef.f a2).bind fun t161 => (some t161)) else (some false))) = some r := by rw [if_pos rfl] at H; exact H
                    clear H
                    have H := H1
                    clear H1
                    replace H := Option.bind_eq_some_iff.mp H
                    obtain ⟨t160, A150, H⟩ := H
                    replace H : (if t160 = true then ((types_IsRef.f a2).bind fun t161 => (some t161)) else (some false)) = some r := H
                    have A15 := Aside0.mk A150
                    clear A150
                    by_cases c16 : t160 = true
                    · subst c16
                      have H1 : ((types_IsRef.f a2).bind fun t161 => (some t161)) = some r := by rw [if_pos rfl] at H; exact H
                      clear H
                      have H := H1
                      clear H1
                      replace H := Option.bind_eq_some_iff.mp H
                      obtain ⟨t161, A170, H⟩ := H
                      replace H : (some t161) = some r := H
                      have A17 := Aside0.mk A170
                      clear A170
                      obtain rfl := Option.some.inj H
                      go_wp2_with (first | ((with_reducible refine gate_callee (f := 62) rfl ?_); refine goesL_ (some 35) rfl rfl Try.func62 (by kernel_rfl) rfl #[.int .u8 a1] rfl (by (try simp only [List.map_toArray, List.map_cons, List.map_nil]); first | done | rfl | (simp only [List.length_drop, List.length_take]; rfl)) ?_; (with_reducible refine (types_IsRef.calls a1 true _ A15.out).mono ?_); rintro e w' ⟨rfl, ⟨nd, rfl⟩⟩; refine ⟨_, rfl, ?_⟩) | (go_at_call 62; (with_reducible refine (types_IsRef.calls a2 t161 _ A17.out).mono ?_); rintro e w' ⟨rfl, ⟨nd, rfl⟩⟩))
                      go_ret
                      exact ⟨by first | rfl | (simp [errW_none, errW_some] <;> rfl) | (simp [*, errW_none, errW_some] <;> rfl), by repeat (first | (with_reducible first | exact HB.out | apply below_alloc | apply pw_below_drewN | apply below_drew1) | exact HB.out)⟩
                    · replace c16 := Bool.eq_false_iff.mpr c16
                      subst c16
                      have H1 : (some false) = some r := by rw [if_neg (show ¬ (false = true) by decide)] at H; exact H
                      clear H
                      have H := H1
                      clear H1
                      obtain rfl := Option.some.inj H
                      go_wp2_with (first | ((with_reducible refine gate_callee (f := 62) rfl ?_); refine goesL_ (some 35) rfl rfl Try.func62 (by kernel_rfl) rfl #[.int .u8 a1] rfl (by (try simp only [List.map_toArray, List.map_cons, List.map_nil]); first | done | rfl | (simp only [List.length_drop, List.length_take]; rfl)) ?_; (with_reducible refine (types_IsRef.calls a1 false _ A15.out).mono ?_); rintro e w' ⟨rfl, ⟨nd, rfl⟩⟩; refine ⟨_, rfl, ?_⟩))
                      go_ret
                      exact ⟨by first | rfl | (simp [errW_none, errW_some] <;> rfl) | (simp [*, errW_none, errW_some] <;> rfl), by repeat (first | (with_reducible first | exact HB.out | apply below_alloc | apply pw_below_drewN | apply below_drew1) | exact HB.out)⟩
                  · replace c14 := Bool.eq_false_iff.mpr c14
                    subst c14
                    have H1 : ((types_class.f l0 a1).bind fun t162 => ((types_class.f l0 a2).bind fun t163 => (if t162 ≥ 0 then (if t163 ≥ 0 then ((types_above.f l0 t162 t163).bind fun t164 => (some t164)) else (some false)) else (some false)))) = some r := by rw [if_neg (show ¬ (false = true) by decide)] at H; exact H
                    clear H
                    have H := H1
                    clear H1
                    replace H := Option.bind_eq_some_iff.mp H
                    obtain ⟨t162, A180, H⟩ := H
                    replace H : ((types_class.f l0 a2).bind fun t163 => (if t162 ≥ 0 then (if t163 ≥ 0 then ((types_above.f l0 t162 t163).bind fun t164 => (some t164)) else (some false)) else (some false))) = some r := H
                    have A18 := Aside0.mk A180
                    clear A180
                    replace H := Option.bind_eq_some_iff.mp H
                    obtain ⟨t163, A190, H⟩ := H
                    replace H : (if t162 ≥ 0 then (if t163 ≥ 0 then ((types_above.f l0 t162 t163).bind fun t164 => (some t164)) else (some false)) else (some false)) = some r := H
                    have A19 := Aside0.mk A190
                    clear A190
                    by_cases c20 : t162 ≥ 0
                    · rw [if_pos c20] at H
                      have c20b0 : decide (0 ≤ t162) = true := decide_eq_true c20
                      clear c20
                      by_cases c21 : t163 ≥ 0
                      · rw [if_pos c21] at H
                        have c21b0 : decide (0 ≤ t163) = true := decide_eq_true c21
                        clear c21
                        replace H := Option.bind_eq_some_iff.mp H
                        obtain ⟨t164, A220, H⟩ := H
                        replace H : (some t164) = some r := H
                        have A22 := Aside0.mk A220
                        clear A220
                        obtain rfl := Option.some.inj H
                        go_wp2_with (first | ((with_reducible refine gate_callee (f := 61) rfl ?_); refine goesL_ (some 42) rfl rfl Try.func61 (by kernel_rfl) rfl #[.slice A0 l0.length c0, .int .u8 a1] rfl (by (try simp only [List.map_toArray, List.map_cons, List.map_nil]); first | done | rfl | (simp only [List.length_drop, List.length_take]; rfl)) ?_; (with_reducible refine (types_class.calls _ _ l0 a1 t162 _ ?side1 ?side2 A18.out).mono ?_); (case side1 => repeat (first | exact (Kd.C_below HR0.out HB.out) | (with_reducible refine Kd.C_alloc ?_ _) | (with_reducible refine Kd.C_drewN ?_ _) | (with_reducible refine Kd.C_drew ?_))); (case side2 => exact HC0.out); rintro e w' ⟨rfl, ⟨nd, rfl⟩⟩; refine ⟨_, rfl, ?_⟩) | ((with_reducible refine gate_callee (f := 61) rfl ?_); refine goesL_ (some 45) rfl rfl Try.func61 (by kernel_rfl) rfl #[.slice A0 l0.length c0, .int .u8 a2] rfl (by (try simp only [List.map_toArray, List.map_cons, List.map_nil]); first | done | rfl | (simp only [List.length_drop, List.length_take]; rfl)) ?_; (with_reducible refine (types_class.calls _ _ l0 a2 t163 _ ?side1 ?side2 A19.out).mono ?_); (case side1 => repeat (first | exact (Kd.C_below HR0.out (by repeat (first | (with_reducible first | exact HB.out | apply below_alloc | apply pw_below_drewN | apply below_drew1) | exact HB.out))) | (with_reducible refine Kd.C_alloc ?_ _) | (with_reducible refine Kd.C_drewN ?_ _) | (with_reducible refine Kd.C_drew ?_))); (case side2 => exact HC0.out); rintro e w' ⟨rfl, ⟨nd, rfl⟩⟩; refine ⟨_, rfl, ?_⟩) | (go_at_call 63; (with_reducible refine (types_above.calls _ _ l0 t162 t163 t164 _ ?side1 ?side2 A22.out).mono ?_); (case side1 => repeat (first | exact (Kd.C_below HR0.out (by repeat (first | (with_reducible first | exact HB.out | apply below_alloc | apply pw_below_drewN | apply below_drew1) | exact HB.out))) | (with_reducible refine Kd.C_alloc ?_ _) | (with_reducible refine Kd.C_drewN ?_ _) | (with_reducible refine Kd.C_drew ?_))); (case side2 => exact HC0.out); rintro e w23 ⟨rfl, hb⟩; have n0_ := Aside0.mk (below_step (by repeat (first | (with_reducible first | exact HB.out | apply below_alloc | apply pw_below_drewN | apply below_drew1) | exact HB.out)) hb); clear HB; have HB := n0_; clear n0_; (try clear hb); (try clear hb2); (try clear hk); (try clear hi)))
                        go_ret
                        exact ⟨by first | rfl | (simp [errW_none, errW_some] <;> rfl) | (simp [*, errW_none, errW_some] <;> rfl), by repeat (first | (with_reducible first | exact HB.out | apply below_alloc | apply pw_below_drewN | apply below_drew1) | exact HB.out)⟩
                      · rw [if_neg c21] at H
                        have c21b0 : decide (0 ≤ t163) = false := decide_eq_false c21
                        clear c21
                        obtain rfl := Option.some.inj H
                        go_wp2_with (first | ((with_reducible refine gate_callee (f := 61) rfl ?_); refine goesL_ (some 42) rfl rfl Try.func61 (by kernel_rfl) rfl #[.slice A0 l0.length c0, .int .u8 a1] rfl (by (try simp only [List.map_toArray, List.map_cons, List.map_nil]); first | done | rfl | (simp only [List.length_drop, List.length_take]; rfl)) ?_; (with_reducible refine (types_class.calls _ _ l0 a1 t162 _ ?side1 ?side2 A18.out).mono ?_); (case side1 => repeat (first | exact (Kd.C_below HR0.out HB.out) | (with_reducible refine Kd.C_alloc ?_ _) | (with_reducible refine Kd.C_drewN ?_ _) | (with_reducible refine Kd.C_drew ?_))); (case side2 => exact HC0.out); rintro e w' ⟨rfl, ⟨nd, rfl⟩⟩; refine ⟨_, rfl, ?_⟩) | ((with_reducible refine gate_callee (f := 61) rfl ?_); refine goesL_ (some 45) rfl rfl Try.func61 (by kernel_rfl) rfl #[.slice A0 l0.length c0, .int .u8 a2] rfl (by (try simp only [List.map_toArray, List.map_cons, List.map_nil]); first | done | rfl | (simp only [List.length_drop, List.length_take]; rfl)) ?_; (with_reducible refine (types_class.calls _ _ l0 a2 t163 _ ?side1 ?side2 A19.out).mono ?_); (case side1 => repeat (first | exact (Kd.C_below HR0.out (by repeat (first | (with_reducible first | exact HB.out | apply below_alloc | apply pw_below_drewN | apply below_drew1) | exact HB.out))) | (with_reducible refine Kd.C_alloc ?_ _) | (with_reducible refine Kd.C_drewN ?_ _) | (with_reducible refine Kd.C_drew ?_))); (case side2 => exact HC0.out); rintro e w' ⟨rfl, ⟨nd, rfl⟩⟩; refine ⟨_, rfl, ?_⟩))
                        go_ret
                        exact ⟨by first | rfl | (simp [errW_none, errW_some] <;> rfl) | (simp [*, errW_none, errW_some] <;> rfl), by repeat (first | (with_reducible first | exact HB.out | apply below_alloc | apply pw_below_drewN | apply below_drew1) | exact HB.out)⟩
                    · rw [if_neg c20] at H
                      have c20b0 : decide (0 ≤ t162) = false := decide_eq_false c20
                      clear c20
                      obtain rfl := Option.some.inj H
                      go_wp2_with (first | ((with_reducible refine gate_callee (f := 61) rfl ?_); refine goesL_ (some 42) rfl rfl Try.func61 (by kernel_rfl) rfl #[.slice A0 l0.length c0, .int .u8 a1] rfl (by (try simp only [List.map_toArray, List.map_cons, List.map_nil]); first | done | rfl | (simp only [List.length_drop, List.length_take]; rfl)) ?_; (with_reducible refine (types_class.calls _ _ l0 a1 t162 _ ?side1 ?side2 A18.out).mono ?_); (case side1 => repeat (first | exact (Kd.C_below HR0.out HB.out) | (with_reducible refine Kd.C_alloc ?_ _) | (with_reducible refine Kd.C_drewN ?_ _) | (with_reducible refine Kd.C_drew ?_))); (case side2 => exact HC0.out); rintro e w' ⟨rfl, ⟨nd, rfl⟩⟩; refine ⟨_, rfl, ?_⟩) | ((with_reducible refine gate_callee (f := 61) rfl ?_); refine goesL_ (some 45) rfl rfl Try.func61 (by kernel_rfl) rfl #[.slice A0 l0.length c0, .int .u8 a2] rfl (by (try simp only [List.map_toArray, List.map_cons, List.map_nil]); first | done | rfl | (simp only [List.length_drop, List.length_take]; rfl)) ?_; (with_reducible refine (types_class.calls _ _ l0 a2 t163 _ ?side1 ?side2 A19.out).mono ?_); (case side1 => repeat (first | exact (Kd.C_below HR0.out (by repeat (first | (with_reducible first | exact HB.out | apply below_alloc | apply pw_below_drewN | apply below_drew1) | exact HB.out))) | (with_reducible refine Kd.C_alloc ?_ _) | (with_reducible refine Kd.C_drewN ?_ _) | (with_reducible refine Kd.C_drew ?_))); (case side2 => exact HC0.out); rintro e w' ⟨rfl, ⟨nd, rfl⟩⟩; refine ⟨_, rfl, ?_⟩))
                      go_ret
                      exact ⟨by first | rfl | (simp [errW_none, errW_some] <;> rfl) | (simp [*, errW_none, errW_some] <;> rfl), by repeat (first | (with_reducible first | exact HB.out | apply below_alloc | apply pw_below_drewN | apply below_drew1) | exact HB.out)⟩

def alikeS (vb : Int → Bool) (a b : Fr) : Int := if checkS vb a = 0 then (if checkS vb b = 0 then (if a.loc = b.loc ∧ a.hgt = b.hgt then 0 else 32) else checkS vb b) else checkS vb a
def subS (vb : Int → Bool) (sb : Int → Int → Bool) (a b : Fr) : Bool := decide (alikeS vb a b = 0) && (List.range 24).all (fun i => sb (a.sl.getD i 0) (b.sl.getD i 0))
theorem all_succ (p : Nat → Bool) (i : Nat) : (List.range (i + 1)).all p = ((List.range i).all p && p i) := by
  rw [List.range_succ, List.all_append]
  simp
set_option maxHeartbeats 3200000 in
set_option maxRecDepth 100000 in
theorem alike_calls (A0 : Option Addr) (c0 : Nat) (l0 : List S59) (a b : Fr) (hfa : a.ok) (hfb : b.ok) (vb : Int → Bool) (w : World) (hr0 : Kd.C k59 w A0 l0.length l0) (hc0 : l0.length ≤ c0) (hva : ∀ t ∈ a.sl, types_Valid.f l0 t = some (vb t)) (hvb : ∀ t ∈ b.sl, types_Valid.f l0 t = some (vb t)) : Calls Try.prog 49 #[.slice A0 l0.length c0, .agg a.a, .agg b.a] w fun e w' => e = .returned (.int .i64 (alikeS vb a b)) ∧ Below w.heap.size w w' := by
  have HFA := Aside0.mk hfa
  have HFB := Aside0.mk hfb
  have HR0 := Aside0.mk hr0
  have HC0 := Aside0.mk hc0
  have HVA := Aside0.mk hva
  have HVB := Aside0.mk hvb
  have HA := Aside0.mk (Frs.nil w)
  clear hfa hfb hr0 hc0 hva hvb
  obtain ⟨ea, hea⟩ : ∃ ea, checkS vb a = ea := ⟨_, rfl⟩
  obtain ⟨eb, heb⟩ : ∃ eb, checkS vb b = eb := ⟨_, rfl⟩
  have HEa := Aside0.mk hea
  have HEb := Aside0.mk heb
  have HAL : Aside0 (alikeS vb a b = if ea = 0 then (if eb = 0 then (if a.loc = b.loc ∧ a.hgt = b.hgt then 0 else 32) else eb) else ea) := ⟨by unfold alikeS; rw [hea, heb]⟩
  clear hea heb
  by_cases z1 : ea = 0
  · subst z1
    by_cases z2 : eb = 0
    · subst z2
      by_cases z3 : a.loc = b.loc
      · have z3b : (a.loc != b.loc) = false := by rw [z3]; simp
        have Z3 := Aside0.mk z3
        clear z3
        by_cases z4 : a.hgt = b.hgt
        · have z4b : (a.hgt != b.hgt) = false := by rw [z4]; simp
          have Z4 := Aside0.mk z4
          clear z4
          go_enter Try.func49, Try.ntmps49
          go_wp2_with (first | ((with_reducible refine gate_dst (N := 4) rfl ?_); refine fr_box rfl rfl (f := a) rfl HFA.out HA.out ?_; intro ga w_ hA; (try simp only [List.cons_append, List.nil_append] at hA); replace HA := Aside0.mk hA; clear hA) | ((with_reducible refine gate_dst (N := 5) rfl ?_); refine fr_box rfl rfl (f := b) rfl HFB.out HA.out ?_; intro gb w_ hA; (try simp only [List.cons_append, List.nil_append] at hA); replace HA := Aside0.mk hA; clear hA) | (refine fr_load rfl rfl rfl HA.out (by first | exact List.mem_cons_self | exact List.mem_cons_of_mem _ List.mem_cons_self | exact List.mem_cons_of_mem _ (List.mem_cons_of_mem _ List.mem_cons_self) | exact List.mem_cons_of_mem _ (List.mem_cons_of_mem _ (List.mem_cons_of_mem _ List.mem_cons_self))) ?_) | (refine fr_load0 rfl rfl rfl HA.out (by first | exact List.mem_cons_self | exact List.mem_cons_of_mem _ List.mem_cons_self | exact List.mem_cons_of_mem _ (List.mem_cons_of_mem _ List.mem_cons_self) | exact List.mem_cons_of_mem _ (List.mem_cons_of_mem _ (List.mem_cons_of_mem _ List.mem_cons_self))) ?_) | (refine fr_load1 rfl rfl rfl HA.out (by first | exact List.mem_cons_self | exact List.mem_cons_of_mem _ List.mem_cons_self | exact List.mem_cons_of_mem _ (List.mem_cons_of_mem _ List.mem_cons_self) | exact List.mem_cons_of_mem _ (List.mem_cons_of_mem _ (List.mem_cons_of_mem _ List.mem_cons_self))) ?_))
          have hcall := Check_calls A0 c0 l0 a HFA.out vb w_ (Kd.C_below HR0.out HA.out.below) HC0.out HVA.out
          rw [HEa.out] at hcall
          refine hcall.mono ?_
          clear hcall
          rintro e w_ ⟨rfl, hb⟩
          replace HA := Aside0.mk (HA.out.step hb)
          clear hb
          go_wp2_with (first | ((with_reducible refine gate_dst (N := 4) rfl ?_); refine fr_box rfl rfl (f := a) rfl HFA.out HA.out ?_; intro ga w_ hA; (try simp only [List.cons_append, List.nil_append] at hA); replace HA := Aside0.mk hA; clear hA) | ((with_reducible refine gate_dst (N := 5) rfl ?_); refine fr_box rfl rfl (f := b) rfl HFB.out HA.out ?_; intro gb w_ hA; (try simp only [List.cons_append, List.nil_append] at hA); replace HA := Aside0.mk hA; clear hA) | (refine fr_load rfl rfl rfl HA.out (by first | exact List.mem_cons_self | exact List.mem_cons_of_mem _ List.mem_cons_self | exact List.mem_cons_of_mem _ (List.mem_cons_of_mem _ List.mem_cons_self) | exact List.mem_cons_of_mem _ (List.mem_cons_of_mem _ (List.mem_cons_of_mem _ List.mem_cons_self))) ?_) | (refine fr_load0 rfl rfl rfl HA.out (by first | exact List.mem_cons_self | exact List.mem_cons_of_mem _ List.mem_cons_self | exact List.mem_cons_of_mem _ (List.mem_cons_of_mem _ List.mem_cons_self) | exact List.mem_cons_of_mem _ (List.mem_cons_of_mem _ (List.mem_cons_of_mem _ List.mem_cons_self))) ?_) | (refine fr_load1 rfl rfl rfl HA.out (by first | exact List.mem_cons_self | exact List.mem_cons_of_mem _ List.mem_cons_self | exact List.mem_cons_of_mem _ (List.mem_cons_of_mem _ List.mem_cons_self) | exact List.mem_cons_of_mem _ (List.mem_cons_of_mem _ (List.mem_cons_of_mem _ List.mem_cons_self))) ?_))
          have hcall := Check_calls A0 c0 l0 b HFB.out vb w_ (Kd.C_below HR0.out HA.out.below) HC0.out HVB.out
          rw [HEb.out] at hcall
          refine hcall.mono ?_
          clear hcall
          rintro e w_ ⟨rfl, hb⟩
          replace HA := Aside0.mk (HA.out.step hb)
          clear hb
          have hc1 := HA.out.at1.c0
          have hc2 := HA.out.at1.c1
          have hc3 := HA.out.at0.c0
          have hc4 := HA.out.at0.c1
          go_wp2
          go_ret
          exact ⟨by rw [HAL.out]; simp [Z3.out, Z4.out], HA.out.below⟩
        · have z4b : (a.hgt != b.hgt) = true := by rw [bne_iff_ne]; exact z4
          have Z4 := Aside0.mk z4
          clear z4
          go_enter Try.func49, Try.ntmps49
          go_wp2_with (first | ((with_reducible refine gate_dst (N := 4) rfl ?_); refine fr_box rfl rfl (f := a) rfl HFA.out HA.out ?_; intro ga w_ hA; (try simp only [List.cons_append, List.nil_append] at hA); replace HA := Aside0.mk hA; clear hA) | ((with_reducible refine gate_dst (N := 5) rfl ?_); refine fr_box rfl rfl (f := b) rfl HFB.out HA.out ?_; intro gb w_ hA; (try simp only [List.cons_append, List.nil_append] at hA); replace HA := Aside0.mk hA; clear hA) | (refine fr_load rfl rfl rfl HA.out (by first | exact List.mem_cons_self | exact List.mem_cons_of_mem _ List.mem_cons_self | exact List.mem_cons_of_mem _ (List.mem_cons_of_mem _ List.mem_cons_self) | exact List.mem_cons_of_mem _ (List.mem_cons_of_mem _ (List.mem_cons_of_mem _ List.mem_cons_self))) ?_) | (refine fr_load0 rfl rfl rfl HA.out (by first | exact List.mem_cons_self | exact List.mem_cons_of_mem _ List.mem_cons_self | exact List.mem_cons_of_mem _ (List.mem_cons_of_mem _ List.mem_cons_self) | exact List.mem_cons_of_mem _ (List.mem_cons_of_mem _ (List.mem_cons_of_mem _ List.mem_cons_self))) ?_) | (refine fr_load1 rfl rfl rfl HA.out (by first | exact List.mem_cons_self | exact List.mem_cons_of_mem _ List.mem_cons_self | exact List.mem_cons_of_mem _ (List.mem_cons_of_mem _ List.mem_cons_self) | exact List.mem_cons_of_mem _ (List.mem_cons_of_mem _ (List.mem_cons_of_mem _ List.mem_cons_self))) ?_))
          have hcall := Check_calls A0 c0 l0 a HFA.out vb w_ (Kd.C_below HR0.out HA.out.below) HC0.out HVA.out
          rw [HEa.out] at hcall
          refine hcall.mono ?_
          clear hcall
          rintro e w_ ⟨rfl, hb⟩
          replace HA := Aside0.mk (HA.out.step hb)
          clear hb
          go_wp2_with (first | ((with_reducible refine gate_dst (N := 4) rfl ?_); refine fr_box rfl rfl (f := a) rfl HFA.out HA.out ?_; intro ga w_ hA; (try simp only [List.cons_append, List.nil_append] at hA); replace HA := Aside0.mk hA; clear hA) | ((with_reducible refine gate_dst (N := 5) rfl ?_); refine fr_box rfl rfl (f := b) rfl HFB.out HA.out ?_; intro gb w_ hA; (try simp only [List.cons_append, List.nil_append] at hA); replace HA := Aside0.mk hA; clear hA) | (refine fr_load rfl rfl rfl HA.out (by first | exact List.mem_cons_self | exact List.mem_cons_of_mem _ List.mem_cons_self | exact List.mem_cons_of_mem _ (List.mem_cons_of_mem _ List.mem_cons_self) | exact List.mem_cons_of_mem _ (List.mem_cons_of_mem _ (List.mem_cons_of_mem _ List.mem_cons_self))) ?_) | (refine fr_load0 rfl rfl rfl HA.out (by first | exact List.mem_cons_self | exact List.mem_cons_of_mem _ List.mem_cons_self | exact List.mem_cons_of_mem _ (List.mem_cons_of_mem _ List.mem_cons_self) | exact List.mem_cons_of_mem _ (List.mem_cons_of_mem _ (List.mem_cons_of_mem _ List.mem_cons_self))) ?_) | (refine fr_load1 rfl rfl rfl HA.out (by first | exact List.mem_cons_self | exact List.mem_cons_of_mem _ List.mem_cons_self | exact List.mem_cons_of_mem _ (List.mem_cons_of_mem _ List.mem_cons_self) | exact List.mem_cons_of_mem _ (List.mem_cons_of_mem _ (List.mem_cons_of_mem _ List.mem_cons_self))) ?_))
          have hcall := Check_calls A0 c0 l0 b HFB.out vb w_ (Kd.C_below HR0.out HA.out.below) HC0.out HVB.out
          rw [HEb.out] at hcall
          refine hcall.mono ?_
          clear hcall
          rintro e w_ ⟨rfl, hb⟩
          replace HA := Aside0.mk (HA.out.step hb)
          clear hb
          have hc1 := HA.out.at1.c0
          have hc2 := HA.out.at1.c1
          have hc3 := HA.out.at0.c0
          have hc4 := HA.out.at0.c1
          go_wp2
          go_ret
          exact ⟨by rw [HAL.out]; simp [Z4.out], HA.out.below⟩
      · have z3b : (a.loc != b.loc) = true := by rw [bne_iff_ne]; exact z3
        have Z3 := Aside0.mk z3
        clear z3
        go_enter Try.func49, Try.ntmps49
        go_wp2_with (first | ((with_reducible refine gate_dst (N := 4) rfl ?_); refine fr_box rfl rfl (f := a) rfl HFA.out HA.out ?_; intro ga w_ hA; (try simp only [List.cons_append, List.nil_append] at hA); replace HA := Aside0.mk hA; clear hA) | ((with_reducible refine gate_dst (N := 5) rfl ?_); refine fr_box rfl rfl (f := b) rfl HFB.out HA.out ?_; intro gb w_ hA; (try simp only [List.cons_append, List.nil_append] at hA); replace HA := Aside0.mk hA; clear hA) | (refine fr_load rfl rfl rfl HA.out (by first | exact List.mem_cons_self | exact List.mem_cons_of_mem _ List.mem_cons_self | exact List.mem_cons_of_mem _ (List.mem_cons_of_mem _ List.mem_cons_self) | exact List.mem_cons_of_mem _ (List.mem_cons_of_mem _ (List.mem_cons_of_mem _ List.mem_cons_self))) ?_) | (refine fr_load0 rfl rfl rfl HA.out (by first | exact List.mem_cons_self | exact List.mem_cons_of_mem _ List.mem_cons_self | exact List.mem_cons_of_mem _ (List.mem_cons_of_mem _ List.mem_cons_self) | exact List.mem_cons_of_mem _ (List.mem_cons_of_mem _ (List.mem_cons_of_mem _ List.mem_cons_self))) ?_) | (refine fr_load1 rfl rfl rfl HA.out (by first | exact List.mem_cons_self | exact List.mem_cons_of_mem _ List.mem_cons_self | exact List.mem_cons_of_mem _ (List.mem_cons_of_mem _ List.mem_cons_self) | exact List.mem_cons_of_mem _ (List.mem_cons_of_mem _ (List.mem_cons_of_mem _ List.mem_cons_self))) ?_))
        have hcall := Check_calls A0 c0 l0 a HFA.out vb w_ (Kd.C_below HR0.out HA.out.below) HC0.out HVA.out
        rw [HEa.out] at hcall
        refine hcall.mono ?_
        clear hcall
        rintro e w_ ⟨rfl, hb⟩
        replace HA := Aside0.mk (HA.out.step hb)
        clear hb
        go_wp2_with (first | ((with_reducible refine gate_dst (N := 4) rfl ?_); refine fr_box rfl rfl (f := a) rfl HFA.out HA.out ?_; intro ga w_ hA; (try simp only [List.cons_append, List.nil_append] at hA); replace HA := Aside0.mk hA; clear hA) | ((with_reducible refine gate_dst (N := 5) rfl ?_); refine fr_box rfl rfl (f := b) rfl HFB.out HA.out ?_; intro gb w_ hA; (try simp only [List.cons_append, List.nil_append] at hA); replace HA := Aside0.mk hA; clear hA) | (refine fr_load rfl rfl rfl HA.out (by first | exact List.mem_cons_self | exact List.mem_cons_of_mem _ List.mem_cons_self | exact List.mem_cons_of_mem _ (List.mem_cons_of_mem _ List.mem_cons_self) | exact List.mem_cons_of_mem _ (List.mem_cons_of_mem _ (List.mem_cons_of_mem _ List.mem_cons_self))) ?_) | (refine fr_load0 rfl rfl rfl HA.out (by first | exact List.mem_cons_self | exact List.mem_cons_of_mem _ List.mem_cons_self | exact List.mem_cons_of_mem _ (List.mem_cons_of_mem _ List.mem_cons_self) | exact List.mem_cons_of_mem _ (List.mem_cons_of_mem _ (List.mem_cons_of_mem _ List.mem_cons_self))) ?_) | (refine fr_load1 rfl rfl rfl HA.out (by first | exact List.mem_cons_self | exact List.mem_cons_of_mem _ List.mem_cons_self | exact List.mem_cons_of_mem _ (List.mem_cons_of_mem _ List.mem_cons_self) | exact List.mem_cons_of_mem _ (List.mem_cons_of_mem _ (List.mem_cons_of_mem _ List.mem_cons_self))) ?_))
        have hcall := Check_calls A0 c0 l0 b HFB.out vb w_ (Kd.C_below HR0.out HA.out.below) HC0.out HVB.out
        rw [HEb.out] at hcall
        refine hcall.mono ?_
        clear hcall
        rintro e w_ ⟨rfl, hb⟩
        replace HA := Aside0.mk (HA.out.step hb)
        clear hb
        have hc1 := HA.out.at1.c0
        have hc2 := HA.out.at1.c1
        have hc3 := HA.out.at0.c0
        have hc4 := HA.out.at0.c1
        go_wp2
        go_ret
        exact ⟨by rw [HAL.out]; simp [Z3.out], HA.out.below⟩
    · have z2b : (eb == 0) = false := by rw [beq_eq_false_iff_ne]; exact z2
      have Z2 := Aside0.mk z2
      clear z2
      go_enter Try.func49, Try.ntmps49
      go_wp2_with (first | ((with_reducible refine gate_dst (N := 4) rfl ?_); refine fr_box rfl rfl (f := a) rfl HFA.out HA.out ?_; intro ga w_ hA; (try simp only [List.cons_append, List.nil_append] at hA); replace HA := Aside0.mk hA; clear hA) | ((with_reducible refine gate_dst (N := 5) rfl ?_); refine fr_box rfl rfl (f := b) rfl HFB.out HA.out ?_; intro gb w_ hA; (try simp only [List.cons_append, List.nil_append] at hA); replace HA := Aside0.mk hA; clear hA) | (refine fr_load rfl rfl rfl HA.out (by first | exact List.mem_cons_self | exact List.mem_cons_of_mem _ List.mem_cons_self | exact List.mem_cons_of_mem _ (List.mem_cons_of_mem _ List.mem_cons_self) | exact List.mem_cons_of_mem _ (List.mem_cons_of_mem _ (List.mem_cons_of_mem _ List.mem_cons_self))) ?_) | (refine fr_load0 rfl rfl rfl HA.out (by first | exact List.mem_cons_self | exact List.mem_cons_of_mem _ List.mem_cons_self | exact List.mem_cons_of_mem _ (List.mem_cons_of_mem _ List.mem_cons_self) | exact List.mem_cons_of_mem _ (List.mem_cons_of_mem _ (List.mem_cons_of_mem _ List.mem_cons_self))) ?_) | (refine fr_load1 rfl rfl rfl HA.out (by first | exact List.mem_cons_self | exact List.mem_cons_of_mem _ List.mem_cons_self | exact List.mem_cons_of_mem _ (List.mem_cons_of_mem _ List.mem_cons_self) | exact List.mem_cons_of_mem _ (List.mem_cons_of_mem _ (List.mem_cons_of_mem _ List.mem_cons_self))) ?_))
      have hcall := Check_calls A0 c0 l0 a HFA.out vb w_ (Kd.C_below HR0.out HA.out.below) HC0.out HVA.out
      rw [HEa.out] at hcall
      refine hcall.mono ?_
      clear hcall
      rintro e w_ ⟨rfl, hb⟩
      replace HA := Aside0.mk (HA.out.step hb)
      clear hb
      go_wp2_with (first | ((with_reducible refine gate_dst (N := 4) rfl ?_); refine fr_box rfl rfl (f := a) rfl HFA.out HA.out ?_; intro ga w_ hA; (try simp only [List.cons_append, List.nil_append] at hA); replace HA := Aside0.mk hA; clear hA) | ((with_reducible refine gate_dst (N := 5) rfl ?_); refine fr_box rfl rfl (f := b) rfl HFB.out HA.out ?_; intro gb w_ hA; (try simp only [List.cons_append, List.nil_append] at hA); replace HA := Aside0.mk hA; clear hA) | (refine fr_load rfl rfl rfl HA.out (by first | exact List.mem_cons_self | exact List.mem_cons_of_mem _ List.mem_cons_self | exact List.mem_cons_of_mem _ (List.mem_cons_of_mem _ List.mem_cons_self) | exact List.mem_cons_of_mem _ (List.mem_cons_of_mem _ (List.mem_cons_of_mem _ List.mem_cons_self))) ?_) | (refine fr_load0 rfl rfl rfl HA.out (by first | exact List.mem_cons_self | exact List.mem_cons_of_mem _ List.mem_cons_self | exact List.mem_cons_of_mem _ (List.mem_cons_of_mem _ List.mem_cons_self) | exact List.mem_cons_of_mem _ (List.mem_cons_of_mem _ (List.mem_cons_of_mem _ List.mem_cons_self))) ?_) | (refine fr_load1 rfl rfl rfl HA.out (by first | exact List.mem_cons_self | exact List.mem_cons_of_mem _ List.mem_cons_self | exact List.mem_cons_of_mem _ (List.mem_cons_of_mem _ List.mem_cons_self) | exact List.mem_cons_of_mem _ (List.mem_cons_of_mem _ (List.mem_cons_of_mem _ List.mem_cons_self))) ?_))
      have hcall := Check_calls A0 c0 l0 b HFB.out vb w_ (Kd.C_below HR0.out HA.out.below) HC0.out HVB.out
      rw [HEb.out] at hcall
      refine hcall.mono ?_
      clear hcall
      rintro e w_ ⟨rfl, hb⟩
      replace HA := Aside0.mk (HA.out.step hb)
      clear hb
      have hc1 := HA.out.at1.c0
      have hc2 := HA.out.at1.c1
      have hc3 := HA.out.at0.c0
      have hc4 := HA.out.at0.c1
      go_wp2
      go_ret
      exact ⟨by rw [HAL.out]; simp [Z2.out], HA.out.below⟩
  · have z1b : (ea == 0) = false := by rw [beq_eq_false_iff_ne]; exact z1
    have Z1 := Aside0.mk z1
    clear z1
    go_enter Try.func49, Try.ntmps49
    go_wp2_with (first | ((with_reducible refine gate_dst (N := 4) rfl ?_); refine fr_box rfl rfl (f := a) rfl HFA.out HA.out ?_; intro ga w_ hA; (try simp only [List.cons_append, List.nil_append] at hA); replace HA := Aside0.mk hA; clear hA) | ((with_reducible refine gate_dst (N := 5) rfl ?_); refine fr_box rfl rfl (f := b) rfl HFB.out HA.out ?_; intro gb w_ hA; (try simp only [List.cons_append, List.nil_append] at hA); replace HA := Aside0.mk hA; clear hA) | (refine fr_load rfl rfl rfl HA.out (by first | exact List.mem_cons_self | exact List.mem_cons_of_mem _ List.mem_cons_self | exact List.mem_cons_of_mem _ (List.mem_cons_of_mem _ List.mem_cons_self) | exact List.mem_cons_of_mem _ (List.mem_cons_of_mem _ (List.mem_cons_of_mem _ List.mem_cons_self))) ?_) | (refine fr_load0 rfl rfl rfl HA.out (by first | exact List.mem_cons_self | exact List.mem_cons_of_mem _ List.mem_cons_self | exact List.mem_cons_of_mem _ (List.mem_cons_of_mem _ List.mem_cons_self) | exact List.mem_cons_of_mem _ (List.mem_cons_of_mem _ (List.mem_cons_of_mem _ List.mem_cons_self))) ?_) | (refine fr_load1 rfl rfl rfl HA.out (by first | exact List.mem_cons_self | exact List.mem_cons_of_mem _ List.mem_cons_self | exact List.mem_cons_of_mem _ (List.mem_cons_of_mem _ List.mem_cons_self) | exact List.mem_cons_of_mem _ (List.mem_cons_of_mem _ (List.mem_cons_of_mem _ List.mem_cons_self))) ?_))
    have hcall := Check_calls A0 c0 l0 a HFA.out vb w_ (Kd.C_below HR0.out HA.out.below) HC0.out HVA.out
    rw [HEa.out] at hcall
    refine hcall.mono ?_
    clear hcall
    rintro e w_ ⟨rfl, hb⟩
    replace HA := Aside0.mk (HA.out.step hb)
    clear hb
    go_wp2
    go_ret
    exact ⟨by rw [HAL.out]; simp [Z1.out], HA.out.below⟩

set_option maxHeartbeats 3200000 in
set_option maxRecDepth 100000 in
theorem frSub_calls (k : Nat) (A0 : Option Addr) (c0 : Nat) (l0 : List S59) (a b : Fr) (hfa : a.ok) (hfb : b.ok) (vb : Int → Bool) (sb : Int → Int → Bool) (w : World) (hr0 : Kd.C k59 w A0 l0.length l0) (hc0 : l0.length ≤ c0) (hva : ∀ t ∈ a.sl, types_Valid.f l0 t = some (vb t)) (hvb : ∀ t ∈ b.sl, types_Valid.f l0 t = some (vb t)) (hsb : ∀ i, i < 24 → types_Sub.f k l0 (a.sl.getD i 0) (b.sl.getD i 0) = some (sb (a.sl.getD i 0) (b.sl.getD i 0))) : Calls Try.prog 30 #[.slice A0 l0.length c0, .agg a.a, .agg b.a] w fun e w' => e = .returned (.bool (subS vb sb a b)) ∧ Below w.heap.size w w' := by
  have HFA := Aside0.mk hfa
  have HFB := Aside0.mk hfb
  have HR0 := Aside0.mk hr0
  have HC0 := Aside0.mk hc0
  have HVA := Aside0.mk hva
  have HVB := Aside0.mk hvb
  have HA := Aside0.mk (Frs.nil w)
  clear hfa hfb hr0 hc0 hva hvb
  have HSB := Aside0.mk hsb
  obtain ⟨al, hal⟩ : ∃ al, alikeS vb a b = al := ⟨_, rfl⟩
  have HAL := Aside0.mk hal
  clear hsb hal
  by_cases z1 : al = 0
  · subst z1
    go_enter Try.func30, Try.ntmps30
    go_wp2_with (first | ((with_reducible refine gate_dst (N := 4) rfl ?_); refine fr_box rfl rfl (f := a) rfl HFA.out HA.out ?_; intro ga w_ hA; (try simp only [List.cons_append, List.nil_append] at hA); replace HA := Aside0.mk hA; clear hA) | ((with_reducible refine gate_dst (N := 5) rfl ?_); refine fr_box rfl rfl (f := b) rfl HFB.out HA.out ?_; intro gb w_ hA; (try simp only [List.cons_append, List.nil_append] at hA); replace HA := Aside0.mk hA; clear hA) | (refine fr_load rfl rfl rfl HA.out (by first | exact List.mem_cons_self | exact List.mem_cons_of_mem _ List.mem_cons_self | exact List.mem_cons_of_mem _ (List.mem_cons_of_mem _ List.mem_cons_self) | exact List.mem_cons_of_mem _ (List.mem_cons_of_mem _ (List.mem_cons_of_mem _ List.mem_cons_self))) ?_) | (refine fr_load0 rfl rfl rfl HA.out (by first | exact List.mem_cons_self | exact List.mem_cons_of_mem _ List.mem_cons_self | exact List.mem_cons_of_mem _ (List.mem_cons_of_mem _ List.mem_cons_self) | exact List.mem_cons_of_mem _ (List.mem_cons_of_mem _ (List.mem_cons_of_mem _ List.mem_cons_self))) ?_) | (refine fr_load1 rfl rfl rfl HA.out (by first | exact List.mem_cons_self | exact List.mem_cons_of_mem _ List.mem_cons_self | exact List.mem_cons_of_mem _ (List.mem_cons_of_mem _ List.mem_cons_self) | exact List.mem_cons_of_mem _ (List.mem_cons_of_mem _ (List.mem_cons_of_mem _ List.mem_cons_self))) ?_))
    have hcall := alike_calls A0 c0 l0 a b HFA.out HFB.out vb w_ (Kd.C_below HR0.out HA.out.below) HC0.out HVA.out HVB.out
    rw [HAL.out] at hcall
    refine hcall.mono ?_
    clear hcall
    rintro e w_ ⟨rfl, hb⟩
    replace HA := Aside0.mk (HA.out.step hb)
    clear hb
    go_wp2
    go_loopw [13, 7] (fun v13 v7 wr => ∃ i : Nat, v13 = .int .i64 (i : Int) ∧ i ≤ 24 ∧ Aside0 ((List.range i).all (fun i => sb (a.sl.getD i 0) (b.sl.getD i 0)) = true) ∧ Aside0 (Frs w [(gb, b), (ga, a)] wr)) (fun v13 _ _ => (24 - intOf v13).toNat)
    case atStart => exact ⟨0, rfl, Nat.zero_le _, ⟨rfl⟩, HA⟩
    case round =>
      obtain ⟨i, rfl, hi, HP, HA⟩ := hrel
      by_cases c1 : i < 24
      · have c1b : decide ((i : Int) < 24) = true := decide_eq_true (by omega)
        have p1 : (0 ≤ (i : Int)) = True := eq_true (by omega)
        have p2 : ((i : Int) < 24) = True := eq_true (by omega)
        have HI : Aside0 (i < 24) := ⟨c1⟩
        have hq := HSB.out i c1
        have hca := fun (W : World) (h : Frs w [(gb, b), (ga, a)] W) => (h.at1).cs i (by have := HFA.out; unfold Fr.ok at this; omega)
        have hcb := fun (W : World) (h : Frs w [(gb, b), (ga, a)] W) => (h.at0).cs i (by have := HFB.out; unfold Fr.ok at this; omega)
        have ea : a.sl[i]'(by have := HFA.out; unfold Fr.ok at this; omega) = a.sl.getD i 0 := by rw [List.getD_eq_getElem?_getD, List.getElem?_eq_getElem (by have := HFA.out; unfold Fr.ok at this; omega)]; rfl
        have eb : b.sl[i]'(by have := HFB.out; unfold Fr.ok at this; omega) = b.sl.getD i 0 := by rw [List.getD_eq_getElem?_getD, List.getElem?_eq_getElem (by have := HFB.out; unfold Fr.ok at this; omega)]; rfl
        rw [ea] at hca
        rw [eb] at hcb
        obtain ⟨ta, hta⟩ : ∃ ta, a.sl.getD i 0 = ta := ⟨_, rfl⟩
        obtain ⟨tb, htb⟩ : ∃ tb, b.sl.getD i 0 = tb := ⟨_, rfl⟩
        rw [hta, htb] at hq
        rw [hta] at hca
        rw [htb] at hcb
        have HQ := Aside0.mk hq
        have HTA := Aside0.mk hta
        have HTB := Aside0.mk htb
        have HCA := Aside0.mk hca
        have HCB := Aside0.mk hcb
        clear hq hca hcb ea eb hta htb
        go_upto_region 6 with (fail)
        have hA := HA.out
        go_region_held3 (fun w' => w'.cell? ⟨ga, 2 + i, none⟩ = some (.int .u8 ta) ∧ w'.cell? ⟨gb, 2 + i, none⟩ = some (.int .u8 tb) ∧ Frs w [(gb, b), (ga, a)] w')
          (first | (exact ⟨HCA.out _ hW, HCB.out _ hW, hW⟩) | (exact ⟨HCA.out _ (hA.drewN 1), HCB.out _ (hA.drewN 1), hA.drewN 1⟩))
          (first | (go_at_call 50; (refine (types_Sub.calls k A0 c0 l0 ta tb (sb ta tb) _ (Kd.C_below HR0.out (hA.drewN 1).below) HC0.out HQ.out).mono ?_); rintro e w9 ⟨rfl, hb⟩; have hW : Frs w [(gb, b), (ga, a)] w9 := Frs.step (hA.drewN 1) hb))
        have HA := Aside0.mk hW
        clear hW hA
        by_cases hb2 : sb ta tb = true
        · have HT2 : Aside0 ((List.range (i + 1)).all (fun i => sb (a.sl.getD i 0) (b.sl.getD i 0)) = true) := ⟨by rw [all_succ, HP.out, HTA.out, HTB.out, hb2]; rfl⟩
          rw [hb2]
          clear hb2
          go_wp2
          exact ⟨⟨i + 1, rfl, by omega, HT2, HA⟩, by simp [intOf]; omega⟩
        · have hb2 := Bool.eq_false_iff.mpr hb2
          have HB9 := Aside0.mk hb2
          rw [hb2]
          clear hb2
          go_wp2
          go_ret
          refine ⟨?_, HA.out.below⟩
          have : subS vb sb a b = false := by
            unfold subS
            rw [HAL.out, Bool.and_eq_false_iff]
            refine .inr (Bool.eq_false_iff.mpr (fun h => ?_))
            have h2 := List.all_eq_true.1 h i (List.mem_range.2 HI.out)
            simp only [HTA.out, HTB.out, HB9.out] at h2
            cases h2
          rw [this]
          rfl
      · have c1b : decide ((i : Int) < 24) = false := decide_eq_false (by omega)
        obtain rfl : i = 24 := by omega
        go_wp2
        go_ret
        refine ⟨?_, HA.out.below⟩
        have : subS vb sb a b = true := by
          unfold subS
          rw [HAL.out, HP.out]
          rfl
        rw [this]
        rfl
  · have z1b : (al != 0) = true := by rw [bne_iff_ne]; exact z1
    have Z1 := Aside0.mk z1
    clear z1
    go_enter Try.func30, Try.ntmps30
    go_wp2_with (first | ((with_reducible refine gate_dst (N := 4) rfl ?_); refine fr_box rfl rfl (f := a) rfl HFA.out HA.out ?_; intro ga w_ hA; (try simp only [List.cons_append, List.nil_append] at hA); replace HA := Aside0.mk hA; clear hA) | ((with_reducible refine gate_dst (N := 5) rfl ?_); refine fr_box rfl rfl (f := b) rfl HFB.out HA.out ?_; intro gb w_ hA; (try simp only [List.cons_append, List.nil_append] at hA); replace HA := Aside0.mk hA; clear hA) | (refine fr_load rfl rfl rfl HA.out (by first | exact List.mem_cons_self | exact List.mem_cons_of_mem _ List.mem_cons_self | exact List.mem_cons_of_mem _ (List.mem_cons_of_mem _ List.mem_cons_self) | exact List.mem_cons_of_mem _ (List.mem_cons_of_mem _ (List.mem_cons_of_mem _ List.mem_cons_self))) ?_) | (refine fr_load0 rfl rfl rfl HA.out (by first | exact List.mem_cons_self | exact List.mem_cons_of_mem _ List.mem_cons_self | exact List.mem_cons_of_mem _ (List.mem_cons_of_mem _ List.mem_cons_self) | exact List.mem_cons_of_mem _ (List.mem_cons_of_mem _ (List.mem_cons_of_mem _ List.mem_cons_self))) ?_) | (refine fr_load1 rfl rfl rfl HA.out (by first | exact List.mem_cons_self | exact List.mem_cons_of_mem _ List.mem_cons_self | exact List.mem_cons_of_mem _ (List.mem_cons_of_mem _ List.mem_cons_self) | exact List.mem_cons_of_mem _ (List.mem_cons_of_mem _ (List.mem_cons_of_mem _ List.mem_cons_self))) ?_))
    have hcall := alike_calls A0 c0 l0 a b HFA.out HFB.out vb w_ (Kd.C_below HR0.out HA.out.below) HC0.out HVA.out HVB.out
    rw [HAL.out] at hcall
    refine hcall.mono ?_
    clear hcall
    rintro e w_ ⟨rfl, hb⟩
    replace HA := Aside0.mk (HA.out.step hb)
    clear hb
    go_wp2
    go_ret
    refine ⟨?_, HA.out.below⟩
    unfold subS
    rw [HAL.out, decide_eq_false Z1.out]
    rfl

section
variable {ops : Array Oper} {rest : List Oper} {o : Oper} {a : Act} {Q : Exit → Act → World → Prop}
theorem fr_loadt (hgd : o.guard = none) {x : Operand} (ho : o.op = .load 24 x) {g i : Nat} (hx : a.eval x = .pointer (some ⟨g, 2 + i, none⟩)) {w0 W : World} {l : List (Nat × Fr)} (hl : Frs w0 l W) {f : Fr} (hm : (g, f) ∈ l) (hi : i < 24) {t : Int} (ht : f.sl.getD i 0 = t)
    (h : wpList Try.prog ops Q rest (a.put o.dst (.int .u8 t)) W) : wpList Try.prog ops Q (o :: rest) a W := by
  subst ht
  exact fr_loads hgd ho hx hl hm hi h
end
theorem bare_zero {L H : Nat} {sl : List Int} (hl : sl.length = 24) (hn : L + H ≤ 24) : frEq (Fr.bare L H sl) ⟨(L : Int), (H : Int), sl⟩ = true ↔ ∀ j, L + H ≤ j → j < 24 → sl.getD j 0 = 0 := by
  rw [frEq_iff]
  unfold Fr.bare
  have hlen : (sl.take (L + H)).length = L + H := by rw [List.length_take]; omega
  constructor
  · intro h j h1 h2
    injection h with _ _ h3
    have := congrArg (fun l => l.getD j 0) h3
    simp only [List.getD_eq_getElem?_getD] at this
    rw [List.getElem?_append_right (by omega), hlen, List.getElem?_replicate, if_pos (by omega)] at this
    rw [List.getD_eq_getElem?_getD, ← this]
    rfl
  · intro h
    congr 1
    apply List.ext_getElem?
    intro j
    by_cases hj : j < L + H
    · rw [List.getElem?_append_left (by omega), List.getElem?_take_of_lt hj]
    · rw [List.getElem?_append_right (by omega), hlen, List.getElem?_replicate]
      by_cases hj2 : j < 24
      · have h0 := h j (by omega) hj2
        rw [if_pos (by omega), List.getElem?_eq_getElem (by omega)]
        rw [List.getD_eq_getElem?_getD, List.getElem?_eq_getElem (by omega)] at h0
        exact congrArg some h0.symm
      · rw [if_neg (by omega), List.getElem?_eq_none (by omega)]
theorem all_tail {vb : Int → Bool} (h0 : vb 0 = true) {sl : List Int} (hl : sl.length = 24) (n : Nat) (hz : ∀ j, n ≤ j → j < 24 → sl.getD j 0 = 0) (ha : (sl.take n).all vb = true) : sl.all vb = true := by
  rw [List.all_eq_true] at ha ⊢
  intro x hx
  obtain ⟨j, hj, rfl⟩ := List.mem_iff_getElem.1 hx
  by_cases h : j < n
  · exact ha _ (List.mem_take_iff_getElem.2 ⟨j, by omega, rfl⟩)
  · have := hz j (by omega) (by omega)
    rw [List.getD_eq_getElem?_getD, List.getElem?_eq_getElem hj] at this
    rw [show sl[j] = 0 from this]
    exact h0
set_option maxHeartbeats 3200000 in
set_option maxRecDepth 100000 in
theorem refCheck_calls (A0 : Option Addr) (c0 : Nat) (l0 : List S59) (f : Fr) (hf : f.ok) (vb : Int → Bool) (w : World) (hr0 : Kd.C k59 w A0 l0.length l0) (hc0 : l0.length ≤ c0) (h0 : vb 0 = true) (hv : ∀ t ∈ f.sl, provisoref02_Valid.f l0 t = some (vb t)) : Calls Try.prog 31 #[.slice A0 l0.length c0, .agg f.a] w fun e w' => e = .returned (.int .i64 (checkS vb f)) ∧ Below w.heap.size w w' := by
  have HF := Aside0.mk hf
  have HR0 := Aside0.mk hr0
  have HC0 := Aside0.mk hc0
  have HV := Aside0.mk hv
  have HV0 := Aside0.mk h0
  have HA := Aside0.mk (Frs.nil w)
  clear hr0 hc0 hv h0
  by_cases hs : f.shp = true
  · obtain ⟨L, H, sl, rfl, hL, hLH⟩ := Fr.shp_nat hs
    have HS := Aside0.mk hs
    have HLH := Aside0.mk hLH
    have HLEN : Aside0 (sl.length = 24) := ⟨hf⟩
    obtain ⟨n, hnn⟩ : ∃ n, n = L + H := ⟨_, rfl⟩
    have hs1 : (L : Int) + (H : Int) = (n : Int) := by omega
    have hw1 : wrap64 (n : Int) = (n : Int) := by unfold wrap64; omega
    have HN := Aside0.mk hnn
    have HLE : Aside0 (n ≤ 24) := ⟨by omega⟩
    clear hf hs hnn
    go_enter Try.func31, Try.ntmps31
    go_wp2_with (first | (refine fr_guard rfl (by rfl) ?_; dsimp only) | (refine fr_load rfl rfl rfl HA.out (by first | exact List.mem_cons_self | exact List.mem_cons_of_mem _ List.mem_cons_self | exact List.mem_cons_of_mem _ (List.mem_cons_of_mem _ List.mem_cons_self) | exact List.mem_cons_of_mem _ (List.mem_cons_of_mem _ (List.mem_cons_of_mem _ List.mem_cons_self))) ?_) | (refine fr_load0 rfl rfl rfl HA.out (by first | exact List.mem_cons_self | exact List.mem_cons_of_mem _ List.mem_cons_self | exact List.mem_cons_of_mem _ (List.mem_cons_of_mem _ List.mem_cons_self) | exact List.mem_cons_of_mem _ (List.mem_cons_of_mem _ (List.mem_cons_of_mem _ List.mem_cons_self))) ?_) | (refine fr_load1 rfl rfl rfl HA.out (by first | exact List.mem_cons_self | exact List.mem_cons_of_mem _ List.mem_cons_self | exact List.mem_cons_of_mem _ (List.mem_cons_of_mem _ List.mem_cons_self) | exact List.mem_cons_of_mem _ (List.mem_cons_of_mem _ (List.mem_cons_of_mem _ List.mem_cons_self))) ?_) | (refine fr_store rfl rfl rfl rfl (by first | exact HF.out | exact Fr.zero_ok) [] HA.out ?_; intro w_ hA; (try simp only [List.cons_append, List.nil_append] at hA); replace HA := Aside0.mk hA; clear hA) | (refine fr_store rfl rfl rfl rfl (by first | exact HF.out | exact Fr.zero_ok) [_] HA.out ?_; intro w_ hA; (try simp only [List.cons_append, List.nil_append] at hA); replace HA := Aside0.mk hA; clear hA) | (refine fr_store rfl rfl rfl rfl (by first | exact HF.out | exact Fr.zero_ok) [_, _] HA.out ?_; intro w_ hA; (try simp only [List.cons_append, List.nil_append] at hA); replace HA := Aside0.mk hA; clear hA) | (refine fr_store rfl rfl rfl rfl (by first | exact HF.out | exact Fr.zero_ok) [_, _, _] HA.out ?_; intro w_ hA; (try simp only [List.cons_append, List.nil_append] at hA); replace HA := Aside0.mk hA; clear hA) | (refine fr_box rfl rfl rfl (by first | exact HF.out | exact Fr.zero_ok) HA.out ?_; intro gp w_ hA; (try simp only [List.cons_append, List.nil_append] at hA); replace HA := Aside0.mk hA; clear hA) | (refine fr_alloc rfl rfl HA.out ?_; intro gr w_ hA; (try simp only [List.cons_append, List.nil_append] at hA); replace HA := Aside0.mk hA; clear hA) | (refine fr_build0 rfl rfl ?_) | (refine fr_build1 rfl rfl rfl ?_) | (refine fr_build2 rfl rfl rfl rfl ?_) | (refine fr_slot rfl rfl rfl rfl [] HA.out HQ.out ?_; intro w_ hA; (try simp only [List.cons_append, List.nil_append] at hA); replace HA := Aside0.mk hA; clear hA) | (refine fr_slot rfl rfl rfl rfl [_] HA.out HQ.out ?_; intro w_ hA; (try simp only [List.cons_append, List.nil_append] at hA); replace HA := Aside0.mk hA; clear hA) | (refine fr_slot rfl rfl rfl rfl [_, _] HA.out HQ.out ?_; intro w_ hA; (try simp only [List.cons_append, List.nil_append] at hA); replace HA := Aside0.mk hA; clear hA) | (refine fr_high rfl rfl rfl rfl [] HA.out ?_; intro w_ hA; (try simp only [List.cons_append, List.nil_append] at hA); replace HA := Aside0.mk hA; clear hA) | (refine fr_high rfl rfl rfl rfl [_] HA.out ?_; intro w_ hA; (try simp only [List.cons_append, List.nil_append] at hA); replace HA := Aside0.mk hA; clear hA) | (refine fr_high rfl rfl rfl rfl [_, _] HA.out ?_; intro w_ hA; (try simp only [List.cons_append, List.nil_append] at hA); replace HA := Aside0.mk hA; clear hA) | (refine fr_loads rfl rfl rfl HA.out (by first | exact List.mem_cons_self | exact List.mem_cons_of_mem _ List.mem_cons_self | exact List.mem_cons_of_mem _ (List.mem_cons_of_mem _ List.mem_cons_self) | exact List.mem_cons_of_mem _ (List.mem_cons_of_mem _ (List.mem_cons_of_mem _ List.mem_cons_self))) HQ.out ?_))
    refine (Shape_true HS.out HF.out _).mono ?_
    rintro e w_ ⟨rfl, hb⟩
    replace HA := Aside0.mk (HA.out.step hb)
    clear hb
    go_wp2_with (first | (refine fr_guard rfl (by rfl) ?_; dsimp only) | (refine fr_load rfl rfl rfl HA.out (by first | exact List.mem_cons_self | exact List.mem_cons_of_mem _ List.mem_cons_self | exact List.mem_cons_of_mem _ (List.mem_cons_of_mem _ List.mem_cons_self) | exact List.mem_cons_of_mem _ (List.mem_cons_of_mem _ (List.mem_cons_of_mem _ List.mem_cons_self))) ?_) | (refine fr_load0 rfl rfl rfl HA.out (by first | exact List.mem_cons_self | exact List.mem_cons_of_mem _ List.mem_cons_self | exact List.mem_cons_of_mem _ (List.mem_cons_of_mem _ List.mem_cons_self) | exact List.mem_cons_of_mem _ (List.mem_cons_of_mem _ (List.mem_cons_of_mem _ List.mem_cons_self))) ?_) | (refine fr_load1 rfl rfl rfl HA.out (by first | exact List.mem_cons_self | exact List.mem_cons_of_mem _ List.mem_cons_self | exact List.mem_cons_of_mem _ (List.mem_cons_of_mem _ List.mem_cons_self) | exact List.mem_cons_of_mem _ (List.mem_cons_of_mem _ (List.mem_cons_of_mem _ List.mem_cons_self))) ?_) | (refine fr_store rfl rfl rfl rfl (by first | exact HF.out | exact Fr.zero_ok) [] HA.out ?_; intro w_ hA; (try simp only [List.cons_append, List.nil_append] at hA); replace HA := Aside0.mk hA; clear hA) | (refine fr_store rfl rfl rfl rfl (by first | exact HF.out | exact Fr.zero_ok) [_] HA.out ?_; intro w_ hA; (try simp only [List.cons_append, List.nil_append] at hA); replace HA := Aside0.mk hA; clear hA) | (refine fr_store rfl rfl rfl rfl (by first | exact HF.out | exact Fr.zero_ok) [_, _] HA.out ?_; intro w_ hA; (try simp only [List.cons_append, List.nil_append] at hA); replace HA := Aside0.mk hA; clear hA) | (refine fr_store rfl rfl rfl rfl (by first | exact HF.out | exact Fr.zero_ok) [_, _, _] HA.out ?_; intro w_ hA; (try simp only [List.cons_append, List.nil_append] at hA); replace HA := Aside0.mk hA; clear hA) | (refine fr_box rfl rfl rfl (by first | exact HF.out | exact Fr.zero_ok) HA.out ?_; intro gp w_ hA; (try simp only [List.cons_append, List.nil_append] at hA); replace HA := Aside0.mk hA; clear hA) | (refine fr_alloc rfl rfl HA.out ?_; intro gr w_ hA; (try simp only [List.cons_append, List.nil_append] at hA); replace HA := Aside0.mk hA; clear hA) | (refine fr_build0 rfl rfl ?_) | (refine fr_build1 rfl rfl rfl ?_) | (refine fr_build2 rfl rfl rfl rfl ?_) | (refine fr_slot rfl rfl rfl rfl [] HA.out HQ.out ?_; intro w_ hA; (try simp only [List.cons_append, List.nil_append] at hA); replace HA := Aside0.mk hA; clear hA) | (refine fr_slot rfl rfl rfl rfl [_] HA.out HQ.out ?_; intro w_ hA; (try simp only [List.cons_append, List.nil_append] at hA); replace HA := Aside0.mk hA; clear hA) | (refine fr_slot rfl rfl rfl rfl [_, _] HA.out HQ.out ?_; intro w_ hA; (try simp only [List.cons_append, List.nil_append] at hA); replace HA := Aside0.mk hA; clear hA) | (refine fr_high rfl rfl rfl rfl [] HA.out ?_; intro w_ hA; (try simp only [List.cons_append, List.nil_append] at hA); replace HA := Aside0.mk hA; clear hA) | (refine fr_high rfl rfl rfl rfl [_] HA.out ?_; intro w_ hA; (try simp only [List.cons_append, List.nil_append] at hA); replace HA := Aside0.mk hA; clear hA) | (refine fr_high rfl rfl rfl rfl [_, _] HA.out ?_; intro w_ hA; (try simp only [List.cons_append, List.nil_append] at hA); replace HA := Aside0.mk hA; clear hA) | (refine fr_loads rfl rfl rfl HA.out (by first | exact List.mem_cons_self | exact List.mem_cons_of_mem _ List.mem_cons_self | exact List.mem_cons_of_mem _ (List.mem_cons_of_mem _ List.mem_cons_self) | exact List.mem_cons_of_mem _ (List.mem_cons_of_mem _ (List.mem_cons_of_mem _ List.mem_cons_self))) HQ.out ?_))
    go_loopw [5] (fun v5 wr => ∃ i : Nat, v5 = .int .i64 (i : Int) ∧ n ≤ i ∧ i ≤ 24 ∧ Aside0 (∀ j, n ≤ j → j < i → sl.getD j 0 = 0) ∧ Aside0 (Frs w [(gp, (⟨(L : Int), (H : Int), sl⟩ : Fr))] wr)) (fun v5 _ => (24 - intOf v5).toNat)
    case atStart => exact ⟨n, rfl, Nat.le_refl _, HLE.out, ⟨fun j h1 h2 => by omega⟩, HA⟩
    case round =>
      obtain ⟨i, rfl, h1, h2, HZ, HA⟩ := hrel
      by_cases c1 : i < 24
      · have c1b : decide ((i : Int) < 24) = true := decide_eq_true (by omega)
        have p1 : (0 ≤ (i : Int)) = True := eq_true (by omega)
        have p2 : ((i : Int) < 24) = True := eq_true (by omega)
        have HI : Aside0 (i < 24) := ⟨c1⟩
        obtain ⟨t, htt⟩ : ∃ t, sl.getD i 0 = t := ⟨_, rfl⟩
        have HTT := Aside0.mk htt
        clear htt
        by_cases t0 : t = 0
        · have HT0 := Aside0.mk t0
          have t0b : (t != 0) = false := by rw [t0]; rfl
          clear t0
          go_wp2_with (first | (refine fr_load0 rfl rfl rfl HA.out List.mem_cons_self ?_) | (refine fr_load1 rfl rfl rfl HA.out List.mem_cons_self ?_) | (refine fr_loadt rfl rfl (i := i) rfl HA.out List.mem_cons_self HI.out HTT.out ?_))
          exact ⟨⟨i + 1, rfl, by omega, by omega, ⟨fun j h3 h4 => by
            by_cases e : j = i
            · rw [e, HTT.out, HT0.out]
            · exact HZ.out j h3 (by omega)⟩, HA⟩, by simp [intOf]; omega⟩
        · have HT0 := Aside0.mk t0
          have t0b : (t != 0) = true := by rw [bne_iff_ne]; exact t0
          clear t0
          go_wp2_with (first | (refine fr_load0 rfl rfl rfl HA.out List.mem_cons_self ?_) | (refine fr_load1 rfl rfl rfl HA.out List.mem_cons_self ?_) | (refine fr_loadt rfl rfl (i := i) rfl HA.out List.mem_cons_self HI.out HTT.out ?_))
          go_ret
          refine ⟨?_, HA.out.below⟩
          unfold checkS
          rw [if_pos HS.out, if_neg (fun h => by
            rw [bareF_nat] at h
            have := (bare_zero HLEN.out HLH.out).1 h i (by have := HN.out; omega) HI.out
            exact HT0.out (HTT.out ▸ this))]
          rfl
      · have c1b : decide ((i : Int) < 24) = false := decide_eq_false (by omega)
        have HZ2 : Aside0 (∀ j, n ≤ j → j < 24 → sl.getD j 0 = 0) := ⟨fun j h3 h4 => HZ.out j h3 (by omega)⟩
        have HQ1 : Aside0 (frEq (bareF (⟨(L : Int), (H : Int), sl⟩ : Fr)) (⟨(L : Int), (H : Int), sl⟩ : Fr) = true) := ⟨by
          rw [bareF_nat]
          exact (bare_zero HLEN.out HLH.out).2 (fun j h3 h4 => HZ2.out j (by have := HN.out; omega) h4)⟩
        clear HZ
        go_wp2_with (first | (refine fr_load0 rfl rfl rfl HA.out List.mem_cons_self ?_) | (refine fr_load1 rfl rfl rfl HA.out List.mem_cons_self ?_))
        go_loopw [6] (fun v6 wr => ∃ i : Nat, v6 = .int .i64 (i : Int) ∧ i ≤ n ∧ Aside0 ((sl.take i).all vb = true) ∧ Aside0 (Frs w [(gp, (⟨(L : Int), (H : Int), sl⟩ : Fr))] wr)) (fun v6 _ => ((n : Int) - intOf v6).toNat)
        case atStart => exact ⟨0, rfl, Nat.zero_le _, ⟨rfl⟩, HA⟩
        case round =>
          obtain ⟨i, rfl, hi, HP, HA⟩ := hrel
          by_cases c1 : i < n
          · have c1c : decide (i < n) = true := decide_eq_true c1
            have c1b : decide ((i : Int) < (n : Int)) = true := decide_eq_true (by omega)
            have p1 : (0 ≤ (i : Int)) = True := eq_true (by omega)
            have p2 : ((i : Int) < 24) = True := eq_true (by have := HLE.out; omega)
            have HI : Aside0 (i < 24) := ⟨by have := HLE.out; omega⟩
            have hil : i < sl.length := by have := HLEN.out; have := HLE.out; omega
            have hg : sl.getD i 0 = sl[i] := by rw [List.getD_eq_getElem?_getD, List.getElem?_eq_getElem hil]; rfl
            have hvv := HV.out sl[i] (List.getElem_mem hil)
            rw [← hg] at hvv
            have HVV := Aside0.mk hvv
            have HTK : Aside0 ((sl.take (i + 1)).all vb = ((sl.take i).all vb && vb (sl.getD i 0))) := ⟨by rw [List.take_succ_eq_append_getElem hil, List.all_append, hg]; simp⟩
            have HAL : Aside0 (sl.all vb = true → vb (sl.getD i 0) = true) := ⟨fun h => by rw [hg]; exact List.all_eq_true.1 h _ (List.getElem_mem hil)⟩
            obtain ⟨t, htt⟩ : ∃ t, sl.getD i 0 = t := ⟨_, rfl⟩
            rw [htt] at HVV HTK HAL
            have HTT := Aside0.mk htt
            clear hvv hg hil htt
            go_wp2_with (first | (refine fr_load0 rfl rfl rfl HA.out List.mem_cons_self ?_) | (refine fr_load1 rfl rfl rfl HA.out List.mem_cons_self ?_) | (refine fr_loadt rfl rfl (i := i) rfl HA.out List.mem_cons_self HI.out HTT.out ?_))
            refine (provisoref02_Valid.calls A0 c0 l0 t (vb t) _ (Kd.C_below HR0.out HA.out.below) HC0.out HVV.out).mono ?_
            rintro e w_ ⟨rfl, m, rfl⟩
            replace HA := Aside0.mk (HA.out.drewN m)
            generalize World.drewN _ m = w_ at HA ⊢
            by_cases hb : vb t = true
            · have HT2 : Aside0 ((sl.take (i + 1)).all vb = true) := ⟨by rw [HTK.out, HP.out, hb]; rfl⟩
              rw [hb]
              clear hb
              go_wp2
              exact ⟨⟨i + 1, rfl, by omega, HT2, HA⟩, by simp [intOf]; omega⟩
            · have hb := Bool.eq_false_iff.mpr hb
              have HB9 := Aside0.mk hb
              rw [hb]
              clear hb
              go_wp2
              go_ret
              refine ⟨?_, HA.out.below⟩
              unfold checkS
              rw [if_pos HS.out, if_pos HQ1.out, if_neg (fun h => by have := HAL.out h; rw [HB9.out] at this; cases this)]
              rfl
          · have c1c : decide (i < n) = false := decide_eq_false c1
            have c1b : decide ((i : Int) < (n : Int)) = false := decide_eq_false (by omega)
            have hall : sl.all vb = true := all_tail HV0.out HLEN.out n HZ2.out (by
              have h := HP.out
              rwa [show i = n by omega] at h)
            have HALL := Aside0.mk hall
            clear hall
            go_wp2_with (first | (refine fr_load0 rfl rfl rfl HA.out List.mem_cons_self ?_) | (refine fr_load1 rfl rfl rfl HA.out List.mem_cons_self ?_))
            go_ret
            refine ⟨?_, HA.out.below⟩
            unfold checkS
            rw [if_pos HS.out, if_pos HQ1.out, if_pos HALL.out]
            rfl
  · have hs := Bool.eq_false_iff.mpr hs
    have HS := Aside0.mk hs
    clear hf hs
    go_enter Try.func31, Try.ntmps31
    go_wp2_with (first | (refine fr_guard rfl (by rfl) ?_; dsimp only) | (refine fr_load rfl rfl rfl HA.out (by first | exact List.mem_cons_self | exact List.mem_cons_of_mem _ List.mem_cons_self | exact List.mem_cons_of_mem _ (List.mem_cons_of_mem _ List.mem_cons_self) | exact List.mem_cons_of_mem _ (List.mem_cons_of_mem _ (List.mem_cons_of_mem _ List.mem_cons_self))) ?_) | (refine fr_load0 rfl rfl rfl HA.out (by first | exact List.mem_cons_self | exact List.mem_cons_of_mem _ List.mem_cons_self | exact List.mem_cons_of_mem _ (List.mem_cons_of_mem _ List.mem_cons_self) | exact List.mem_cons_of_mem _ (List.mem_cons_of_mem _ (List.mem_cons_of_mem _ List.mem_cons_self))) ?_) | (refine fr_load1 rfl rfl rfl HA.out (by first | exact List.mem_cons_self | exact List.mem_cons_of_mem _ List.mem_cons_self | exact List.mem_cons_of_mem _ (List.mem_cons_of_mem _ List.mem_cons_self) | exact List.mem_cons_of_mem _ (List.mem_cons_of_mem _ (List.mem_cons_of_mem _ List.mem_cons_self))) ?_) | (refine fr_store rfl rfl rfl rfl (by first | exact HF.out | exact Fr.zero_ok) [] HA.out ?_; intro w_ hA; (try simp only [List.cons_append, List.nil_append] at hA); replace HA := Aside0.mk hA; clear hA) | (refine fr_store rfl rfl rfl rfl (by first | exact HF.out | exact Fr.zero_ok) [_] HA.out ?_; intro w_ hA; (try simp only [List.cons_append, List.nil_append] at hA); replace HA := Aside0.mk hA; clear hA) | (refine fr_store rfl rfl rfl rfl (by first | exact HF.out | exact Fr.zero_ok) [_, _] HA.out ?_; intro w_ hA; (try simp only [List.cons_append, List.nil_append] at hA); replace HA := Aside0.mk hA; clear hA) | (refine fr_store rfl rfl rfl rfl (by first | exact HF.out | exact Fr.zero_ok) [_, _, _] HA.out ?_; intro w_ hA; (try simp only [List.cons_append, List.nil_append] at hA); replace HA := Aside0.mk hA; clear hA) | (refine fr_box rfl rfl rfl (by first | exact HF.out | exact Fr.zero_ok) HA.out ?_; intro gp w_ hA; (try simp only [List.cons_append, List.nil_append] at hA); replace HA := Aside0.mk hA; clear hA) | (refine fr_alloc rfl rfl HA.out ?_; intro gr w_ hA; (try simp only [List.cons_append, List.nil_append] at hA); replace HA := Aside0.mk hA; clear hA) | (refine fr_build0 rfl rfl ?_) | (refine fr_build1 rfl rfl rfl ?_) | (refine fr_build2 rfl rfl rfl rfl ?_) | (refine fr_slot rfl rfl rfl rfl [] HA.out HQ.out ?_; intro w_ hA; (try simp only [List.cons_append, List.nil_append] at hA); replace HA := Aside0.mk hA; clear hA) | (refine fr_slot rfl rfl rfl rfl [_] HA.out HQ.out ?_; intro w_ hA; (try simp only [List.cons_append, List.nil_append] at hA); replace HA := Aside0.mk hA; clear hA) | (refine fr_slot rfl rfl rfl rfl [_, _] HA.out HQ.out ?_; intro w_ hA; (try simp only [List.cons_append, List.nil_append] at hA); replace HA := Aside0.mk hA; clear hA) | (refine fr_high rfl rfl rfl rfl [] HA.out ?_; intro w_ hA; (try simp only [List.cons_append, List.nil_append] at hA); replace HA := Aside0.mk hA; clear hA) | (refine fr_high rfl rfl rfl rfl [_] HA.out ?_; intro w_ hA; (try simp only [List.cons_append, List.nil_append] at hA); replace HA := Aside0.mk hA; clear hA) | (refine fr_high rfl rfl rfl rfl [_, _] HA.out ?_; intro w_ hA; (try simp only [List.cons_append, List.nil_append] at hA); replace HA := Aside0.mk hA; clear hA) | (refine fr_loads rfl rfl rfl HA.out (by first | exact List.mem_cons_self | exact List.mem_cons_of_mem _ List.mem_cons_self | exact List.mem_cons_of_mem _ (List.mem_cons_of_mem _ List.mem_cons_self) | exact List.mem_cons_of_mem _ (List.mem_cons_of_mem _ (List.mem_cons_of_mem _ List.mem_cons_self))) HQ.out ?_))
    refine (Shape_false HS.out HF.out _).mono ?_
    rintro e w_ ⟨rfl, hb⟩
    replace HA := Aside0.mk (HA.out.step hb)
    clear hb
    go_wp2
    go_ret
    refine ⟨?_, HA.out.below⟩
    unfold checkS
    rw [if_neg (by rw [HS.out]; decide)]
    rfl


end Go.Proofs.Ytgjnmpgmbhbbhaa.P

end

section
namespace Go.Proofs.Ytgjnmpgmbhbbhaa.P
open Go.RowKit Go.Proofs.YtgjnmpgmbhbbhaaW.PrintWords Go.Proofs.YtgjnmpgmbhbbhaaW.PrintLast Go.Proofs.YtgjnmpgmbhbbhaaW.PrintMore
attribute [local go_sem] max2_int min2_int max_two min_two max_three min_three max_four min_four   -- for this text's walks alone
set_option linter.unusedVariables false
set_option linter.unusedSimpArgs false

def classOf (l : List S59) (a : Int) : Int := if a < 16 then -1 else if (a - 16) % 256 ≥ (l.length : Int) then -1 else (a - 16) % 256
theorem class_is (l : List S59) (a : Int) : types_class.f l a = some (classOf l a) := by
  unfold types_class.f classOf
  split
  · rfl
  · split <;> rfl
def isRefB (a : Int) : Bool := decide (a = 3) || decide (a = 4) || decide (a = 5) || decide (a ≥ 16)
theorem isRef_is (a : Int) : types_IsRef.f a = some (isRefB a) := by
  unfold types_IsRef.f isRefB
  by_cases h3 : a = 3 <;> by_cases h4 : a = 4 <;> by_cases h5 : a = 5 <;> simp [h3, h4, h5]
structure MergeHeld (W0 : World) (Bo : Nat) (A0 : Option Addr) (c0 : Nat) (l : List S59) (W : World) : Prop where
  reads : Kd.C k59 W A0 l.length l
  below : Below W0.heap.size W0 W
  lies : W.heap[W0.heap.size]? = some (.cells #[.slice A0 l.length c0] 22 (0, 0))
  out : W.heap[Bo]? = some (.cells #[.int .u8 5] 24 (0, 0))
theorem MergeHeld.drew {W0 : World} {Bo : Nat} {A0 : Option Addr} {c0 : Nat} {l : List S59} {W : World} (h : MergeHeld W0 Bo A0 c0 l W) : MergeHeld W0 Bo A0 c0 l W.drew := ⟨Kd.C_drew h.reads, below_drew1 h.below, blk_drew h.lies, blk_drew h.out⟩
theorem MergeHeld.drewN {W0 : World} {Bo : Nat} {A0 : Option Addr} {c0 : Nat} {l : List S59} {W : World} (h : MergeHeld W0 Bo A0 c0 l W) (m : Nat) : MergeHeld W0 Bo A0 c0 l (W.drewN m) := ⟨Kd.C_drewN h.reads m, pw_below_drewN h.below m, blk_drewN h.lies m, blk_drewN h.out m⟩
theorem MergeHeld.alloc {W0 : World} {Bo : Nat} {A0 : Option Addr} {c0 : Nat} {l : List S59} {W : World} (h : MergeHeld W0 Bo A0 c0 l W) (o : Obj) : MergeHeld W0 Bo A0 c0 l (W.alloc o) := ⟨Kd.C_alloc h.reads o, below_alloc h.below o, blk_alloc h.lies o, blk_alloc h.out o⟩
def types_deep.f (l0 : List S59) (a1 : Int) : Option Int := some ((climbL l0 a1).length : Int)
set_option maxHeartbeats 800000 in
theorem types_deep_step (B : Nat) (n x : Int) (W : World) (hI : W.heap[B]? = some (.cells #[.int .i64 n] 3 (0, 0))) (h0 : 0 ≤ n) (h1 : n < 9223372036854775807) :
    Calls Try.prog 81 #[.int .i64 x, .pointer (some ⟨B, 0, none⟩)] W fun e W' => e = .returned (.bool true) ∧ W' = W.setCell ⟨B, 0, none⟩ (.int .i64 (n + 1)) := by
  have hc := blk_cell hI 0
  have hf := blk_frozen hI 0
  go_enter Try.func81, Try.ntmps81
  go_wp2
  go_ret
  exact ⟨rfl, rfl⟩
structure DeepInv (W0 : World) (r : Int) (xs : List Int) (W : World) : Prop where
  now : ∃ n : Int, W.heap[W0.heap.size]? = some (.cells #[.int .i64 n] 3 (0, 0)) ∧ 0 ≤ n ∧ n + xs.length = r
  below : Below W0.heap.size W0 W
structure DeepFin (W0 : World) (r : Int) (W : World) : Prop where
  now : W.heap[W0.heap.size]? = some (.cells #[.int .i64 r] 3 (0, 0))
  below : Below W0.heap.size W0 W
set_option maxHeartbeats 800000 in
set_option maxRecDepth 100000 in
theorem types_deep.calls (A0 : Option Addr) (c0 : Nat) (l0 : List S59) (a1 : Int) (r : Int) (w : World) (hr0 : Kd.C k59 w A0 l0.length l0) (hc0 : l0.length ≤ c0) (h : types_deep.f l0 a1 = some r) :
    Calls Try.prog 66 #[.slice A0 l0.length c0, .int .i64 a1] w fun e w' => e = .returned (.int .i64 r) ∧ Below w.heap.size w w' := by
  obtain rfl := Option.some.inj h
  have hmf : ∀ (fn : Fn) (first cap : Array Value) (w : World), (Instr.makeFunc fn first cap).run Try.prog w = .ok (.func fn first cap) w := fun _ _ _ _ => rfl
  have HR := Aside0.mk hr0
  have hlen : l0.length ≤ 9223372036854775807 := hr0.2.1
  have hcl := climbL_length l0 a1
  obtain ⟨m, hm⟩ : ∃ m : Nat, m = (climbL l0 a1).length := ⟨_, rfl⟩
  have HM := Aside0.mk hm
  have hml : m ≤ 9223372036854775807 := by omega
  clear hr0 h hm hlen hcl
  rw [← HM.out]
  go_enter Try.func66, Try.ntmps66
  go_wp2_with fail
  refine (climb_any 81 _ A0 c0 l0 w HR.out (DeepInv w m) (DeepFin w m) (fun _ _ h => h.below) ?_ ?_ (callFunc_run Try.func81 (by kernel_rfl) (by kernel_rfl)) a1 _ ?_).mono ?_
  · rintro W ⟨⟨n, h1, h2, h3⟩, h4⟩
    exact ⟨by rw [← h3]; simpa using h1, h4⟩
  · rintro x xs W ⟨⟨n, h1, h2, h3⟩, h4⟩
    simp only [List.length_cons] at h3
    refine (types_deep_step _ n x W h1 h2 (by omega)).mono ?_
    rintro e W' ⟨rfl, rfl⟩
    left
    exact ⟨rfl, ⟨n + 1, blk_set h1 0 _, by omega, by omega⟩, h4.setCell (Nat.le_refl _) _⟩
  · exact ⟨⟨0, blk_new _ _, by omega, by rw [HM.out]; omega⟩, (Below.refl _ _).alloc (Nat.le_refl _) _⟩
  · rintro e w1 ⟨rfl, h1, h2⟩
    have hc := blk_cell h1 0
    clear h1
    go_wp2
    go_ret
    exact ⟨rfl, h2⟩


mutual
def types_Rank.j0 : Nat → List (S59) → Int → Bool → Option (Int)
  | 0, _, _, _ => none
  | k + 1, x0, x1, x7 => if x7 = true then (some 0) else (if x1 = 4 then (some 2) else (if x1 = 3 then (types_Rank.l0 k x0 2 (x0.length : Int) 0) else (if x1 ≥ 16 then ((types_class.f x0 x1).bind fun t167 => ((types_deep.f x0 t167).bind fun t168 => (some (wrap64 (1 + t168))))) else (some 1))))
def types_Rank.l0 : Nat → List (S59) → Int → Int → Int → Option (Int)
  | 0, _, _, _, _ => none
  | k + 1, x0, x5, x23, x24 => if x24 < x23 then ((types_deep.f x0 x24).bind fun t166 => (types_Rank.l0 k x0 (mx x5 (wrap64 (1 + t166))) x23 (wrap64 (x24 + 1)))) else (some (wrap64 (x5 + 1)))
end
def types_Rank.f (k : Nat) (l0 : List (S59)) (a1 : Int) : Option (Int) := (types_Valid.f l0 a1).bind fun t165 => (if t165 = true then (types_Rank.j0 k l0 a1 (a1 == 0)) else (types_Rank.j0 k l0 a1 true))
set_option maxHeartbeats 8000000 in
set_option maxRecDepth 100000 in
theorem types_Rank.calls (k : Nat) (A0 : Option Addr) (c0 : Nat) (l0 : List (S59)) (a1 : Int) (r : Int) (w : World) (hr0 : Kd.C k59 w A0 l0.length l0) (hc0 : l0.length ≤ c0) (h : types_Rank.f k l0 a1 = some r) :
    Calls Try.prog 53 #[.slice A0 l0.length c0, .int .u8 a1] w fun e w' => e = .returned (.int .i64 r) ∧ Below w.heap.size w w' := by
  have HR0 := Aside0.mk hr0
  have HC0 := Aside0.mk hc0
  clear hr0 hc0
  have HB := Aside0.mk (Below.refl w.heap.size w)
  have H : ((types_Valid.f l0 a1).bind fun t165 => (if t165 = true then (types_Rank.j0 k l0 a1 (a1 == 0)) else (types_Rank.j0 k l0 a1 true))) = some r := h
  clear h
  have HC3 := Aside0.mk H
  clear H
  go_enter Try.func53, Try.ntmps53
  go_upto_region 1 with (fail)
  go_cut [7] (fun v7 wc => ∃ (kq : Nat) (x7_2 : Bool), v7 = .bool x7_2 ∧ Aside0 (types_Rank.j0 kq l0 a1 x7_2 = some r) ∧ Aside0 (kq ≤ k) ∧ Aside0 (Below w.heap.size w wc))
  case first =>
    have H := HC3.out
    clear HC3
    replace H := Option.bind_eq_some_iff.mp H
    obtain ⟨t165, A40, H⟩ := H
    replace H : (if t165 = true then (types_Rank.j0 k l0 a1 (a1 == 0)) else (types_Rank.j0 k l0 a1 true)) = some r := H
    have A4 := Aside0.mk A40
    clear A40
    by_cases c5 : t165 = true
    · subst c5
      have H1 : (types_Rank.j0 k l0 a1 (a1 == 0)) = some r := by rw [if_pos rfl] at H; exact H
      clear H
      have H := H1
      clear H1
      have H' := Aside0.mk H
      clear H
      go_wp2_with (first | ((with_reducible refine gate_callee (f := 42) rfl ?_); refine goesL_ (some 10) rfl rfl Try.func42 (by kernel_rfl) rfl #[.slice A0 l0.length c0, .int .u8 a1] rfl (by (try simp only [List.map_toArray, List.map_cons, List.map_nil]); first | done | rfl | (simp only [List.length_drop, List.length_take]; rfl)) ?_; (with_reducible refine (types_Valid.calls _ _ l0 a1 true _ ?side1 ?side2 A4.out).mono ?_); (case side1 => repeat (first | exact (Kd.C_below HR0.out HB.out) | (with_reducible refine Kd.C_alloc ?_ _) | (with_reducible refine Kd.C_drewN ?_ _) | (with_reducible refine Kd.C_drew ?_))); (case side2 => exact HC0.out); rintro e w' ⟨rfl, ⟨nd, rfl⟩⟩; refine ⟨_, rfl, ?_⟩))
      go_meet
      case rel => exact ⟨_, ((a1 == 0)), (by first | rfl | (simp; done) | (simp [*]; done)), H', ⟨by first | omega | exact Nat.le_refl _⟩, ⟨by repeat (first | (with_reducible first | exact HB.out | apply below_alloc | apply pw_below_drewN | apply below_drew1) | exact HB.out)⟩⟩
    · replace c5 := Bool.eq_false_iff.mpr c5
      subst c5
      have H1 : (types_Rank.j0 k l0 a1 true) = some r := by rw [if_neg (show ¬ (false = true) by decide)] at H; exact H
      clear H
      have H := H1
      clear H1
      have H' := Aside0.mk H
      clear H
      go_wp2_with (first | ((with_reducible refine gate_callee (f := 42) rfl ?_); refine goesL_ (some 10) rfl rfl Try.func42 (by kernel_rfl) rfl #[.slice A0 l0.length c0, .int .u8 a1] rfl (by (try simp only [List.map_toArray, List.map_cons, List.map_nil]); first | done | rfl | (simp only [List.length_drop, List.length_take]; rfl)) ?_; (with_reducible refine (types_Valid.calls _ _ l0 a1 false _ ?side1 ?side2 A4.out).mono ?_); (case side1 => repeat (first | exact (Kd.C_below HR0.out HB.out) | (with_reducible refine Kd.C_alloc ?_ _) | (with_reducible refine Kd.C_drewN ?_ _) | (with_reducible refine Kd.C_drew ?_))); (case side2 => exact HC0.out); rintro e w' ⟨rfl, ⟨nd, rfl⟩⟩; refine ⟨_, rfl, ?_⟩))
      go_meet
      case rel => exact ⟨_, (true), (by first | rfl | (simp; done) | (simp [*]; done)), H', ⟨by first | omega | exact Nat.le_refl _⟩, ⟨by repeat (first | (with_reducible first | exact HB.out | apply below_alloc | apply pw_below_drewN | apply below_drew1) | exact HB.out)⟩⟩
  case rest =>
    clear HC3
    try clear p2
    try clear c4
    try clear c5
    obtain ⟨kq, x7_2, rfl, HA, HJ2, HB⟩ := hcut
    cases kq with
    | zero => exact absurd HA.out (by simp [types_Rank.j0])
    | succ kj2 =>
      have H := HA.out
      clear HA
      simp only [types_Rank.j0] at H
      by_cases c6 : x7_2 = true
      · subst c6
        have H1 : (some 0) = some r := by rw [if_pos rfl] at H; exact H
        clear H
        have H := H1
        clear H1
        obtain rfl := Option.some.inj H
        go_wp2
        go_ret
        exact ⟨by first | rfl | (simp [errW_none, errW_some] <;> rfl) | (simp [*, errW_none, errW_some] <;> rfl), by repeat (first | (with_reducible first | exact HB.out | apply below_alloc | apply pw_below_drewN | apply below_drew1) | exact HB.out)⟩
      · replace c6 := Bool.eq_false_iff.mpr c6
        subst c6
        have H1 : (if a1 = 4 then (some 2) else (if a1 = 3 then (types_Rank.l0 kj2 l0 2 (l0.length : Int) 0) else (if a1 ≥ 16 then ((types_class.f l0 a1).bind fun t167 => ((types_deep.f l0 t167).bind fun t168 => (some (wrap64 (1 + t168))))) else (some 1)))) = some r := by rw [if_neg (show ¬ (false = true) by decide)] at H; exact H
        clear H
        have H := H1
        clear H1
        by_cases c7 : a1 = 4
        · rw [if_pos c7] at H
          have c7b0 : (a1 == 4) = true := beq_iff_eq.mpr c7
          have c7b1 : (a1 != 4) = false := bne_eq_false_iff_eq.mpr c7
          clear c7
          obtain rfl := Option.some.inj H
          go_wp2
          go_ret
          exact ⟨by first | rfl | (simp [errW_none, errW_some] <;> rfl) | (simp [*, errW_none, errW_some] <;> rfl), by repeat (first | (with_reducible first | exact HB.out | apply below_alloc | apply pw_below_drewN | apply below_drew1) | exact HB.out)⟩
        · rw [if_neg c7] at H
          have c7b0 : (a1 == 4) = false := beq_eq_false_iff_ne.mpr c7
          have c7b1 : (a1 != 4) = true := bne_iff_ne.mpr c7
          by_cases c8 : a1 = 3
          · rw [if_pos c8] at H
            have c8b0 : (a1 == 3) = true := beq_iff_eq.mpr c8
            have c8b1 : (a1 != 3) = false := bne_eq_false_iff_eq.mpr c8
            clear c8
            have H' := Aside0.mk H
            clear H
            go_wp2
            go_loopg [5, 24] kj2 (fun kq v5 v24 w' => ∃ (x5_2 : Int) (x24_2 : Int), v5 = .int .i64 x5_2 ∧ v24 = .int .i64 x24_2 ∧ Aside0 (types_Rank.l0 kq l0 x5_2 (l0.length : Int) x24_2 = some r) ∧ Aside0 (kq ≤ kj2) ∧ Aside0 (Below w.heap.size w w'))
            case atStart => exact ⟨(2), (0), (by first | rfl | (simp; done) | (simp [*]; done)), (by first | rfl | (simp; done) | (simp [*]; done)), H', ⟨Nat.le_refl _⟩, ⟨by repeat (first | (with_reducible first | exact HB.out | apply below_alloc | apply pw_below_drewN | apply below_drew1) | exact HB.out)⟩⟩
            case round =>
              clear H'
              try clear p2
              try clear c4
              try clear c5
              try clear c6
              try clear p6
              try clear c7
              try clear c7b0
              try clear c7b1
              try clear c8
              try clear c8b0
              try clear c8b1
              try clear p2
              obtain ⟨x5_2, x24_2, rfl, rfl, HA, HK2, HB⟩ := hrel
              cases gk with
              | zero => exact absurd HA.out (by simp [types_Rank.l0])
              | succ k2 =>
                have H := HA.out
                clear HA
                simp only [types_Rank.l0] at H
                by_cases c9 : x24_2 < (l0.length : Int)
                · rw [if_pos c9] at H
                  have c9b0 : decide (x24_2 < (l0.length : Int)) = true := decide_eq_true c9
                  clear c9
                  replace H := Option.bind_eq_some_iff.mp H
                  obtain ⟨t166, A100, H⟩ := H
                  replace H : (types_Rank.l0 k2 l0 (mx x5_2 (wrap64 (1 + t166))) (l0.length : Int) (wrap64 (x24_2 + 1))) = some r := H
                  have A10 := Aside0.mk A100
                  clear A100
                  obtain ⟨ji11, hji11⟩ : ∃ j_ : Int, (mx x5_2 (wrap64 (1 + t166))) = j_ := ⟨_, rfl⟩
                  replace H : (types_Rank.l0 k2 l0 ji11 (l0.length : Int) (wrap64 (x24_2 + 1))) = some r := by first | (rw [hji11] at H; exact H) | (simp only [hji11] at H ⊢; exact H)
                  (try rw [hji11] at A10)
                  have hji11_ : (if x5_2 < (wrap64 (1 + t166)) then (wrap64 (1 + t166)) else x5_2) = ji11 := hji11
                  have H' := Aside0.mk H
                  clear H
                  go_wp2_with (first | ((with_reducible refine gate_callee (f := 66) rfl ?_); refine goesL_ (some 30) rfl rfl Try.func66 (by kernel_rfl) rfl #[.slice A0 l0.length c0, .int .i64 x24_2] rfl (by (try simp only [List.map_toArray, List.map_cons, List.map_nil]); first | done | rfl | (simp only [List.length_drop, List.length_take]; rfl)) ?_; (with_reducible refine (types_deep.calls _ _ l0 x24_2 t166 _ ?side1 ?side2 A10.out).mono ?_); (case side1 => repeat (first | exact (Kd.C_below HR0.out HB.out) | (with_reducible refine Kd.C_alloc ?_ _) | (with_reducible refine Kd.C_drewN ?_ _) | (with_reducible refine Kd.C_drew ?_))); (case side2 => exact HC0.out); rintro e w12 ⟨rfl, hb⟩; refine ⟨_, rfl, ?_⟩; have n0_ := Aside0.mk (below_step (by repeat (first | (with_reducible first | exact HB.out | apply below_alloc | apply pw_below_drewN | apply below_drew1) | exact HB.out)) hb); clear HB; have HB := n0_; clear n0_; (try clear hb); (try clear hb2); (try clear hk); (try clear hi)))
                  go_roundg k2
                  case measure => have := HJ2.out; have := HK2.out; omega
                  case rel => exact ⟨(ji11), (wrap64 (x24_2 + 1)), (by first | rfl | (simp; done) | (simp only [← hji11] <;> (first | rfl | simp)) | (simp [*]; done)), (by first | rfl | (simp; done) | (simp [*]; done)), H', ⟨by have := HJ2.out; have := HK2.out; omega⟩, ⟨by repeat (first | (with_reducible first | exact HB.out | apply below_alloc | apply pw_below_drewN | apply below_drew1) | exact HB.out)⟩⟩
                · rw [if_neg c9] at H
                  have c9b0 : decide (x24_2 < (l0.length : Int)) = false := decide_eq_false c9
                  clear c9
                  obtain rfl := Option.some.inj H
                  go_wp2
                  go_ret
                  exact ⟨by first | rfl | (simp [errW_none, errW_some] <;> rfl) | (simp [*, errW_none, errW_some] <;> rfl), by repeat (first | (with_reducible first | exact HB.out | apply below_alloc | apply pw_below_drewN | apply below_drew1) | exact HB.out)⟩
          · rw [if_neg c8] at H
            have c8b0 : (a1 == 3) = false := beq_eq_false_iff_ne.mpr c8
            have c8b1 : (a1 != 3) = true := bne_iff_ne.mpr c8
            by_cases c13 : a1 ≥ 16
            · rw [if_pos c13] at H
              have c13b0 : decide (16 ≤ a1) = true := decide_eq_true c13
              clear c13
              replace H := Option.bind_eq_some_iff.mp H
              obtain ⟨t167, A140, H⟩ := H
              replace H : ((types_deep.f l0 t167).bind fun t168 => (some (wrap64 (1 + t168)))) = some r := H
              have A14 := Aside0.mk A140
              clear A140
              replace H := Option.bind_eq_some_iff.mp H
              obtain ⟨t168, A150, H⟩ := H
              replace H : (some (wrap64 (1 + t168))) = some r := H
              have A15 := Aside0.mk A150
              clear A150
              obtain rfl := Option.some.inj H
              go_wp2_with (first | ((with_reducible refine gate_callee (f := 61) rfl ?_); refine goesL_ (some 42) rfl rfl Try.func61 (by kernel_rfl) rfl #[.slice A0 l0.length c0, .int .u8 a1] rfl (by (try simp only [List.map_toArray, List.map_cons, List.map_nil]); first | done | rfl | (simp only [List.length_drop, List.length_take]; rfl)) ?_; (with_reducible refine (types_class.calls _ _ l0 a1 t167 _ ?side1 ?side2 A14.out).mono ?_); (case side1 => repeat (first | exact (Kd.C_below HR0.out HB.out) | (with_reducible refine Kd.C_alloc ?_ _) | (with_reducible refine Kd.C_drewN ?_ _) | (with_reducible refine Kd.C_drew ?_))); (case side2 => exact HC0.out); rintro e w' ⟨rfl, ⟨nd, rfl⟩⟩; refine ⟨_, rfl, ?_⟩) | ((with_reducible refine gate_callee (f := 66) rfl ?_); refine goesL_ (some 43) rfl rfl Try.func66 (by kernel_rfl) rfl #[.slice A0 l0.length c0, .int .i64 t167] rfl (by (try simp only [List.map_toArray, List.map_cons, List.map_nil]); first | done | rfl | (simp only [List.length_drop, List.length_take]; rfl)) ?_; (with_reducible refine (types_deep.calls _ _ l0 t167 t168 _ ?side1 ?side2 A15.out).mono ?_); (case side1 => repeat (first | exact (Kd.C_below HR0.out (by repeat (first | (with_reducible first | exact HB.out | apply below_alloc | apply pw_below_drewN | apply below_drew1) | exact HB.out))) | (with_reducible refine Kd.C_alloc ?_ _) | (with_reducible refine Kd.C_drewN ?_ _) | (with_reducible refine Kd.C_drew ?_))); (case side2 => exact HC0.out); rintro e w16 ⟨rfl, hb⟩; refine ⟨_, rfl, ?_⟩; have n0_ := Aside0.mk (below_step (by repeat (first | (with_reducible first | exact HB.out | apply below_alloc | apply pw_below_drewN | apply below_drew1) | exact HB.out)) hb); clear HB; have HB := n0_; clear n0_; (try clear hb); (try clear hb2); (try clear hk); (try clear hi)))
              go_ret
              exact ⟨by first | rfl | (simp [errW_none, errW_some] <;> rfl) | (simp [*, errW_none, errW_some] <;> rfl), by repeat (first | (with_reducible first | exact HB.out | apply below_alloc | apply pw_below_drewN | apply below_drew1) | exact HB.out)⟩
            · rw [if_neg c13] at H
              have c13b0 : decide (16 ≤ a1) = false := decide_eq_false c13
              clear c13
              obtain rfl := Option.some.inj H
              go_wp2
              go_ret
              exact ⟨by first | rfl | (simp [errW_none, errW_some] <;> rfl) | (simp [*, errW_none, errW_some] <;> rfl), by repeat (first | (with_reducible first | exact HB.out | apply below_alloc | apply pw_below_drewN | apply below_drew1) | exact HB.out)⟩

def sumS (rb : Int → Int) (l : List Int) : Int := l.foldl (fun n t => n + rb t) 0
def rankS (vb : Int → Bool) (rb : Int → Int) (f : Fr) : Int × Int := if checkS vb f = 0 then (sumS rb f.sl, 0) else (0, checkS vb f)
theorem sumS_snoc (rb : Int → Int) (l : List Int) (t : Int) : sumS rb (l ++ [t]) = sumS rb l + rb t := by
  unfold sumS
  rw [List.foldl_append]
  rfl
theorem sumS_from {rb : Int → Int} {b : Int} : ∀ (l : List Int) (n : Int), (∀ t ∈ l, 0 ≤ rb t ∧ rb t ≤ b) → n ≤ l.foldl (fun n t => n + rb t) n ∧ l.foldl (fun n t => n + rb t) n ≤ n + b * l.length
  | [], n, _ => by simp
  | t :: l, n, h => by
    have h1 := sumS_from l (n + rb t) (fun x hx => h x (List.mem_cons_of_mem _ hx))
    have h2 := h t List.mem_cons_self
    have : b * ((l.length + 1 : Nat) : Int) = b * (l.length : Int) + b := by rw [Int.natCast_add, Int.mul_add]; simp
    simp only [List.foldl_cons, List.length_cons]
    omega
theorem sumS_bound {rb : Int → Int} {b : Int} (l : List Int) (h : ∀ t ∈ l, 0 ≤ rb t ∧ rb t ≤ b) : 0 ≤ sumS rb l ∧ sumS rb l ≤ b * l.length := by
  have := sumS_from l 0 h
  unfold sumS
  omega
set_option maxHeartbeats 3200000 in
set_option maxRecDepth 100000 in
theorem Rank_calls (k : Nat) (A0 : Option Addr) (c0 : Nat) (l0 : List S59) (f : Fr) (hf : f.ok) (vb : Int → Bool) (rb : Int → Int) (w : World) (hr0 : Kd.C k59 w A0 l0.length l0) (hc0 : l0.length ≤ c0) (hv : ∀ t ∈ f.sl, types_Valid.f l0 t = some (vb t)) (hrk : ∀ t ∈ f.sl, types_Rank.f k l0 t = some (rb t) ∧ 0 ≤ rb t ∧ rb t ≤ 1000) : Calls Try.prog 33 #[.slice A0 l0.length c0, .agg f.a] w fun e w' => e = .returned (.tuple #[.int .i64 (rankS vb rb f).1, .int .i64 (rankS vb rb f).2]) ∧ Below w.heap.size w w' := by
  have HF := Aside0.mk hf
  have HR0 := Aside0.mk hr0
  have HC0 := Aside0.mk hc0
  have HV := Aside0.mk hv
  have HRK := Aside0.mk hrk
  have HA := Aside0.mk (Frs.nil w)
  obtain ⟨ea, hea⟩ : ∃ ea, checkS vb f = ea := ⟨_, rfl⟩
  have HEA := Aside0.mk hea
  clear hf hr0 hc0 hv hrk hea
  by_cases z1 : ea = 0
  · subst z1
    go_enter Try.func33, Try.ntmps33
    go_wp2_with (first | ((with_reducible refine gate_dst (N := 3) rfl ?_); refine fr_box rfl rfl (f := f) rfl HF.out HA.out ?_; intro gp w_ hA; (try simp only [List.cons_append, List.nil_append] at hA); replace HA := Aside0.mk hA; clear hA) | (refine fr_load rfl rfl rfl HA.out List.mem_cons_self ?_))
    have hcall := Check_calls A0 c0 l0 f HF.out vb w_ (Kd.C_below HR0.out HA.out.below) HC0.out HV.out
    rw [HEA.out] at hcall
    refine hcall.mono ?_
    clear hcall
    rintro e w_ ⟨rfl, hb⟩
    replace HA := Aside0.mk (HA.out.step hb)
    clear hb
    go_wp2_with (first | (refine fr_larr rfl rfl rfl HA.out List.mem_cons_self ?_))
    go_loopw [18, 7, 9] (fun v18 v7 v9 wr => ∃ i : Nat, v18 = .int .i64 (i : Int) ∧ i ≤ 24 ∧ v7 = .int .i64 (sumS rb (f.sl.take i)) ∧ Aside0 (Frs w [(gp, f)] wr)) (fun v18 _ _ _ => (24 - intOf v18).toNat)
    case atStart => exact ⟨0, rfl, Nat.zero_le _, rfl, HA⟩
    case round =>
      obtain ⟨i, rfl, hi, rfl, HA⟩ := hrel
      by_cases c1 : i < 24
      · have c1b : decide ((i : Int) < 24) = true := decide_eq_true (by omega)
        have HI : Aside0 (i < 24) := ⟨c1⟩
        have hil : i < f.sl.length := by have := HF.out; unfold Fr.ok at this; omega
        have hg : f.sl.getD i 0 = f.sl[i] := by rw [List.getD_eq_getElem?_getD, List.getElem?_eq_getElem hil]; rfl
        have hrr := HRK.out f.sl[i] (List.getElem_mem hil)
        rw [← hg] at hrr
        have hts : sumS rb (f.sl.take (i + 1)) = sumS rb (f.sl.take i) + rb (f.sl.getD i 0) := by rw [List.take_succ_eq_append_getElem hil, sumS_snoc, hg]
        have hbd := sumS_bound (rb := rb) (b := 1000) (f.sl.take i) (fun t ht => (HRK.out t (List.mem_of_mem_take ht)).2)
        have hlt : (f.sl.take i).length = i := by rw [List.length_take]; omega
        rw [hlt] at hbd
        obtain ⟨t, htt⟩ : ∃ t, f.sl.getD i 0 = t := ⟨_, rfl⟩
        rw [htt] at hrr hts
        have HTT := Aside0.mk htt
        have HRR := Aside0.mk hrr.1
        obtain ⟨s, hs⟩ : ∃ s, sumS rb (f.sl.take i) = s := ⟨_, rfl⟩
        obtain ⟨q, hq⟩ : ∃ q, rb t = q := ⟨_, rfl⟩
        rw [hs, hq] at hts
        rw [hs] at hbd
        have hw : wrap64 (s + q) = s + q := by have := hrr.2; rw [hq] at this; unfold wrap64; omega
        rw [hs]
        rw [hq] at HRR
        have HTS := Aside0.mk hts
        have HW := Aside0.mk hw
        clear hrr hts hbd hlt hg hil htt hs hq
        go_wp2_with (first | ((with_reducible refine gate_dst (N := 20) rfl ?_); refine fr_idx rfl rfl (sl := f.sl) rfl (i := i) rfl HF.out HI.out HTT.out ?_))
        refine (types_Rank.calls k A0 c0 l0 t q _ (Kd.C_below HR0.out HA.out.below) HC0.out HRR.out).mono ?_
        rintro e w_ ⟨rfl, hb⟩
        replace HA := Aside0.mk (HA.out.step hb)
        clear hb
        go_wp2
        exact ⟨⟨i + 1, rfl, by omega, by rw [HTS.out]; first | rfl | rw [HW.out], HA⟩, by simp [intOf]; omega⟩
      · have c1b : decide ((i : Int) < 24) = false := decide_eq_false (by omega)
        obtain rfl : i = 24 := by omega
        have hte : f.sl.take 24 = f.sl := List.take_of_length_le (by have := HF.out; unfold Fr.ok at this; omega)
        rw [hte]
        obtain ⟨s, hs⟩ : ∃ s, sumS rb f.sl = s := ⟨_, rfl⟩
        have HS := Aside0.mk hs
        rw [hs]
        clear hte hs
        go_wp2
        go_ret2
        exact ⟨by unfold rankS; rw [HEA.out, if_pos rfl, HS.out]; rfl, HA.out.below⟩
  · have z1b : (ea != 0) = true := by rw [bne_iff_ne]; exact z1
    have Z1 := Aside0.mk z1
    clear z1
    go_enter Try.func33, Try.ntmps33
    go_wp2_with (first | ((with_reducible refine gate_dst (N := 3) rfl ?_); refine fr_box rfl rfl (f := f) rfl HF.out HA.out ?_; intro gp w_ hA; (try simp only [List.cons_append, List.nil_append] at hA); replace HA := Aside0.mk hA; clear hA) | (refine fr_load rfl rfl rfl HA.out List.mem_cons_self ?_))
    have hcall := Check_calls A0 c0 l0 f HF.out vb w_ (Kd.C_below HR0.out HA.out.below) HC0.out HV.out
    rw [HEA.out] at hcall
    refine hcall.mono ?_
    clear hcall
    rintro e w_ ⟨rfl, hb⟩
    replace HA := Aside0.mk (HA.out.step hb)
    clear hb
    go_wp2
    go_ret2
    exact ⟨by unfold rankS; rw [HEA.out, if_neg Z1.out]; rfl, HA.out.below⟩

end Go.Proofs.Ytgjnmpgmbhbbhaa.P

end

section
namespace Go.Proofs.Ytgjnmpgmbhbbhaa.P
open Go.RowKit Go.Proofs.YtgjnmpgmbhbbhaaW.PrintWords Go.Proofs.YtgjnmpgmbhbbhaaW.PrintLast Go.Proofs.YtgjnmpgmbhbbhaaW.PrintMore
attribute [local go_sem] max2_int min2_int max_two min_two max_three min_three max_four min_four   -- for this text's walks alone
set_option linter.unusedVariables false
set_option linter.unusedSimpArgs false

def provisolaw03_FramesRanks.Facts (l0 : List S59) (a0 a1 : Int) (a2 : List Int) (b0 b1 : Int) (b2 : List Int) : Prop :=
  a2.length = 24 ∧ b2.length = 24 ∧ ∃ (k : Nat) (tb : Bool), provisolaw03_table.f k l0 = some tb ∧ (tb = true → ∃ (vb : Int → Bool) (sb : Int → Int → Bool) (rb : Int → Int),
    provisoplain_Classes.f k l0 = some l0 ∧ vb 0 = true ∧
    (∀ t, t ∈ a2 ∨ t ∈ b2 → types_Valid.f l0 t = some (vb t) ∧ provisoref02_Valid.f l0 t = some (vb t) ∧ types_Rank.f k l0 t = some (rb t) ∧ 0 ≤ rb t ∧ rb t ≤ 34) ∧
    (∀ t u, t ∈ a2 ∨ t ∈ b2 → u ∈ a2 ∨ u ∈ b2 → types_Sub.f k l0 t u = some (sb t u)) ∧
    (checkS vb ⟨a0, a1, a2⟩ = 0 → checkS vb ⟨b0, b1, b2⟩ = 0 →
      (0 < a0 + a1 → a2.getD 0 0 ≠ 0 → sumS rb a2 ≠ 0) ∧ subS vb sb ⟨a0, a1, a2⟩ ⟨a0, a1, a2⟩ = true ∧
      (subS vb sb ⟨a0, a1, a2⟩ ⟨b0, b1, b2⟩ = true → ((⟨a0, a1, a2⟩ : Fr) = ⟨b0, b1, b2⟩) ∨ sumS rb b2 < sumS rb a2)))
theorem getD_mem {f : Fr} (hf : f.ok) {i : Nat} (hi : i < 24) : f.sl.getD i 0 ∈ f.sl := by
  have h : i < f.sl.length := by unfold Fr.ok at hf; omega
  rw [List.getD_eq_getElem?_getD, List.getElem?_eq_getElem h]
  exact List.getElem_mem h
set_option maxHeartbeats 6400000 in
set_option maxRecDepth 100000 in
theorem provisolaw03_FramesRanks.calls (A0 : Option Addr) (c0 : Nat) (l0 : List S59) (a0 a1 : Int) (a2 : List Int) (b0 b1 : Int) (b2 : List Int) (w : World) (hr0 : Kd.C k59 w A0 l0.length l0) (hc0 : l0.length ≤ c0) (h : provisolaw03_FramesRanks.Facts l0 a0 a1 a2 b0 b1 b2) :
    Calls Try.prog 8 #[.slice A0 l0.length c0, .agg (⟨a0, a1, a2⟩ : Fr).a, .agg (⟨b0, b1, b2⟩ : Fr).a] w fun e w' => e = .returned (.bool true) ∧ Below w.heap.size w w' := by
  obtain ⟨hla, hlb, k, tb, htb, h⟩ := h
  obtain ⟨a, hae⟩ : ∃ a : Fr, a = ⟨a0, a1, a2⟩ := ⟨_, rfl⟩
  obtain ⟨b, hbe⟩ : ∃ b : Fr, b = ⟨b0, b1, b2⟩ := ⟨_, rfl⟩
  have ea2 : a2 = a.sl := by rw [hae]
  have eb2 : b2 = b.sl := by rw [hbe]
  have ea0 : a0 = a.loc := by rw [hae]
  have ea1 : a1 = a.hgt := by rw [hae]
  rw [← hae, ← hbe] at h ⊢
  rw [ea2, eb2, ea0, ea1] at h
  have HFA : Aside0 (a.ok) := ⟨by unfold Fr.ok; rw [← ea2]; exact hla⟩
  have HFB : Aside0 (b.ok) := ⟨by unfold Fr.ok; rw [← eb2]; exact hlb⟩
  clear ea2 eb2 ea0 ea1 hla hlb hae hbe
  have HR0 := Aside0.mk hr0
  have HC0 := Aside0.mk hc0
  have HTB := Aside0.mk htb
  have HFACT := Aside0.mk h
  have HA := Aside0.mk (Frs.nil w)
  clear hr0 hc0 htb h
  go_enter Try.func8, Try.ntmps8
  go_wp2_with (first | ((with_reducible refine gate_dst (N := 4) rfl ?_); refine fr_box rfl rfl (f := a) rfl HFA.out HA.out ?_; intro ga w_ hA; (try simp only [List.cons_append, List.nil_append] at hA); replace HA := Aside0.mk hA; clear hA) | ((with_reducible refine gate_dst (N := 5) rfl ?_); refine fr_box rfl rfl (f := b) rfl HFB.out HA.out ?_; intro gb w_ hA; (try simp only [List.cons_append, List.nil_append] at hA); replace HA := Aside0.mk hA; clear hA))
  refine (provisolaw03_table.calls k A0 c0 l0 tb w_ (Kd.C_below HR0.out HA.out.below) HC0.out HTB.out).mono ?_
  rintro e w_ ⟨rfl, hb⟩
  replace HA := Aside0.mk (HA.out.step hb)
  clear hb
  cases tb with
  | false =>
    go_wp2
    go_ret
    exact ⟨rfl, HA.out.below⟩
  | true =>
    obtain ⟨vb, sb, rb, hcls, hv0, hval, hsub, hlaw⟩ := HFACT.out rfl
    have HCLS := Aside0.mk hcls
    have HV0 := Aside0.mk hv0
    have HVAL := Aside0.mk hval
    have HSUB := Aside0.mk hsub
    have HLAW := Aside0.mk hlaw
    clear hcls hv0 hval hsub hlaw HFACT HTB
    obtain ⟨ea, hea⟩ : ∃ ea, checkS vb a = ea := ⟨_, rfl⟩
    obtain ⟨eb, heb⟩ : ∃ eb, checkS vb b = eb := ⟨_, rfl⟩
    have HEa := Aside0.mk hea
    have HEb := Aside0.mk heb
    clear hea heb
    go_wp2_with (first | ((with_reducible refine gate_dst (N := 16) rfl ?_); refine fr_guard rfl (by rfl) ?_; dsimp only; refine fr_load rfl rfl rfl HA.out (by first | exact List.mem_cons_self | exact List.mem_cons_of_mem _ List.mem_cons_self | exact List.mem_cons_of_mem _ (List.mem_cons_of_mem _ List.mem_cons_self) | exact List.mem_cons_of_mem _ (List.mem_cons_of_mem _ (List.mem_cons_of_mem _ List.mem_cons_self))) ?_))
    have hcall := refCheck_calls A0 c0 l0 a HFA.out vb w_ (Kd.C_below HR0.out HA.out.below) HC0.out HV0.out (fun t ht => (HVAL.out t (.inl ht)).2.1)
    rw [HEa.out] at hcall
    refine hcall.mono ?_
    clear hcall
    rintro e w_ ⟨rfl, hb⟩
    replace HA := Aside0.mk (HA.out.step hb)
    clear hb
    by_cases z1 : ea = 0
    case neg =>
      have z1b : (ea != 0) = true := by rw [bne_iff_ne]; exact z1
      clear z1
      go_wp2
      go_ret
      exact ⟨rfl, HA.out.below⟩
    subst z1
    go_wp2_with (first | ((with_reducible refine gate_dst (N := 22) rfl ?_); refine fr_guard rfl (by rfl) ?_; dsimp only; refine fr_load rfl rfl rfl HA.out (by first | exact List.mem_cons_self | exact List.mem_cons_of_mem _ List.mem_cons_self | exact List.mem_cons_of_mem _ (List.mem_cons_of_mem _ List.mem_cons_self) | exact List.mem_cons_of_mem _ (List.mem_cons_of_mem _ (List.mem_cons_of_mem _ List.mem_cons_self))) ?_))
    have hcall := refCheck_calls A0 c0 l0 b HFB.out vb w_ (Kd.C_below HR0.out HA.out.below) HC0.out HV0.out (fun t ht => (HVAL.out t (.inr ht)).2.1)
    rw [HEb.out] at hcall
    refine hcall.mono ?_
    clear hcall
    rintro e w_ ⟨rfl, hb⟩
    replace HA := Aside0.mk (HA.out.step hb)
    clear hb
    by_cases z2 : eb = 0
    case neg =>
      have z2b : (eb != 0) = true := by rw [bne_iff_ne]; exact z2
      clear z2
      go_wp2
      go_ret
      exact ⟨rfl, HA.out.below⟩
    subst z2
    obtain ⟨hl1, hl2, hl3⟩ := HLAW.out HEa.out HEb.out
    obtain ⟨m, hm⟩ : ∃ m, sumS rb a.sl = m := ⟨_, rfl⟩
    obtain ⟨n, hn⟩ : ∃ n, sumS rb b.sl = n := ⟨_, rfl⟩
    have hmb := sumS_bound (rb := rb) (b := 34) a.sl (fun t ht => (HVAL.out t (.inl ht)).2.2.2)
    have hnb := sumS_bound (rb := rb) (b := 34) b.sl (fun t ht => (HVAL.out t (.inr ht)).2.2.2)
    have hal : a.sl.length = 24 := HFA.out
    have hbl : b.sl.length = 24 := HFB.out
    rw [hm, hal] at hmb
    rw [hn, hbl] at hnb
    have HRA : Aside0 (rankS vb rb a = (m, 0)) := ⟨by unfold rankS; rw [HEa.out, if_pos rfl, hm]⟩
    have HRB : Aside0 (rankS vb rb b = (n, 0)) := ⟨by unfold rankS; rw [HEb.out, if_pos rfl, hn]⟩
    rw [hm] at hl1 hl3
    rw [hn] at hl3
    have HL1 := Aside0.mk hl1
    have HL2 := Aside0.mk hl2
    have HL3 := Aside0.mk hl3
    have d1 : decide (m < 0) = false := decide_eq_false (by omega)
    have d2 : decide (n < 0) = false := decide_eq_false (by omega)
    have d3 : decide (816 < m) = false := decide_eq_false (by omega)
    have d4 : decide (816 < n) = false := decide_eq_false (by omega)
    have HVA : (∀ t ∈ a.sl, types_Valid.f l0 t = some (vb t)) ∧ (∀ t ∈ a.sl, types_Rank.f k l0 t = some (rb t) ∧ 0 ≤ rb t ∧ rb t ≤ 1000) := ⟨fun t ht => (HVAL.out t (.inl ht)).1, fun t ht => ⟨(HVAL.out t (.inl ht)).2.2.1, (HVAL.out t (.inl ht)).2.2.2.1, by have := (HVAL.out t (.inl ht)).2.2.2.2; omega⟩⟩
    have HVB : (∀ t ∈ b.sl, types_Valid.f l0 t = some (vb t)) ∧ (∀ t ∈ b.sl, types_Rank.f k l0 t = some (rb t) ∧ 0 ≤ rb t ∧ rb t ≤ 1000) := ⟨fun t ht => (HVAL.out t (.inr ht)).1, fun t ht => ⟨(HVAL.out t (.inr ht)).2.2.1, (HVAL.out t (.inr ht)).2.2.2.1, by have := (HVAL.out t (.inr ht)).2.2.2.2; omega⟩⟩
    have HVA := Aside0.mk HVA
    have HVB := Aside0.mk HVB
    clear hl1 hl2 hl3 hm hn hmb hnb
    go_upto_region 3 with (fail)
    have hA := HA.out
    refine wp_region_held_drew (S := (fun w' => Frs w [(gb, b), (ga, a)] w')) (by kernel_rfl) ?_ (fun hHeld => ?_)
    · exact hA.drewN 1
    refine take_dst (i := 0) (v := ?_) 27 rfl rfl (by kernel_rfl) (by kernel_rfl) (by kernel_rfl) (fun _ _ _ h => h) (Or.inl ⟨by rfl, ?_⟩) (by assumption) ?_
    rotate_left
    · intro w hSw
      go_simp
      try with_reducible rfl
    (try simp only [Act.put, List.setIfInBounds_toArray, List.set_cons_zero, List.set_cons_succ])
    refine take_dst (i := 2) 29 rfl rfl (by kernel_rfl) (by kernel_rfl) (by kernel_rfl) (fun _ _ _ h => h) (fr_yields rfl rfl rfl (fun _ h => h) (List.mem_cons_of_mem _ List.mem_cons_self)) (by assumption) ?_
    (try simp only [Act.put, List.setIfInBounds_toArray, List.set_cons_zero, List.set_cons_succ])
    refine wpAnyH_ready (rs := [1]) (by kernel_rfl) (by simp) ?_
    refine AllReadyH.cons rfl (fun K hK => ?_) AllReadyH.nil
    go_simp
    refine (provisoplain_Classes.calls k A0 c0 l0 l0 _ (Kd.C_below HR0.out hHeld.below) HC0.out HCLS.out).mono ?_
    rintro e w9 ⟨v2, rfl, hS, hb⟩
    obtain ⟨A2, c2, rfl, hc2, hC2⟩ := Kd.R_reads (Kd.S_R hS)
    have h9 : Frs w [(gb, b), (ga, a)] w9 := hHeld.step hb
    have HC2 := Aside0.mk hc2
    have HG2 := Aside0.mk hC2
    clear hS hc2 hC2
    go_simp
    refine hK.out _ _ h9 (fun hHeld => ?_)
    (try simp only [Act.put, List.setIfInBounds_toArray, List.set_cons_zero, List.set_cons_succ])
    clear hK K h9 hb
    refine wpAnyH_ready (rs := [3]) (by kernel_rfl) (by simp) ?_
    refine AllReadyH.cons rfl (fun K hK => ?_) AllReadyH.nil
    go_simp
    have hcall := Rank_calls k A2 c2 l0 a HFA.out vb rb w9 HG2.out HC2.out HVA.out.1 HVA.out.2
    rw [HRA.out] at hcall
    refine hcall.mono ?_
    clear hcall
    rintro e w10 ⟨rfl, hb⟩
    have h9 : Frs w [(gb, b), (ga, a)] w10 := hHeld.step hb
    go_simp
    refine hK.out _ _ h9 (fun hHeld => ?_)
    (try simp only [Act.put, List.setIfInBounds_toArray, List.set_cons_zero, List.set_cons_succ])
    clear hK K h9 hb HC2 HG2
    refine take_dst (i := 4) (v := ?_) 26 rfl rfl (by kernel_rfl) (by kernel_rfl) (by kernel_rfl) (fun _ _ _ h => h) (Or.inl ⟨by rfl, ?_⟩) (by assumption) ?_
    rotate_left
    · intro w hSw
      go_simp
      try with_reducible rfl
    (try simp only [Act.put, List.setIfInBounds_toArray, List.set_cons_zero, List.set_cons_succ])
    refine take_dst (i := 5) (v := ?_) 31 rfl rfl (by kernel_rfl) (by kernel_rfl) (by kernel_rfl) (fun _ _ _ h => h) (Or.inl ⟨by rfl, ?_⟩) (by assumption) ?_
    rotate_left
    · intro w hSw
      go_simp
      try with_reducible rfl
    (try simp only [Act.put, List.setIfInBounds_toArray, List.set_cons_zero, List.set_cons_succ])
    refine take_dst (i := 6) (v := ?_) 32 rfl rfl (by kernel_rfl) (by kernel_rfl) (by kernel_rfl) (fun _ _ _ h => h) (Or.inl ⟨by rfl, ?_⟩) (by assumption) ?_
    rotate_left
    · intro w hSw
      go_simp
      try with_reducible rfl
    (try simp only [Act.put, List.setIfInBounds_toArray, List.set_cons_zero, List.set_cons_succ])
    refine take_dst (i := 7) (v := ?_) 7 rfl rfl (by kernel_rfl) (by kernel_rfl) (by kernel_rfl) (fun _ _ _ h => h) (Or.inl ⟨by rfl, ?_⟩) (by assumption) ?_
    rotate_left
    · intro w hSw
      go_simp
      try with_reducible rfl
    (try simp only [Act.put, List.setIfInBounds_toArray, List.set_cons_zero, List.set_cons_succ])
    refine take_dst (i := 8) (v := ?_) 8 rfl rfl (by kernel_rfl) (by kernel_rfl) (by kernel_rfl) (fun _ _ _ h => h) (Or.inl ⟨by rfl, ?_⟩) (by assumption) ?_
    rotate_left
    · intro w hSw
      go_simp
      try with_reducible rfl
    (try simp only [Act.put, List.setIfInBounds_toArray, List.set_cons_zero, List.set_cons_succ])
    refine wpAnyH_done (by kernel_rfl) ?_ _
    have HA := Aside0.mk hHeld
    clear hHeld hA
    go_upto_region 4 with (fail)
    have hA := HA.out
    refine wp_region_held_drew (S := (fun w' => Frs w [(gb, b), (ga, a)] w')) (by kernel_rfl) ?_ (fun hHeld => ?_)
    · exact hA.drewN 1
    refine take_dst (i := 0) (v := ?_) 34 rfl rfl (by kernel_rfl) (by kernel_rfl) (by kernel_rfl) (fun _ _ _ h => h) (Or.inl ⟨by rfl, ?_⟩) (by assumption) ?_
    rotate_left
    · intro w hSw
      go_simp
      try with_reducible rfl
    (try simp only [Act.put, List.setIfInBounds_toArray, List.set_cons_zero, List.set_cons_succ])
    refine take_dst (i := 2) 36 rfl rfl (by kernel_rfl) (by kernel_rfl) (by kernel_rfl) (fun _ _ _ h => h) (fr_yields rfl rfl rfl (fun _ h => h) List.mem_cons_self) (by assumption) ?_
    (try simp only [Act.put, List.setIfInBounds_toArray, List.set_cons_zero, List.set_cons_succ])
    refine wpAnyH_ready (rs := [1]) (by kernel_rfl) (by simp) ?_
    refine AllReadyH.cons rfl (fun K hK => ?_) AllReadyH.nil
    go_simp
    refine (provisoplain_Classes.calls k A0 c0 l0 l0 _ (Kd.C_below HR0.out hHeld.below) HC0.out HCLS.out).mono ?_
    rintro e w9 ⟨v2, rfl, hS, hb⟩
    obtain ⟨A2, c2, rfl, hc2, hC2⟩ := Kd.R_reads (Kd.S_R hS)
    have h9 : Frs w [(gb, b), (ga, a)] w9 := hHeld.step hb
    have HC2 := Aside0.mk hc2
    have HG2 := Aside0.mk hC2
    clear hS hc2 hC2
    go_simp
    refine hK.out _ _ h9 (fun hHeld => ?_)
    (try simp only [Act.put, List.setIfInBounds_toArray, List.set_cons_zero, List.set_cons_succ])
    clear hK K h9 hb
    refine wpAnyH_ready (rs := [3]) (by kernel_rfl) (by simp) ?_
    refine AllReadyH.cons rfl (fun K hK => ?_) AllReadyH.nil
    go_simp
    have hcall := Rank_calls k A2 c2 l0 b HFB.out vb rb w9 HG2.out HC2.out HVB.out.1 HVB.out.2
    rw [HRB.out] at hcall
    refine hcall.mono ?_
    clear hcall
    rintro e w10 ⟨rfl, hb⟩
    have h9 : Frs w [(gb, b), (ga, a)] w10 := hHeld.step hb
    go_simp
    refine hK.out _ _ h9 (fun hHeld => ?_)
    (try simp only [Act.put, List.setIfInBounds_toArray, List.set_cons_zero, List.set_cons_succ])
    clear hK K h9 hb HC2 HG2
    refine take_dst (i := 4) (v := ?_) 33 rfl rfl (by kernel_rfl) (by kernel_rfl) (by kernel_rfl) (fun _ _ _ h => h) (Or.inl ⟨by rfl, ?_⟩) (by assumption) ?_
    rotate_left
    · intro w hSw
      go_simp
      try with_reducible rfl
    (try simp only [Act.put, List.setIfInBounds_toArray, List.set_cons_zero, List.set_cons_succ])
    refine take_dst (i := 5) (v := ?_) 38 rfl rfl (by kernel_rfl) (by kernel_rfl) (by kernel_rfl) (fun _ _ _ h => h) (Or.inl ⟨by rfl, ?_⟩) (by assumption) ?_
    rotate_left
    · intro w hSw
      go_simp
      try with_reducible rfl
    (try simp only [Act.put, List.setIfInBounds_toArray, List.set_cons_zero, List.set_cons_succ])
    refine take_dst (i := 6) (v := ?_) 39 rfl rfl (by kernel_rfl) (by kernel_rfl) (by kernel_rfl) (fun _ _ _ h => h) (Or.inl ⟨by rfl, ?_⟩) (by assumption) ?_
    rotate_left
    · intro w hSw
      go_simp
      try with_reducible rfl
    (try simp only [Act.put, List.setIfInBounds_toArray, List.set_cons_zero, List.set_cons_succ])
    refine take_dst (i := 7) (v := ?_) 9 rfl rfl (by kernel_rfl) (by kernel_rfl) (by kernel_rfl) (fun _ _ _ h => h) (Or.inl ⟨by rfl, ?_⟩) (by assumption) ?_
    rotate_left
    · intro w hSw
      go_simp
      try with_reducible rfl
    (try simp only [Act.put, List.setIfInBounds_toArray, List.set_cons_zero, List.set_cons_succ])
    refine take_dst (i := 8) (v := ?_) 10 rfl rfl (by kernel_rfl) (by kernel_rfl) (by kernel_rfl) (fun _ _ _ h => h) (Or.inl ⟨by rfl, ?_⟩) (by assumption) ?_
    rotate_left
    · intro w hSw
      go_simp
      try with_reducible rfl
    (try simp only [Act.put, List.setIfInBounds_toArray, List.set_cons_zero, List.set_cons_succ])
    refine wpAnyH_done (by kernel_rfl) ?_ _
    have HA := Aside0.mk hHeld
    clear hHeld hA
    have hshp : a.shp = true := by
      have h := HEa.out
      unfold checkS at h
      by_cases hs : a.shp = true
      · exact hs
      · rw [if_neg hs] at h
        cases h
    obtain ⟨s, hs⟩ : ∃ s, a.loc + a.hgt = s := ⟨_, rfl⟩
    have hsb : 0 ≤ s ∧ s ≤ 24 := by
      obtain ⟨L, H, sl, e, h1, h2⟩ := Fr.shp_nat hshp
      rw [e] at hs
      simp only at hs
      omega
    have hw : wrap64 s = s := by unfold wrap64; omega
    have hc0 := HA.out.at1.c0
    have hc1 := HA.out.at1.c1
    have hc2 := HA.out.at1.cs 0 (by have := HFA.out; unfold Fr.ok at this; omega)
    have e0 : a.sl[0]'(by have := HFA.out; unfold Fr.ok at this; omega) = a.sl.getD 0 0 := by rw [List.getD_eq_getElem?_getD, List.getElem?_eq_getElem (by have := HFA.out; unfold Fr.ok at this; omega)]; rfl
    rw [e0, Nat.add_zero] at hc2
    have h1 := HL1.out
    obtain ⟨t0, ht0⟩ : ∃ t0, a.sl.getD 0 0 = t0 := ⟨_, rfl⟩
    rw [ht0, hs] at h1
    rw [ht0] at hc2
    clear e0 ht0 hshp
    have HSA : Aside0 (∀ i, i < 24 → types_Sub.f k l0 (a.sl.getD i 0) (a.sl.getD i 0) = some (sb (a.sl.getD i 0) (a.sl.getD i 0))) := ⟨fun i hi => HSUB.out _ _ (.inl (getD_mem HFA.out hi)) (.inl (getD_mem HFA.out hi))⟩
    have HSB2 : Aside0 (∀ i, i < 24 → types_Sub.f k l0 (a.sl.getD i 0) (b.sl.getD i 0) = some (sb (a.sl.getD i 0) (b.sl.getD i 0))) := ⟨fun i hi => HSUB.out _ _ (.inl (getD_mem HFA.out hi)) (.inr (getD_mem HFB.out hi))⟩
    have htail : ∀ (W : World), Frs w [(gb, b), (ga, a)] W → Aside0 (Frs w [(gb, b), (ga, a)] W) := fun W h => ⟨h⟩
    obtain ⟨u, hu, hu2⟩ : ∃ u : Bool, subS vb sb a b = u ∧ (u = true → a = b ∨ n < m) := ⟨_, rfl, HL3.out⟩
    have HU := Aside0.mk hu
    have HU2 := Aside0.mk hu2
    clear hu hu2
    by_cases p : 0 < s
    · have d5 : decide (0 < s) = true := decide_eq_true p
      by_cases q : t0 = 0
      · have q1 : (t0 != 0) = false := by rw [q]; rfl
        have P1 := Aside0.mk p
        clear h1 p q
        go_wp2_with (first | ((with_reducible refine gate_dst (N := 79) rfl ?_); refine fr_load rfl rfl rfl HA.out (by first | exact List.mem_cons_self | exact List.mem_cons_of_mem _ List.mem_cons_self | exact List.mem_cons_of_mem _ (List.mem_cons_of_mem _ List.mem_cons_self) | exact List.mem_cons_of_mem _ (List.mem_cons_of_mem _ (List.mem_cons_of_mem _ List.mem_cons_self))) ?_) | ((with_reducible refine gate_dst (N := 80) rfl ?_); refine fr_load rfl rfl rfl HA.out (by first | exact List.mem_cons_self | exact List.mem_cons_of_mem _ List.mem_cons_self | exact List.mem_cons_of_mem _ (List.mem_cons_of_mem _ List.mem_cons_self) | exact List.mem_cons_of_mem _ (List.mem_cons_of_mem _ (List.mem_cons_of_mem _ List.mem_cons_self))) ?_))
        have hcall := frSub_calls k A0 c0 l0 a a HFA.out HFA.out vb sb _ (Kd.C_below HR0.out HA.out.below) HC0.out HVA.out.1 HVA.out.1 HSA.out
        rw [HL2.out] at hcall
        refine hcall.mono ?_
        clear hcall
        rintro e w_ ⟨rfl, hb⟩
        replace HA := Aside0.mk (HA.out.step hb)
        clear hb
        go_wp2_with (first | ((with_reducible refine gate_dst (N := 84) rfl ?_); refine fr_load rfl rfl rfl HA.out (by first | exact List.mem_cons_self | exact List.mem_cons_of_mem _ List.mem_cons_self | exact List.mem_cons_of_mem _ (List.mem_cons_of_mem _ List.mem_cons_self) | exact List.mem_cons_of_mem _ (List.mem_cons_of_mem _ (List.mem_cons_of_mem _ List.mem_cons_self))) ?_) | ((with_reducible refine gate_dst (N := 85) rfl ?_); refine fr_load rfl rfl rfl HA.out (by first | exact List.mem_cons_self | exact List.mem_cons_of_mem _ List.mem_cons_self | exact List.mem_cons_of_mem _ (List.mem_cons_of_mem _ List.mem_cons_self) | exact List.mem_cons_of_mem _ (List.mem_cons_of_mem _ (List.mem_cons_of_mem _ List.mem_cons_self))) ?_))
        have hcall := frSub_calls k A0 c0 l0 a b HFA.out HFB.out vb sb _ (Kd.C_below HR0.out HA.out.below) HC0.out HVA.out.1 HVB.out.1 HSB2.out
        rw [HU.out] at hcall
        refine hcall.mono ?_
        clear hcall
        rintro e w_ ⟨rfl, hb⟩
        replace HA := Aside0.mk (HA.out.step hb)
        clear hb
        cases u with
        | false =>
          go_wp2
          go_ret
          exact ⟨rfl, HA.out.below⟩
        | true =>
          obtain ⟨v, hv, hv2⟩ : ∃ v, frEq a b = v ∧ (v = false → n < m) := ⟨_, rfl, fun h => (HU2.out rfl).elim (fun e => by rw [e, frEq_self] at h; cases h) id⟩
          have HVQ := Aside0.mk hv
          have HV2 := Aside0.mk hv2
          clear hv hv2
          cases v with
          | true =>
            go_wp2_with (first | ((with_reducible refine gate_dst (N := 89) rfl ?_); refine fr_guard rfl (by rfl) ?_; dsimp only; refine fr_load rfl rfl rfl HA.out (by first | exact List.mem_cons_self | exact List.mem_cons_of_mem _ List.mem_cons_self | exact List.mem_cons_of_mem _ (List.mem_cons_of_mem _ List.mem_cons_self) | exact List.mem_cons_of_mem _ (List.mem_cons_of_mem _ (List.mem_cons_of_mem _ List.mem_cons_self))) ?_) | ((with_reducible refine gate_dst (N := 90) rfl ?_); refine fr_guard rfl (by rfl) ?_; dsimp only; refine fr_load rfl rfl rfl HA.out (by first | exact List.mem_cons_self | exact List.mem_cons_of_mem _ List.mem_cons_self | exact List.mem_cons_of_mem _ (List.mem_cons_of_mem _ List.mem_cons_self) | exact List.mem_cons_of_mem _ (List.mem_cons_of_mem _ (List.mem_cons_of_mem _ List.mem_cons_self))) ?_) | ((with_reducible refine gate_dst (N := 91) rfl ?_); refine fr_guard rfl (by rfl) ?_; dsimp only; refine fr_eql rfl rfl (f := a) (g := b) rfl rfl HFA.out HFB.out ?_; rw [HVQ.out]))
            go_ret
            exact ⟨rfl, HA.out.below⟩
          | false =>
            have d6 : decide (n < m) = true := decide_eq_true (HV2.out rfl)
            go_wp2_with (first | ((with_reducible refine gate_dst (N := 89) rfl ?_); refine fr_guard rfl (by rfl) ?_; dsimp only; refine fr_load rfl rfl rfl HA.out (by first | exact List.mem_cons_self | exact List.mem_cons_of_mem _ List.mem_cons_self | exact List.mem_cons_of_mem _ (List.mem_cons_of_mem _ List.mem_cons_self) | exact List.mem_cons_of_mem _ (List.mem_cons_of_mem _ (List.mem_cons_of_mem _ List.mem_cons_self))) ?_) | ((with_reducible refine gate_dst (N := 90) rfl ?_); refine fr_guard rfl (by rfl) ?_; dsimp only; refine fr_load rfl rfl rfl HA.out (by first | exact List.mem_cons_self | exact List.mem_cons_of_mem _ List.mem_cons_self | exact List.mem_cons_of_mem _ (List.mem_cons_of_mem _ List.mem_cons_self) | exact List.mem_cons_of_mem _ (List.mem_cons_of_mem _ (List.mem_cons_of_mem _ List.mem_cons_self))) ?_) | ((with_reducible refine gate_dst (N := 91) rfl ?_); refine fr_guard rfl (by rfl) ?_; dsimp only; refine fr_eql rfl rfl (f := a) (g := b) rfl rfl HFA.out HFB.out ?_; rw [HVQ.out]))
            go_ret
            exact ⟨rfl, HA.out.below⟩
      · have q1 : (t0 != 0) = true := by rw [bne_iff_ne]; exact q
        have q2 : (m == 0) = false := by rw [beq_eq_false_iff_ne]; exact h1 p q
        clear h1 p q
        go_wp2_with (first | ((with_reducible refine gate_dst (N := 79) rfl ?_); refine fr_load rfl rfl rfl HA.out (by first | exact List.mem_cons_self | exact List.mem_cons_of_mem _ List.mem_cons_self | exact List.mem_cons_of_mem _ (List.mem_cons_of_mem _ List.mem_cons_self) | exact List.mem_cons_of_mem _ (List.mem_cons_of_mem _ (List.mem_cons_of_mem _ List.mem_cons_self))) ?_) | ((with_reducible refine gate_dst (N := 80) rfl ?_); refine fr_load rfl rfl rfl HA.out (by first | exact List.mem_cons_self | exact List.mem_cons_of_mem _ List.mem_cons_self | exact List.mem_cons_of_mem _ (List.mem_cons_of_mem _ List.mem_cons_self) | exact List.mem_cons_of_mem _ (List.mem_cons_of_mem _ (List.mem_cons_of_mem _ List.mem_cons_self))) ?_))
        have hcall := frSub_calls k A0 c0 l0 a a HFA.out HFA.out vb sb _ (Kd.C_below HR0.out HA.out.below) HC0.out HVA.out.1 HVA.out.1 HSA.out
        rw [HL2.out] at hcall
        refine hcall.mono ?_
        clear hcall
        rintro e w_ ⟨rfl, hb⟩
        replace HA := Aside0.mk (HA.out.step hb)
        clear hb
        go_wp2_with (first | ((with_reducible refine gate_dst (N := 84) rfl ?_); refine fr_load rfl rfl rfl HA.out (by first | exact List.mem_cons_self | exact List.mem_cons_of_mem _ List.mem_cons_self | exact List.mem_cons_of_mem _ (List.mem_cons_of_mem _ List.mem_cons_self) | exact List.mem_cons_of_mem _ (List.mem_cons_of_mem _ (List.mem_cons_of_mem _ List.mem_cons_self))) ?_) | ((with_reducible refine gate_dst (N := 85) rfl ?_); refine fr_load rfl rfl rfl HA.out (by first | exact List.mem_cons_self | exact List.mem_cons_of_mem _ List.mem_cons_self | exact List.mem_cons_of_mem _ (List.mem_cons_of_mem _ List.mem_cons_self) | exact List.mem_cons_of_mem _ (List.mem_cons_of_mem _ (List.mem_cons_of_mem _ List.mem_cons_self))) ?_))
        have hcall := frSub_calls k A0 c0 l0 a b HFA.out HFB.out vb sb _ (Kd.C_below HR0.out HA.out.below) HC0.out HVA.out.1 HVB.out.1 HSB2.out
        rw [HU.out] at hcall
        refine hcall.mono ?_
        clear hcall
        rintro e w_ ⟨rfl, hb⟩
        replace HA := Aside0.mk (HA.out.step hb)
        clear hb
        cases u with
        | false =>
          go_wp2
          go_ret
          exact ⟨rfl, HA.out.below⟩
        | true =>
          obtain ⟨v, hv, hv2⟩ : ∃ v, frEq a b = v ∧ (v = false → n < m) := ⟨_, rfl, fun h => (HU2.out rfl).elim (fun e => by rw [e, frEq_self] at h; cases h) id⟩
          have HVQ := Aside0.mk hv
          have HV2 := Aside0.mk hv2
          clear hv hv2
          cases v with
          | true =>
            go_wp2_with (first | ((with_reducible refine gate_dst (N := 89) rfl ?_); refine fr_guard rfl (by rfl) ?_; dsimp only; refine fr_load rfl rfl rfl HA.out (by first | exact List.mem_cons_self | exact List.mem_cons_of_mem _ List.mem_cons_self | exact List.mem_cons_of_mem _ (List.mem_cons_of_mem _ List.mem_cons_self) | exact List.mem_cons_of_mem _ (List.mem_cons_of_mem _ (List.mem_cons_of_mem _ List.mem_cons_self))) ?_) | ((with_reducible refine gate_dst (N := 90) rfl ?_); refine fr_guard rfl (by rfl) ?_; dsimp only; refine fr_load rfl rfl rfl HA.out (by first | exact List.mem_cons_self | exact List.mem_cons_of_mem _ List.mem_cons_self | exact List.mem_cons_of_mem _ (List.mem_cons_of_mem _ List.mem_cons_self) | exact List.mem_cons_of_mem _ (List.mem_cons_of_mem _ (List.mem_cons_of_mem _ List.mem_cons_self))) ?_) | ((with_reducible refine gate_dst (N := 91) rfl ?_); refine fr_guard rfl (by rfl) ?_; dsimp only; refine fr_eql rfl rfl (f := a) (g := b) rfl rfl HFA.out HFB.out ?_; rw [HVQ.out]))
            go_ret
            exact ⟨rfl, HA.out.below⟩
          | false =>
            have d6 : decide (n < m) = true := decide_eq_true (HV2.out rfl)
            go_wp2_with (first | ((with_reducible refine gate_dst (N := 89) rfl ?_); refine fr_guard rfl (by rfl) ?_; dsimp only; refine fr_load rfl rfl rfl HA.out (by first | exact List.mem_cons_self | exact List.mem_cons_of_mem _ List.mem_cons_self | exact List.mem_cons_of_mem _ (List.mem_cons_of_mem _ List.mem_cons_self) | exact List.mem_cons_of_mem _ (List.mem_cons_of_mem _ (List.mem_cons_of_mem _ List.mem_cons_self))) ?_) | ((with_reducible refine gate_dst (N := 90) rfl ?_); refine fr_guard rfl (by rfl) ?_; dsimp only; refine fr_load rfl rfl rfl HA.out (by first | exact List.mem_cons_self | exact List.mem_cons_of_mem _ List.mem_cons_self | exact List.mem_cons_of_mem _ (List.mem_cons_of_mem _ List.mem_cons_self) | exact List.mem_cons_of_mem _ (List.mem_cons_of_mem _ (List.mem_cons_of_mem _ List.mem_cons_self))) ?_) | ((with_reducible refine gate_dst (N := 91) rfl ?_); refine fr_guard rfl (by rfl) ?_; dsimp only; refine fr_eql rfl rfl (f := a) (g := b) rfl rfl HFA.out HFB.out ?_; rw [HVQ.out]))
            go_ret
            exact ⟨rfl, HA.out.below⟩
    · have d5 : decide (0 < s) = false := decide_eq_false p
      clear h1 p
      go_wp2_with (first | ((with_reducible refine gate_dst (N := 79) rfl ?_); refine fr_load rfl rfl rfl HA.out (by first | exact List.mem_cons_self | exact List.mem_cons_of_mem _ List.mem_cons_self | exact List.mem_cons_of_mem _ (List.mem_cons_of_mem _ List.mem_cons_self) | exact List.mem_cons_of_mem _ (List.mem_cons_of_mem _ (List.mem_cons_of_mem _ List.mem_cons_self))) ?_) | ((with_reducible refine gate_dst (N := 80) rfl ?_); refine fr_load rfl rfl rfl HA.out (by first | exact List.mem_cons_self | exact List.mem_cons_of_mem _ List.mem_cons_self | exact List.mem_cons_of_mem _ (List.mem_cons_of_mem _ List.mem_cons_self) | exact List.mem_cons_of_mem _ (List.mem_cons_of_mem _ (List.mem_cons_of_mem _ List.mem_cons_self))) ?_))
      have hcall := frSub_calls k A0 c0 l0 a a HFA.out HFA.out vb sb _ (Kd.C_below HR0.out HA.out.below) HC0.out HVA.out.1 HVA.out.1 HSA.out
      rw [HL2.out] at hcall
      refine hcall.mono ?_
      clear hcall
      rintro e w_ ⟨rfl, hb⟩
      replace HA := Aside0.mk (HA.out.step hb)
      clear hb
      go_wp2_with (first | ((with_reducible refine gate_dst (N := 84) rfl ?_); refine fr_load rfl rfl rfl HA.out (by first | exact List.mem_cons_self | exact List.mem_cons_of_mem _ List.mem_cons_self | exact List.mem_cons_of_mem _ (List.mem_cons_of_mem _ List.mem_cons_self) | exact List.mem_cons_of_mem _ (List.mem_cons_of_mem _ (List.mem_cons_of_mem _ List.mem_cons_self))) ?_) | ((with_reducible refine gate_dst (N := 85) rfl ?_); refine fr_load rfl rfl rfl HA.out (by first | exact List.mem_cons_self | exact List.mem_cons_of_mem _ List.mem_cons_self | exact List.mem_cons_of_mem _ (List.mem_cons_of_mem _ List.mem_cons_self) | exact List.mem_cons_of_mem _ (List.mem_cons_of_mem _ (List.mem_cons_of_mem _ List.mem_cons_self))) ?_))
      have hcall := frSub_calls k A0 c0 l0 a b HFA.out HFB.out vb sb _ (Kd.C_below HR0.out HA.out.below) HC0.out HVA.out.1 HVB.out.1 HSB2.out
      rw [HU.out] at hcall
      refine hcall.mono ?_
      clear hcall
      rintro e w_ ⟨rfl, hb⟩
      replace HA := Aside0.mk (HA.out.step hb)
      clear hb
      cases u with
      | false =>
        go_wp2
        go_ret
        exact ⟨rfl, HA.out.below⟩
      | true =>
        obtain ⟨v, hv, hv2⟩ : ∃ v, frEq a b = v ∧ (v = false → n < m) := ⟨_, rfl, fun h => (HU2.out rfl).elim (fun e => by rw [e, frEq_self] at h; cases h) id⟩
        have HVQ := Aside0.mk hv
        have HV2 := Aside0.mk hv2
        clear hv hv2
        cases v with
        | true =>
          go_wp2_with (first | ((with_reducible refine gate_dst (N := 89) rfl ?_); refine fr_guard rfl (by rfl) ?_; dsimp only; refine fr_load rfl rfl rfl HA.out (by first | exact List.mem_cons_self | exact List.mem_cons_of_mem _ List.mem_cons_self | exact List.mem_cons_of_mem _ (List.mem_cons_of_mem _ List.mem_cons_self) | exact List.mem_cons_of_mem _ (List.mem_cons_of_mem _ (List.mem_cons_of_mem _ List.mem_cons_self))) ?_) | ((with_reducible refine gate_dst (N := 90) rfl ?_); refine fr_guard rfl (by rfl) ?_; dsimp only; refine fr_load rfl rfl rfl HA.out (by first | exact List.mem_cons_self | exact List.mem_cons_of_mem _ List.mem_cons_self | exact List.mem_cons_of_mem _ (List.mem_cons_of_mem _ List.mem_cons_self) | exact List.mem_cons_of_mem _ (List.mem_cons_of_mem _ (List.mem_cons_of_mem _ List.mem_cons_self))) ?_) | ((with_reducible refine gate_dst (N := 91) rfl ?_); refine fr_guard rfl (by rfl) ?_; dsimp only; refine fr_eql rfl rfl (f := a) (g := b) rfl rfl HFA.out HFB.out ?_; rw [HVQ.out]))
          go_ret
          exact ⟨rfl, HA.out.below⟩
        | false =>
          have d6 : decide (n < m) = true := decide_eq_true (HV2.out rfl)
          go_wp2_with (first | ((with_reducible refine gate_dst (N := 89) rfl ?_); refine fr_guard rfl (by rfl) ?_; dsimp only; refine fr_load rfl rfl rfl HA.out (by first | exact List.mem_cons_self | exact List.mem_cons_of_mem _ List.mem_cons_self | exact List.mem_cons_of_mem _ (List.mem_cons_of_mem _ List.mem_cons_self) | exact List.mem_cons_of_mem _ (List.mem_cons_of_mem _ (List.mem_cons_of_mem _ List.mem_cons_self))) ?_) | ((with_reducible refine gate_dst (N := 90) rfl ?_); refine fr_guard rfl (by rfl) ?_; dsimp only; refine fr_load rfl rfl rfl HA.out (by first | exact List.mem_cons_self | exact List.mem_cons_of_mem _ List.mem_cons_self | exact List.mem_cons_of_mem _ (List.mem_cons_of_mem _ List.mem_cons_self) | exact List.mem_cons_of_mem _ (List.mem_cons_of_mem _ (List.mem_cons_of_mem _ List.mem_cons_self))) ?_) | ((with_reducible refine gate_dst (N := 91) rfl ?_); refine fr_guard rfl (by rfl) ?_; dsimp only; refine fr_eql rfl rfl (f := a) (g := b) rfl rfl HFA.out HFB.out ?_; rw [HVQ.out]))
          go_ret
          exact ⟨rfl, HA.out.below⟩

end Go.Proofs.Ytgjnmpgmbhbbhaa.P

end

section
namespace Go.Proofs.Ytgjnmpgmbhbbhaa.P
open Go.RowKit Go.Proofs.YtgjnmpgmbhbbhaaW.PrintWords
def provisolaw03_FramesRanks.Pure : Prop := ∀ (l0 : List (S59)) (a1_0 : Int) (a1_1 : Int) (a1_2 : List (Int)) (a2_0 : Int) (a2_1 : Int) (a2_2 : List (Int)), (fun l : List (S59) => l.length ≤ 9223372036854775807 ∧ l.length * 48 ≤ 140737488351232 ∧ ∀ x ∈ l, Ok59 x) l0 → (fun n : Int => (Lit.int .i64 n).wf = true) a1_0 → (fun n : Int => (Lit.int .i64 n).wf = true) a1_1 → (fun l : List (Int) => l.length = 24 ∧ ∀ x ∈ l, (fun n : Int => (Lit.int .u8 n).wf = true) x) a1_2 → (fun n : Int => (Lit.int .i64 n).wf = true) a2_0 → (fun n : Int => (Lit.int .i64 n).wf = true) a2_1 → (fun l : List (Int) => l.length = 24 ∧ ∀ x ∈ l, (fun n : Int => (Lit.int .u8 n).wf = true) x) a2_2 → provisolaw03_FramesRanks.Facts l0 a1_0 a1_1 a1_2 a2_0 a2_1 a2_2
end Go.Proofs.Ytgjnmpgmbhbbhaa.P

end

section
namespace Go.Proofs.Ytgjnmpgmbhbbhaa.P
open Go.RowKit Go.Proofs.YtgjnmpgmbhbbhaaW.PrintWords Go.Proofs.YtgjnmpgmbhbbhaaW.PrintLast Go.Proofs.YtgjnmpgmbhbbhaaW.PrintMore
set_option linter.unusedVariables false
set_option linter.unusedSimpArgs false

theorem w_next {i : Int} {n : Nat} (h0 : 0 ≤ i) (h : i < (n : Int)) (hn : n ≤ 9223372036854775807) : wrap64 (i + 1) = i + 1 := by
  unfold wrap64
  omega

def sign (i c : Int) : Bool :=
  (decide (97 ≤ c) && decide (c ≤ 122)) || (decide (65 ≤ c) && decide (c ≤ 90)) || (decide (0 < i) && ((decide (48 ≤ c) && decide (c ≤ 57)) || decide (c = 95)))
def tailOk (s : ByteArray) : Nat → Bool
  | 0 => true
  | d + 1 => sign ((s.size : Int) - (d + 1)) (bt s ((s.size : Int) - (d + 1))) && tailOk s d
def nameOk (s : ByteArray) : Bool := decide (1 ≤ s.size) && decide (s.size ≤ 24) && tailOk s s.size
theorem ref_name_tail (s : ByteArray) (hn : s.size ≤ 140737488351232) (d : Nat) : ∀ (i : Int), 0 ≤ i → i ≤ s.size → (s.size : Int) - i = d → Ev (fun k => provisoref02_IsName.l0 k s i) (tailOk s d) := by
  induction d with
  | zero =>
    intro i h0 h1 hd
    exact Ev.step (f := fun _ => some true) (fun k => by simp only [provisoref02_IsName.l0]; rw [if_neg (by omega)]) (Ev.now _)
  | succ d ih =>
    intro i h0 h1 hd
    have hlt : i < (s.size : Int) := by omega
    have hi : (s.size : Int) - (d + 1) = i := by omega
    have h := ih (i + 1) (by omega) (by omega) (by omega)
    cases hs : sign i (bt s i) with
    | true =>
      refine Ev.step (fun k => ?_) (show Ev _ (tailOk s (d + 1)) from by simp only [tailOk, hi, hs, Bool.true_and]; exact h)
      simp only [provisoref02_IsName.l0]
      rw [if_pos hlt, if_pos h0, w_next h0 hlt (by omega)]
      revert hs
      generalize bt s i = c
      intro hs
      by_cases a1 : 97 ≤ c <;> by_cases a2 : c ≤ 122 <;> by_cases a3 : 65 ≤ c <;> by_cases a4 : c ≤ 90 <;> by_cases a5 : i = 0 <;> by_cases a6 : c < 48 <;> by_cases a7 : 57 < c <;> by_cases a8 : c = 95 <;> (try omega) <;> (have a9 : 0 < i ∨ i = 0 := by omega) <;> simp [sign, a1, a2, a3, a4, a5, a6, a7, a8] at hs ⊢ <;> omega
    | false =>
      refine Ev.step (f := fun _ => some false) (fun k => ?_) (show Ev _ (tailOk s (d + 1)) from by simp only [tailOk, hi, hs, Bool.false_and]; exact Ev.now _)
      simp only [provisoref02_IsName.l0]
      rw [if_pos hlt, if_pos h0, w_next h0 hlt (by omega)]
      revert hs
      generalize bt s i = c
      intro hs
      by_cases a1 : 97 ≤ c <;> by_cases a2 : c ≤ 122 <;> by_cases a3 : 65 ≤ c <;> by_cases a4 : c ≤ 90 <;> by_cases a5 : i = 0 <;> by_cases a6 : c < 48 <;> by_cases a7 : 57 < c <;> by_cases a8 : c = 95 <;> (try omega) <;> (have a9 : 0 < i ∨ i = 0 := by omega) <;> simp [sign, a1, a2, a3, a4, a5, a6, a7, a8] at hs ⊢ <;> omega
theorem ref_name (s : ByteArray) (hn : s.size ≤ 140737488351232) : Ev (fun k => provisoref02_IsName.f k s) (nameOk s) := by
  have h := ref_name_tail s hn s.size 0 (by omega) (by omega) (by omega)
  by_cases a1 : (s.size : Int) < 1
  · have e : nameOk s = false := by unfold nameOk; rw [decide_eq_false (by omega)]; simp
    rw [e]
    refine Ev.congr (f := fun k => provisoref02_IsName.j0 k s true) (fun k => by unfold provisoref02_IsName.f; rw [if_pos a1]) ?_
    exact Ev.step (f := fun _ => some false) (fun k => by simp only [provisoref02_IsName.j0]; rfl) (Ev.now _)
  · refine Ev.congr (f := fun k => provisoref02_IsName.j0 k s (decide ((s.size : Int) > 24))) (fun k => by unfold provisoref02_IsName.f; rw [if_neg a1]) ?_
    by_cases a2 : (s.size : Int) > 24
    · have e : nameOk s = false := by unfold nameOk; rw [decide_eq_false (p := s.size ≤ 24) (by omega)]; simp
      rw [e]
      exact Ev.step (f := fun _ => some false) (fun k => by simp only [provisoref02_IsName.j0]; simp [a2]) (Ev.now _)
    · have e : nameOk s = tailOk s s.size := by unfold nameOk; rw [decide_eq_true (p := s.size ≤ 24) (by omega), decide_eq_true (p := 1 ≤ s.size) (by omega)]; simp
      rw [e]
      exact Ev.step (fun k => by simp only [provisoref02_IsName.j0]; simp [a2]) h

theorem str_eq (a b : ByteArray) : a.toList = b.toList ↔ a = b :=
  ⟨fun h => by rw [ByteArray.toList_eq, ByteArray.toList_eq] at h; exact Go.WideShapes.bytes_inj h, fun h => by rw [h]⟩
def words6 : List ByteArray := [⟨#[116, 111, 112]⟩, ⟨#[105, 110, 116]⟩, ⟨#[98, 111, 111, 108]⟩, ⟨#[110, 117, 108, 108]⟩, ⟨#[105, 110, 116, 115]⟩, ⟨#[97, 110, 121]⟩]
def isWordB (s : ByteArray) : Bool := words6.any fun t => decide (t = s)
theorem ref_word (s : ByteArray) : Ev (fun k => provisoref02_isWord.f k s) (isWordB s) := by
  have step : ∀ (x : Int) (t : ByteArray) (r : Bool), 0 ≤ x → x ≤ 5 → provisoref02_word.f x = some t → Ev (fun k => provisoref02_isWord.l0 k s (x + 1)) r → Ev (fun k => provisoref02_isWord.l0 k s x) (decide (t = s) || r) := by
    intro x t r h0 h5 ht h
    by_cases e : t = s
    · rw [decide_eq_true e, Bool.true_or]
      exact Ev.step (f := fun _ => some true) (fun k => by simp only [provisoref02_isWord.l0]; rw [if_pos (by omega), ht]; simp [e]) (Ev.now _)
    · rw [decide_eq_false e, Bool.false_or]
      refine Ev.step (fun k => ?_) h
      simp only [provisoref02_isWord.l0]
      rw [if_pos (by omega), ht]
      simp only [Option.bind_some, str_eq]
      rw [if_neg e, show (x + 1) % 256 = x + 1 from by omega]
  have h6 : Ev (fun k => provisoref02_isWord.l0 k s 6) false := Ev.step (f := fun _ => some false) (fun k => by simp only [provisoref02_isWord.l0]; rw [if_neg (by omega)]) (Ev.now _)
  have h := step 0 _ _ (by omega) (by omega) rfl (step 1 _ _ (by omega) (by omega) rfl (step 2 _ _ (by omega) (by omega) rfl (step 3 _ _ (by omega) (by omega) rfl (step 4 _ _ (by omega) (by omega) rfl (step 5 _ _ (by omega) (by omega) rfl h6)))))
  exact h

abbrev Tbl := List S59
def par (l : Tbl) (c : Int) : Int := (rd_T59 l c).f1
def nam (l : Tbl) (c : Int) : ByteArray := (rd_T59 l c).f0
def own (l : Tbl) (c : Int) : List S62 := (rd_T59 l c).f2
def Dec (l : Tbl) (n : Int) : Prop := ∀ i : Int, 0 ≤ i → i < n → par l i < i
def fieldsOf (l : Tbl) (c : Int) : List S62 := (climbL l c).reverse.flatMap fun i => own l i
theorem line_tells (l : Tbl) (n : Int) (hn : n ≤ l.length) (hl : l.length * 48 ≤ 140737488351232) (hd : Dec l n) : ∀ (d : Nat) (c : Int) (acc : List Int), c < n → (c + 1).toNat ≤ d → (acc.length : Int) + c < l.length → acc.length ≤ l.length →
    Ev (fun k => provisoref02_Line.l0 k l c acc) (acc ++ climbL l c)
  | 0, c, acc, _, h, _, _ => by
    rw [climbL_out l c (by omega), List.append_nil]
    exact Ev.step (f := fun _ => some acc) (fun k => by simp only [provisoref02_Line.l0]; rw [if_neg (by omega)]) (Ev.now _)
  | d + 1, c, acc, hc, hcd, ha, ha2 => by
    by_cases h0 : 0 ≤ c
    · have hp := hd c h0 hc
      have hcl : c < (l.length : Int) := by omega
      rw [climbL_in l c h0 hcl hp]
      have hx := line_tells l n hn hl hd d (par l c) (acc ++ [c]) (by omega) (by omega) (by simp; omega) (by simp; omega)
      rw [List.append_assoc] at hx
      refine Ev.step (fun k => ?_) hx
      simp only [provisoref02_Line.l0]
      rw [if_pos h0, if_pos hcl, if_pos (by omega), if_pos (by omega), if_pos h0]
      rfl
    · rw [climbL_out l c (by omega), List.append_nil]
      exact Ev.step (f := fun _ => some acc) (fun k => by simp only [provisoref02_Line.l0]; rw [if_neg (by omega)]) (Ev.now _)
theorem ref_line (l : Tbl) (n : Int) (hn : n ≤ l.length) (hl : l.length * 48 ≤ 140737488351232) (hd : Dec l n) (c : Int) (hc : c < n) : Ev (fun k => provisoref02_Line.f k l c) (climbL l c) := by
  by_cases h0 : l.length = 0
  · rw [climbL_out l c (by omega)]
    refine Ev.congr (f := fun k => provisoref02_Line.l0 k l c []) (fun k => rfl) ?_
    exact Ev.step (f := fun _ => some []) (fun k => by simp only [provisoref02_Line.l0]; rw [if_neg (by omega)]) (Ev.now _)
  · have := line_tells l n hn hl hd (c + 1).toNat c [] hc (Nat.le_refl _) (by simp; omega) (by simp)
    rw [List.nil_append] at this
    exact this
theorem fields_tells (l : Tbl) (line : List Int) (hm : ∀ x ∈ line, 0 ≤ x ∧ x < (l.length : Int)) (hl : l.length * 48 ≤ 140737488351232) (hll : line.length ≤ l.length) (hlim : (line.reverse.flatMap fun i => own l i).length < 5864062014805) : ∀ (d : Nat), d ≤ line.length →
    Ev (fun k => provisoref02_Fields.l0 k l line ((line.drop d).reverse.flatMap fun i => own l i) ((d : Int) - 1)) (line.reverse.flatMap fun i => own l i)
  | 0, _ => by
    rw [List.drop_zero]
    exact Ev.step (f := fun _ => some _) (fun k => by simp only [provisoref02_Fields.l0]; rw [if_neg (by omega)]) (Ev.now _)
  | d + 1, hd => by
    have ih := fields_tells l line hm hl hll hlim d (by omega)
    have hrd : rd line ((d : Nat) : Int) = line[d]'(by omega) := by simp [rd, List.getD_eq_getElem?_getD, show d < line.length by omega]
    have hmd := hm (line[d]'(by omega)) (List.getElem_mem _)
    have e1 : ((line.drop d).reverse.flatMap fun i => own l i) = ((line.drop (d + 1)).reverse.flatMap fun i => own l i) ++ own l (line[d]'(by omega)) := by
      rw [List.drop_eq_getElem_cons (by omega), List.reverse_cons, List.flatMap_append]
      simp
    have hle : ((line.drop d).reverse.flatMap fun i => own l i).length ≤ (line.reverse.flatMap fun i => own l i).length := by
      have : line = line.take d ++ line.drop d := by simp
      conv => rhs; rw [this, List.reverse_append, List.flatMap_append, List.length_append]
      omega
    rw [e1] at ih hle
    rw [List.length_append] at hle
    refine Ev.step (fun k => ?_) ih
    simp only [provisoref02_Fields.l0]
    rw [show ((d + 1 : Nat) : Int) - 1 = (d : Int) by omega, hrd, if_pos (by omega), if_pos (by omega), if_pos (by omega), if_pos hmd.1, if_pos hmd.2]
    rw [if_pos (by unfold own at hle hlim ⊢; omega), show wrap64 ((d : Int) - 1) = (d : Int) - 1 by unfold wrap64; omega]
    rfl
theorem ref_fields (l : Tbl) (n : Int) (hn : n ≤ l.length) (hl : l.length * 48 ≤ 140737488351232) (hd : Dec l n) (c : Int) (hc : c < n) (hlim : (fieldsOf l c).length < 5864062014805) : Ev (fun k => provisoref02_Fields.f k l c) (fieldsOf l c) := by
  have hll := climbL_length l c
  have h := fields_tells l (climbL l c) (climbL_mem l c) hl hll hlim (climbL l c).length (Nat.le_refl _)
  rw [List.drop_length, List.reverse_nil, List.flatMap_nil] at h
  refine Ev.congr (fun k => rfl) (Ev.bind (ref_line l n hn hl hd c hc) (f := fun k t => provisoref02_Fields.l0 k l t [] (wrap64 ((t.length : Int) - 1))) ?_)
  rw [show wrap64 (((climbL l c).length : Int) - 1) = ((climbL l c).length : Int) - 1 by unfold wrap64; omega]
  exact h

def hasB (fs : List S62) (s : ByteArray) : Bool := fs.any fun f => decide (f.f0 = s)
theorem has_tells (fs : List S62) (s : ByteArray) (hl : fs.length ≤ 9223372036854775807) : ∀ (d i : Nat), fs.length - i = d → i ≤ fs.length → Ev (fun k => provisoref02_has.l0 k fs s (i : Int)) (hasB (fs.drop i) s)
  | 0, i, hd, hi => by
    rw [List.drop_of_length_le (by omega)]
    exact Ev.step (f := fun _ => some false) (fun k => by simp only [provisoref02_has.l0]; rw [if_neg (by omega)]) (Ev.now _)
  | d + 1, i, hd, hi => by
    have ih := has_tells fs s hl d (i + 1) (by omega) (by omega)
    have hlt : i < fs.length := by omega
    have hrd : rd_T62 fs ((i : Nat) : Int) = fs[i] := by simp [rd_T62, List.getD_eq_getElem?_getD, hlt]
    rw [List.drop_eq_getElem_cons hlt]
    by_cases e : fs[i].f0 = s
    · have e2 : hasB (fs[i] :: fs.drop (i + 1)) s = true := by unfold hasB; rw [List.any_cons, decide_eq_true e, Bool.true_or]
      rw [e2]
      exact Ev.step (f := fun _ => some true) (fun k => by simp only [provisoref02_has.l0]; rw [if_pos (by omega), if_pos (by omega), hrd]; simp [e]) (Ev.now _)
    · have e2 : hasB (fs[i] :: fs.drop (i + 1)) s = hasB (fs.drop (i + 1)) s := by unfold hasB; rw [List.any_cons, decide_eq_false e, Bool.false_or]
      rw [e2]
      refine Ev.step (fun k => ?_) ih
      simp only [provisoref02_has.l0]
      rw [if_pos (by omega), if_pos (by omega), hrd, if_neg (by rw [str_eq]; exact e), w_next (n := fs.length) (by omega) (by omega) hl]
      rfl
theorem ref_has (fs : List S62) (s : ByteArray) (hl : fs.length ≤ 9223372036854775807) : Ev (fun k => provisoref02_has.f k fs s) (hasB fs s) := by
  have := has_tells fs s hl fs.length 0 (by omega) (by omega)
  rw [List.drop_zero] at this
  exact this
def validB (l : Tbl) (a : Int) : Bool := decide (a ≤ 5) || (decide (16 ≤ a) && decide (a - 16 < (l.length : Int)))
theorem ref_valid (l : Tbl) (a : Int) (ha : 0 ≤ a ∧ a ≤ 255) : provisoref02_Valid.f l a = some (validB l a) := by
  unfold provisoref02_Valid.f validB
  by_cases h1 : a ≤ 5
  · simp [h1]
  · by_cases h2 : a ≥ 16
    · rw [if_neg h1, if_pos h2, show (a - 16) % 256 = a - 16 by omega]
      simp [h1, h2]
    · rw [if_neg h1, if_neg h2]
      simp [h1, h2]
def storedB (l : Tbl) (a : Int) : Bool := validB l a && decide (a ≠ 0) && decide (a ≠ 3)
theorem ref_stored (l : Tbl) (a : Int) (ha : 0 ≤ a ∧ a ≤ 255) : provisoref02_Stored.f l a = some (storedB l a) := by
  unfold provisoref02_Stored.f storedB
  rw [ref_valid l a ha]
  simp only [Option.bind_some]
  cases validB l a <;> by_cases h0 : a = 0 <;> by_cases h3 : a = 3 <;> simp [h0, h3]
end Go.Proofs.Ytgjnmpgmbhbbhaa.P


end

section
namespace Go.Proofs.Ytgjnmpgmbhbbhaa.P
open Go.RowKit Go.Proofs.YtgjnmpgmbhbbhaaW.PrintWords Go.Proofs.YtgjnmpgmbhbbhaaW.PrintLast Go.Proofs.YtgjnmpgmbhbbhaaW.PrintMore
set_option linter.unusedVariables false
set_option linter.unusedSimpArgs false

def Sane (l : Tbl) : Prop := l.length ≤ 9223372036854775807 ∧ l.length * 48 ≤ 140737488351232 ∧ ∀ x ∈ l, Ok59 x
theorem rd_mem (l : Tbl) (c : Int) (h0 : 0 ≤ c) (h1 : c < (l.length : Int)) : rd_T59 l c ∈ l := by
  have h : c.toNat < l.length := by omega
  simp [rd_T59, List.getD_eq_getElem?_getD, h]
theorem Sane.size {l : Tbl} (h : Sane l) : l.length ≤ 2932031007320 := by have := h.2.1; omega
theorem Sane.nam {l : Tbl} (h : Sane l) {c : Int} (h0 : 0 ≤ c) (h1 : c < (l.length : Int)) : (nam l c).size ≤ 140737488351232 := (h.2.2 _ (rd_mem l c h0 h1)).1
theorem Sane.par {l : Tbl} (h : Sane l) {c : Int} (h0 : 0 ≤ c) (h1 : c < (l.length : Int)) : -9223372036854775808 ≤ par l c ∧ par l c ≤ 9223372036854775807 := by
  have := (h.2.2 _ (rd_mem l c h0 h1)).2.1
  simp [Lit.wf, IntKind.min, IntKind.max, IntKind.signed, IntKind.bits] at this
  exact this
theorem Sane.own {l : Tbl} (h : Sane l) {c : Int} (h0 : 0 ≤ c) (h1 : c < (l.length : Int)) : (own l c).length * 24 ≤ 140737488351232 ∧ ∀ x ∈ own l c, x.f0.size ≤ 140737488351232 ∧ (0 ≤ x.f1 ∧ x.f1 ≤ 255) := by
  obtain ⟨_, h2, h3⟩ := (h.2.2 _ (rd_mem l c h0 h1)).2.2
  refine ⟨h2, fun x hx => ⟨(h3 x hx).1, ?_⟩⟩
  have := (h3 x hx).2
  simp [Lit.wf, IntKind.min, IntKind.max, IntKind.signed, IntKind.bits] at this
  exact this

theorem nam_eq (l : Tbl) (i : Int) (s : ByteArray) : (rd_T59 l i).f0.toList = s.toList ↔ nam l i = s := str_eq _ _

def fieldFaultFrom (l : Tbl) (all fs : List S62) : Nat → Nat → Int
  | 0, _ => if (fs.length : Int) > 32 - (all.length : Int) then 4 else 0
  | d + 1, i => if nameOk (rd_T62 fs i).f0 = true then (if hasB all (rd_T62 fs i).f0 = true then 20 else if hasB (fs.take i) (rd_T62 fs i).f0 = true then 20 else if storedB l (rd_T62 fs i).f1 = true then fieldFaultFrom l all fs d (i + 1) else 22) else 6
def fieldFault (l : Tbl) (all fs : List S62) : Int := fieldFaultFrom l all fs fs.length 0
def aheadFrom (l : Tbl) (c : Int) : Nat → Bool
  | 0 => false
  | d + 1 => decide (nam l (c - (d + 1)) = nam l c) || aheadFrom l c d
def aheadB (l : Tbl) (c : Int) : Bool := aheadFrom l c c.toNat
def parFault (l : Tbl) (c : Int) : Int := if par l c < -1 then 21 else if par l c ≥ c then 21 else fieldFault l (fieldsOf l (par l c)) (own l c)
def faultB (l : Tbl) (c : Int) : Int :=
  if c ≥ 32 then 4 else if nameOk (nam l c) = true then (if isWordB (nam l c) = true then 6 else if aheadB l c = true then 20 else parFault l c) else 6

theorem fields_fault (l : Tbl) (all fs : List S62) (h1 : all.length ≤ 5864062014805) (h2 : fs.length * 24 ≤ 140737488351232) (h3 : ∀ x ∈ fs, x.f0.size ≤ 140737488351232 ∧ (0 ≤ x.f1 ∧ x.f1 ≤ 255)) (nm : ByteArray) (pr : Int) : ∀ (d i : Nat), fs.length - i = d → i ≤ fs.length →
    Ev (fun k => provisoref02_fault.l1 k l all (i : Int) nm pr fs) (fieldFaultFrom l all fs d i)
  | 0, i, hd, hi => by
    unfold fieldFaultFrom
    refine Ev.step (f := fun _ => some _) (fun k => ?_) (Ev.now _)
    simp only [provisoref02_fault.l1]
    rw [if_neg (by omega), show wrap64 (32 - (all.length : Int)) = 32 - (all.length : Int) by unfold wrap64; omega]
    split <;> rfl
  | d + 1, i, hd, hi => by
    have hlt : i < fs.length := by omega
    have hrd : rd_T62 fs ((i : Nat) : Int) = fs[i] := by simp [rd_T62, List.getD_eq_getElem?_getD, hlt]
    obtain ⟨hs, ht⟩ := h3 fs[i] (List.getElem_mem _)
    have ih := fields_fault l all fs h1 h2 h3 nm pr d (i + 1) (by omega) (by omega)
    unfold fieldFaultFrom
    rw [hrd]
    refine Ev.step (fun k => by simp only [provisoref02_fault.l1]; rw [if_pos (by omega), if_pos (by omega), hrd]) ?_
    refine Ev.bind (f := fun k t => if t = true then _ else _) (ref_name _ hs) ?_
    cases nameOk fs[i].f0 with
    | false => exact Ev.now _
    | true =>
      refine Ev.bind (f := fun k t => if t = true then _ else _) (ref_has all _ (by omega)) ?_
      cases hasB all fs[i].f0 with
      | true => exact Ev.now _
      | false =>
        refine Ev.congr (f := fun k => (provisoref02_has.f k (fs.take i) fs[i].f0).bind _) (fun k => by
          show (if (i : Int) ≤ (fs.length : Int) then _ else _) = _
          rw [if_pos (by omega), Int.toNat_natCast]) ?_
        refine Ev.bind (f := fun k t => if t = true then _ else _) (ref_has (fs.take i) _ (by simp; omega)) ?_
        cases hasB (fs.take i) fs[i].f0 with
        | true => exact Ev.now _
        | false =>
          refine Ev.congr (f := fun k => if storedB l fs[i].f1 = true then _ else _) (fun k => by
            show (provisoref02_Stored.f l fs[i].f1).bind _ = _
            rw [ref_stored l _ ht]
            rfl) ?_
          cases storedB l fs[i].f1 with
          | false => exact Ev.now _
          | true =>
            refine Ev.congr (fun k => ?_) ih
            show provisoref02_fault.l1 k l all (wrap64 ((i : Int) + 1)) nm pr fs = _
            rw [w_next (n := fs.length) (by omega) (by omega) (by omega)]
            rfl
theorem par_fault (l : Tbl) (hs : Sane l) (c : Int) (h0 : 0 ≤ c) (h1 : c < (l.length : Int)) (hd : Dec l c) (hlim : ∀ p : Int, -1 ≤ p → p < c → (fieldsOf l p).length ≤ 32) :
    Ev (fun k => provisoref02_fault.l0 k l c c (nam l c) (par l c) (own l c)) (parFault l c) := by
  unfold parFault
  have hj : Ev (fun k => provisoref02_fault.j2 k l true (nam l c) (par l c) (own l c)) 21 := Ev.step (f := fun _ => some 21) (fun k => by simp only [provisoref02_fault.j2]; rfl) (Ev.now _)
  by_cases p1 : par l c < -1
  · rw [if_pos p1]
    exact Ev.step (fun k => by simp only [provisoref02_fault.l0]; rw [if_neg (by omega), if_pos p1]) hj
  · rw [if_neg p1]
    by_cases p2 : par l c ≥ c
    · rw [if_pos p2]
      exact Ev.step (fun k => by simp only [provisoref02_fault.l0]; rw [if_neg (by omega), if_neg p1, decide_eq_true p2]) hj
    · rw [if_neg p2]
      refine Ev.step (f := fun k => provisoref02_fault.j2 k l false (nam l c) (par l c) (own l c)) (fun k => by simp only [provisoref02_fault.l0]; rw [if_neg (by omega), if_neg p1, decide_eq_false p2]) ?_
      have hlp := hlim (par l c) (by omega) (by omega)
      refine Ev.step (f := fun k => (provisoref02_Fields.f k l (par l c)).bind fun t => provisoref02_fault.l1 k l t 0 (nam l c) (par l c) (own l c)) (fun k => by simp only [provisoref02_fault.j2]; rfl) ?_
      refine Ev.bind (f := fun k t => provisoref02_fault.l1 k l t 0 (nam l c) (par l c) (own l c)) (ref_fields l c (by omega) hs.2.1 hd (par l c) (by omega) (by omega)) ?_
      exact fields_fault l _ (own l c) (by omega) (hs.own h0 h1).1 (hs.own h0 h1).2 _ _ _ 0 (by omega) (by omega)
theorem ahead_fault (l : Tbl) (hs : Sane l) (c : Int) (h0 : 0 ≤ c) (h1 : c < (l.length : Int)) (hd : Dec l c) (hlim : ∀ p : Int, -1 ≤ p → p < c → (fieldsOf l p).length ≤ 32) : ∀ (d : Nat), (d : Int) ≤ c →
    Ev (fun k => provisoref02_fault.l0 k l c (c - d) (nam l c) (par l c) (own l c)) (if aheadFrom l c d = true then 20 else parFault l c)
  | 0, _ => by
    have := par_fault l hs c h0 h1 hd hlim
    simpa [aheadFrom] using this
  | d + 1, hdc => by
    have ih := ahead_fault l hs c h0 h1 hd hlim d (by omega)
    have hsz := hs.size
    have e1 : c - ((d : Int) + 1) + 1 = c - d := by omega
    by_cases e : nam l (c - ((d : Int) + 1)) = nam l c
    · have e2 : aheadFrom l c (d + 1) = true := by unfold aheadFrom; rw [decide_eq_true e, Bool.true_or]
      rw [e2, if_pos rfl]
      refine Ev.step (f := fun _ => some 20) (fun k => ?_) (Ev.now _)
      show provisoref02_fault.l0 (k + 1) l c (c - ((d : Int) + 1)) (nam l c) (par l c) (own l c) = _
      simp only [provisoref02_fault.l0]
      rw [if_pos (by omega), if_pos (by omega), if_pos (by omega), if_pos ((nam_eq l _ _).mpr e)]
    · have e2 : aheadFrom l c (d + 1) = aheadFrom l c d := by conv => lhs; unfold aheadFrom
                                                              rw [decide_eq_false e, Bool.false_or]
      rw [e2]
      refine Ev.step (fun k => ?_) ih
      show provisoref02_fault.l0 (k + 1) l c (c - ((d : Int) + 1)) (nam l c) (par l c) (own l c) = _
      simp only [provisoref02_fault.l0]
      rw [if_pos (by omega), if_pos (by omega), if_pos (by omega), if_neg (fun h9 => e ((nam_eq l _ _).mp h9)), show wrap64 (c - ((d : Int) + 1) + 1) = c - d by rw [e1]; unfold wrap64; omega]
theorem ref_fault (l : Tbl) (hs : Sane l) (c : Int) (h0 : 0 ≤ c) (h1 : c < (l.length : Int)) (hd : Dec l c) (hlim : ∀ p : Int, -1 ≤ p → p < c → (fieldsOf l p).length ≤ 32) : Ev (fun k => provisoref02_fault.f k l c) (faultB l c) := by
  unfold faultB
  have ha := ahead_fault l hs c h0 h1 hd hlim c.toNat (by omega)
  rw [show c - (c.toNat : Int) = 0 by omega] at ha
  have hj : ∀ b : Bool, Ev (fun k => provisoref02_fault.j0 k l c b (nam l c) (par l c) (own l c)) (if b = true then 6 else if aheadB l c = true then 20 else parFault l c) := by
    intro b
    cases b with
    | true => exact Ev.step (f := fun _ => some 6) (fun k => by simp only [provisoref02_fault.j0]; rfl) (Ev.now _)
    | false => exact Ev.step (fun k => by simp only [provisoref02_fault.j0]; rfl) ha
  by_cases h32 : c ≥ 32
  · rw [if_pos h32]
    exact Ev.congr (f := fun _ => some 4) (fun k => by unfold provisoref02_fault.f; rw [if_pos h0, if_pos h1, if_pos h32]) (Ev.now _)
  · rw [if_neg h32]
    refine Ev.congr (fun k => by unfold provisoref02_fault.f; rw [if_pos h0, if_pos h1, if_neg h32]; rfl) (Ev.bind (f := fun k t => if t = true then ((provisoref02_isWord.f k (nam l c)).bind fun t119 => provisoref02_fault.j0 k l c t119 (nam l c) (par l c) (own l c)) else provisoref02_fault.j0 k l c true (nam l c) (par l c) (own l c)) (ref_name _ (hs.nam h0 h1)) ?_)
    have hjt := hj true
    cases nameOk (nam l c) with
    | false => exact hjt
    | true => exact Ev.bind (f := fun k t => provisoref02_fault.j0 k l c t (nam l c) (par l c) (own l c)) (ref_word _) (hj _)

def GoodTo (l : Tbl) (n : Int) : Prop := ∀ c : Int, 0 ≤ c → c < n → faultB l c = 0
theorem field_fault_long (l : Tbl) (all fs : List S62) : ∀ (d i : Nat), fieldFaultFrom l all fs d i = 0 → (fs.length : Int) ≤ 32 - all.length
  | 0, i, h => by
    unfold fieldFaultFrom at h
    split at h <;> omega
  | d + 1, i, h => by
    unfold fieldFaultFrom at h
    split at h
    · split at h
      · omega
      · split at h
        · omega
        · split at h
          · exact field_fault_long l all fs d (i + 1) h
          · omega
    · omega
theorem fault_zero {l : Tbl} {c : Int} (h : faultB l c = 0) : c < 32 ∧ nameOk (nam l c) = true ∧ isWordB (nam l c) = false ∧ aheadB l c = false ∧ -1 ≤ par l c ∧ par l c < c ∧ fieldFault l (fieldsOf l (par l c)) (own l c) = 0 := by
  unfold faultB parFault at h
  split at h
  · omega
  · split at h
    · split at h
      · omega
      · split at h
        · omega
        · split at h
          · omega
          · split at h
            · omega
            · rename_i h1 h2 h3 h4 h5 h6
              exact ⟨by omega, h2, by simpa using h3, by simpa using h4, by omega, by omega, h⟩
    · omega
theorem GoodTo.dec {l : Tbl} {n : Int} (h : GoodTo l n) : Dec l n := fun i h0 h1 => (fault_zero (h i h0 h1)).2.2.2.2.2.1
theorem fieldsOf_in (l : Tbl) (c : Int) (h0 : 0 ≤ c) (h1 : c < (l.length : Int)) (h2 : par l c < c) : fieldsOf l c = fieldsOf l (par l c) ++ own l c := by
  unfold fieldsOf
  rw [climbL_in l c h0 h1 h2, List.reverse_cons, List.flatMap_append]
  simp [par]
theorem fieldsOf_out (l : Tbl) (c : Int) (h : ¬ (0 ≤ c ∧ c < (l.length : Int))) : fieldsOf l c = [] := by
  unfold fieldsOf
  rw [climbL_out l c h]
  rfl
theorem GoodTo.fields {l : Tbl} {n : Int} (hn : n ≤ l.length) (h : GoodTo l n) (c : Int) (hc : c < n) : (fieldsOf l c).length ≤ 32 := by
  by_cases h0 : 0 ≤ c
  · obtain ⟨_, _, _, _, h5, h6, h7⟩ := fault_zero (h c h0 hc)
    have := field_fault_long l _ _ _ _ h7
    rw [fieldsOf_in l c h0 (by omega) h6, List.length_append]
    omega
  · rw [fieldsOf_out l c (by omega)]
    simp
def checkFrom (l : Tbl) : Nat → Int → Int × Int
  | 0, _ => (0, 0)
  | d + 1, c => if faultB l c = 0 then checkFrom l d (c + 1) else (c, faultB l c)
def checkB (l : Tbl) : Int × Int := checkFrom l l.length 0
theorem check_tells (l : Tbl) (hs : Sane l) : ∀ (d : Nat) (c : Int), 0 ≤ c → (l.length : Int) - c = d → GoodTo l c → Ev (fun k => provisoref02_Check.l0 k l c) (checkFrom l d c)
  | 0, c, h0, hd, hg => by
    unfold checkFrom
    exact Ev.step (f := fun _ => some _) (fun k => by simp only [provisoref02_Check.l0]; rw [if_neg (by omega)]) (Ev.now _)
  | d + 1, c, h0, hd, hg => by
    have hf := ref_fault l hs c h0 (by omega) hg.dec (fun p hp1 hp2 => hg.fields (by omega) p hp2)
    unfold checkFrom
    refine Ev.step (fun k => by simp only [provisoref02_Check.l0]; rw [if_pos (by omega)]) (Ev.bind (f := fun k t => if t = 0 then _ else _) hf ?_)
    by_cases e : faultB l c = 0
    · rw [if_pos e]
      have hsz := hs.size
      refine Ev.congr (fun k => ?_) (check_tells l hs d (c + 1) (by omega) (by omega) (fun i hi0 hi1 => if hi : i < c then hg i hi0 hi else by rw [show i = c by omega]; exact e))
      rw [if_pos e, show wrap64 (c + 1) = c + 1 by unfold wrap64; omega]
    · rw [if_neg e]
      exact Ev.congr (f := fun _ => some _) (fun k => by rw [if_neg e]) (Ev.now _)
theorem ref_check (l : Tbl) (hs : Sane l) : Ev (fun k => provisoref02_Check.f k l) (checkB l) :=
  check_tells l hs l.length 0 (by omega) (by omega) (fun i h0 h1 => by omega)
theorem checkFrom_zero (l : Tbl) : ∀ (d : Nat) (c : Int), (checkFrom l d c).2 = 0 ↔ ∀ i : Int, c ≤ i → i < c + d → faultB l i = 0
  | 0, c => by
    constructor
    · intro _ i h1 h2; omega
    · intro _; rfl
  | d + 1, c => by
    unfold checkFrom
    split
    · rename_i e
      rw [checkFrom_zero l d (c + 1)]
      constructor
      · intro h i h1 h2
        by_cases hi : i = c
        · rw [hi]; exact e
        · exact h i (by omega) (by omega)
      · intro h i h1 h2
        exact h i (by omega) (by omega)
    · rename_i e
      constructor
      · intro h; exact absurd h e
      · intro h; exact h c (by omega) (by omega)
def Good (l : Tbl) : Prop := GoodTo l l.length
theorem good_iff (l : Tbl) : (checkB l).2 = 0 ↔ Good l := by
  unfold checkB
  rw [checkFrom_zero l l.length 0]
  unfold Good GoodTo
  simp
theorem Good.short {l : Tbl} (h : Good l) : l.length ≤ 32 := by
  rcases Nat.lt_or_ge 32 l.length with h1 | h1
  · have := (fault_zero (h 32 (by omega) (by omega))).1
    omega
  · exact h1
theorem Good.dec {l : Tbl} (h : Good l) : Dec l l.length := GoodTo.dec h
end Go.Proofs.Ytgjnmpgmbhbbhaa.P


end

section
namespace Go.Proofs.Ytgjnmpgmbhbbhaa.P
open Go.RowKit Go.Proofs.YtgjnmpgmbhbbhaaW.PrintWords Go.Proofs.YtgjnmpgmbhbbhaaW.PrintLast Go.Proofs.YtgjnmpgmbhbbhaaW.PrintMore
set_option linter.unusedVariables false
set_option linter.unusedSimpArgs false

theorem u8_of {a : Int} (h : (Lit.int .u8 a).wf = true) : 0 ≤ a ∧ a ≤ 255 := by
  simp [Lit.wf, IntKind.min, IntKind.max, IntKind.signed, IntKind.bits] at h
  exact h
theorem Good.nameOk {l : Tbl} (h : Good l) {c : Int} (h0 : 0 ≤ c) (h1 : c < (l.length : Int)) : nameOk (nam l c) = true ∧ isWordB (nam l c) = false :=
  ⟨(fault_zero (h c h0 h1)).2.1, (fault_zero (h c h0 h1)).2.2.1⟩
end Go.Proofs.Ytgjnmpgmbhbbhaa.P


end

section
namespace Go.Proofs.Ytgjnmpgmbhbbhaa.P
open Go.RowKit Go.Proofs.YtgjnmpgmbhbbhaaW.PrintWords Go.Proofs.YtgjnmpgmbhbbhaaW.PrintLast Go.Proofs.YtgjnmpgmbhbbhaaW.PrintMore
set_option linter.unusedVariables false
set_option linter.unusedSimpArgs false

theorem climb_self (l : Tbl) (x : Int) (h0 : 0 ≤ x) (h1 : x < (l.length : Int)) : x ∈ climbL l x := by
  unfold climbL
  rw [climbF, if_pos ⟨h0, h1⟩]
  exact List.mem_cons_self
theorem climb_suffix {l : Tbl} (hd : Dec l l.length) : ∀ (d : Nat) (x y : Int), (x + 1).toNat ≤ d → y ∈ climbL l x → ∃ pre, climbL l x = pre ++ climbL l y
  | 0, x, y, h, hm => by
    rw [climbL_out l x (by omega)] at hm
    cases hm
  | d + 1, x, y, h, hm => by
    by_cases hx : 0 ≤ x ∧ x < (l.length : Int)
    · have hp := hd x hx.1 hx.2
      rw [climbL_in l x hx.1 hx.2 hp] at hm ⊢
      rcases List.mem_cons.1 hm with rfl | hm
      · exact ⟨[], by rw [climbL_in l y hx.1 hx.2 hp]; rfl⟩
      · obtain ⟨pre, e⟩ := climb_suffix hd d _ y (by unfold par at hp; omega) hm
        exact ⟨x :: pre, by rw [e]; rfl⟩
    · rw [climbL_out l x hx] at hm
      cases hm
theorem climb_le {l : Tbl} (hd : Dec l l.length) : ∀ (d : Nat) (x y : Int), (x + 1).toNat ≤ d → y ∈ climbL l x → y ≤ x
  | 0, x, y, h, hm => by
    rw [climbL_out l x (by omega)] at hm
    cases hm
  | d + 1, x, y, h, hm => by
    by_cases hx : 0 ≤ x ∧ x < (l.length : Int)
    · have hp := hd x hx.1 hx.2
      rw [climbL_in l x hx.1 hx.2 hp] at hm
      rcases List.mem_cons.1 hm with rfl | hm
      · exact Int.le_refl _
      · have := climb_le hd d _ y (by unfold par at hp; omega) hm
        unfold par at hp
        omega
    · rw [climbL_out l x hx] at hm
      cases hm
theorem climb_antisymm {l : Tbl} (hd : Dec l l.length) {x y : Int} (h1 : y ∈ climbL l x) (h2 : x ∈ climbL l y) : x = y := by
  have a := climb_le hd _ x y (Nat.le_refl _) h1
  have b := climb_le hd _ y x (Nat.le_refl _) h2
  omega
theorem climb_shorter {l : Tbl} (hd : Dec l l.length) {x y : Int} (h1 : y ∈ climbL l x) (hne : x ≠ y) : (climbL l y).length < (climbL l x).length := by
  obtain ⟨pre, e⟩ := climb_suffix hd _ x y (Nat.le_refl _) h1
  have hx := climbL_mem l x
  cases pre with
  | nil =>
    exfalso
    rw [List.nil_append] at e
    have hy := climbL_mem l x y h1
    have hxx : x ∈ climbL l x := by
      by_cases h : 0 ≤ x ∧ x < (l.length : Int)
      · exact climb_self l x h.1 h.2
      · rw [climbL_out l x h] at h1; cases h1
    rw [e] at hxx
    exact hne (climb_antisymm hd h1 hxx)
  | cons a pre =>
    rw [e]
    simp
    omega

theorem class_valid (l : Tbl) (a : Int) (ha : 0 ≤ a ∧ a ≤ 255) : classOf l a = if 16 ≤ a ∧ a - 16 < (l.length : Int) then a - 16 else -1 := by
  unfold classOf
  by_cases h1 : a < 16
  · rw [if_pos h1, if_neg (by omega)]
  · rw [if_neg h1, show (a - 16) % 256 = a - 16 by omega]
    by_cases h2 : a - 16 ≥ (l.length : Int)
    · rw [if_pos h2, if_neg (by omega)]
    · rw [if_neg h2, if_pos (by omega)]
theorem impl_valid (l : Tbl) (a : Int) (ha : 0 ≤ a ∧ a ≤ 255) : types_Valid.f l a = some (validB l a) := by
  unfold types_Valid.f validB
  by_cases h1 : a ≤ 5
  · simp [h1]
  · rw [if_neg h1, class_is, class_valid l a ha]
    by_cases h2 : 16 ≤ a ∧ a - 16 < (l.length : Int)
    · rw [if_pos h2]
      simp [h1, h2.1, h2.2]
    · rw [if_neg h2]
      simp [h1]
      omega
def subB (l : Tbl) (a b : Int) : Bool :=
  if validB l a = true ∧ validB l b = true then (if a = b then true else if b = 0 then true else if a = 3 ∨ b = 5 then isRefB a && isRefB b else if 0 ≤ classOf l a ∧ 0 ≤ classOf l b then decide (classOf l b ∈ climbL l (classOf l a)) else false) else false
theorem impl_sub (l : Tbl) (a b : Int) (ha : 0 ≤ a ∧ a ≤ 255) (hb : 0 ≤ b ∧ b ≤ 255) (k : Nat) : types_Sub.f (k + 3) l a b = some (subB l a b) := by
  unfold types_Sub.f subB
  rw [impl_valid l a ha, impl_valid l b hb]
  simp only [Option.bind_some, types_Sub.j0, types_Sub.j1, types_Sub.j2, isRef_is, class_is, types_above.f]
  cases validB l a with
  | false => simp
  | true =>
    cases validB l b with
    | false => simp
    | true =>
      by_cases e1 : a = b
      · simp [e1]
      · by_cases e2 : b = 0
        · simp [e1, e2]
        · by_cases e3 : a = 3
          · cases hra : isRefB a <;> cases hrb : isRefB b <;> simp [e1, e2, e3, hra, hrb] <;> simp_all
          · by_cases e5 : b = 5
            · cases hra : isRefB a <;> cases hrb : isRefB b <;> simp [e1, e2, e3, e5, hra, hrb] <;> simp_all
            · by_cases g1 : 0 ≤ classOf l a <;> by_cases g2 : 0 ≤ classOf l b <;> simp [e1, e2, e3, e5, g1, g2] <;> omega

theorem valid_cases {l : Tbl} {a : Int} (ha : 0 ≤ a ∧ a ≤ 255) (h : validB l a = true) : (a ≤ 5 ∧ classOf l a = -1) ∨ (16 ≤ a ∧ a - 16 < (l.length : Int) ∧ classOf l a = a - 16) := by
  unfold validB at h
  rw [class_valid l a ha]
  simp at h
  rcases h with h | ⟨h1, h2⟩
  · exact .inl ⟨h, by rw [if_neg (by omega)]⟩
  · exact .inr ⟨h1, by omega, by rw [if_pos (by omega)]⟩
theorem sub_iff (l : Tbl) (a b : Int) : subB l a b = true ↔ validB l a = true ∧ validB l b = true ∧ (a = b ∨ b = 0 ∨ ((a = 3 ∨ b = 5) ∧ isRefB a = true ∧ isRefB b = true) ∨ (¬ (a = 3 ∨ b = 5) ∧ 0 ≤ classOf l a ∧ 0 ≤ classOf l b ∧ classOf l b ∈ climbL l (classOf l a))) := by
  unfold subB
  by_cases h : validB l a = true ∧ validB l b = true
  · rw [if_pos h]
    by_cases e1 : a = b
    · simp [e1, h.2]
    · rw [if_neg e1]
      by_cases e2 : b = 0
      · simp [e2, h.1]
        rw [← e2]; exact h.2
      · rw [if_neg e2]
        by_cases e3 : a = 3 ∨ b = 5
        · rw [if_pos e3]
          simp [h.1, h.2, e1, e2, e3]
        · rw [if_neg e3]
          by_cases g : 0 ≤ classOf l a ∧ 0 ≤ classOf l b
          · rw [if_pos g]
            simp [h.1, h.2, e1, e2, e3, g.1, g.2]
          · rw [if_neg g]
            simp [h.1, h.2, e1, e2, e3]
            intro g1 g2
            exact absurd ⟨g1, g2⟩ g
  · rw [if_neg h]
    simp
    intro h1 h2
    exact absurd ⟨h1, h2⟩ h
theorem isRef_iff (a : Int) : isRefB a = true ↔ a = 3 ∨ a = 4 ∨ a = 5 ∨ a ≥ 16 := by unfold isRefB; simp [or_assoc]
theorem sub_refl (l : Tbl) (a : Int) (h : validB l a = true) : subB l a a = true := (sub_iff l a a).2 ⟨h, h, .inl rfl⟩
end Go.Proofs.Ytgjnmpgmbhbbhaa.P


end

section
namespace Go.Proofs.Ytgjnmpgmbhbbhaa.P
open Go.RowKit Go.Proofs.YtgjnmpgmbhbbhaaW.PrintWords Go.Proofs.YtgjnmpgmbhbbhaaW.PrintLast Go.Proofs.YtgjnmpgmbhbbhaaW.PrintMore
set_option linter.unusedVariables false
set_option linter.unusedSimpArgs false

theorem top_valid (l : Tbl) : validB l 0 = true := by simp [validB]
theorem sub_top (l : Tbl) (a : Int) (h : validB l a = true) : subB l a 0 = true := (sub_iff l a 0).2 ⟨h, top_valid l, .inr (.inl rfl)⟩
end Go.Proofs.Ytgjnmpgmbhbbhaa.P


end

section
namespace Go.Proofs.Ytgjnmpgmbhbbhaa.P
open Go.RowKit Go.Proofs.YtgjnmpgmbhbbhaaW.PrintWords Go.Proofs.YtgjnmpgmbhbbhaaW.PrintLast Go.Proofs.YtgjnmpgmbhbbhaaW.PrintMore
set_option linter.unusedVariables false
set_option linter.unusedSimpArgs false

def deepOf (l : Tbl) (c : Int) : Int := 1 + ((climbL l c).length : Int)
def deepFrom (l : Tbl) : Nat → Int → Int → Int
  | 0, _, n => n
  | d + 1, i, n => deepFrom l d (i + 1) (mx n (deepOf l i))
def rankB (l : Tbl) (a : Int) : Int :=
  if validB l a = true ∧ a ≠ 0 then (if a = 4 then 2 else if a = 3 then deepFrom l l.length 0 2 + 1 else if a ≥ 16 then deepOf l (classOf l a) else 1) else 0
theorem deepOf_le (l : Tbl) (c : Int) : 1 ≤ deepOf l c ∧ deepOf l c ≤ 1 + l.length := by
  have := climbL_length l c
  unfold deepOf
  omega
theorem mx_le (a b : Int) : a ≤ mx a b ∧ b ≤ mx a b := by unfold mx; split <;> omega
theorem mx_is (a b : Int) : mx a b = a ∨ mx a b = b := by unfold mx; split <;> simp
theorem deepFrom_ge (l : Tbl) : ∀ (d : Nat) (i n : Int), n ≤ deepFrom l d i n ∧ ∀ c : Int, i ≤ c → c < i + d → deepOf l c ≤ deepFrom l d i n
  | 0, i, n => ⟨Int.le_refl _, fun c h1 h2 => by omega⟩
  | d + 1, i, n => by
    obtain ⟨h1, h2⟩ := deepFrom_ge l d (i + 1) (mx n (deepOf l i))
    have hm := mx_le n (deepOf l i)
    unfold deepFrom
    refine ⟨by omega, fun c g1 g2 => ?_⟩
    by_cases e : c = i
    · rw [e]; omega
    · exact h2 c (by omega) (by omega)
theorem deepFrom_le (l : Tbl) (b : Int) (hb : 1 + (l.length : Int) ≤ b) : ∀ (d : Nat) (i n : Int), n ≤ b → deepFrom l d i n ≤ b
  | 0, i, n, h => h
  | d + 1, i, n, h => by
    unfold deepFrom
    refine deepFrom_le l b hb d (i + 1) _ ?_
    have := deepOf_le l i
    rcases mx_is n (deepOf l i) with e | e <;> omega
theorem rank_tells (l : Tbl) (hl : l.length ≤ 2932031007320) (k : Nat) : ∀ (d : Nat) (i n : Int), 0 ≤ i → (l.length : Int) - i = d → 0 ≤ n → n ≤ 2932031007321 + 2 → types_Rank.l0 (k + d + 1) l n (l.length : Int) i = some (deepFrom l d i n + 1)
  | 0, i, n, h0, hd, hn, hn2 => by
    simp only [types_Rank.l0]
    rw [if_neg (by omega)]
    unfold deepFrom
    rw [show wrap64 (n + 1) = n + 1 by unfold wrap64; omega]
  | d + 1, i, n, h0, hd, hn, hn2 => by
    have hdl := deepOf_le l i
    have hm := mx_is n (deepOf l i)
    have ih := rank_tells l hl k d (i + 1) (mx n (deepOf l i)) (by omega) (by omega) (by omega) (by omega)
    rw [show k + (d + 1) + 1 = (k + d + 1) + 1 by omega]
    show (if i < (l.length : Int) then ((types_deep.f l i).bind fun t201 => (types_Rank.l0 (k + d + 1) l (mx n (wrap64 (1 + t201))) (l.length : Int) (wrap64 (i + 1)))) else (some (wrap64 (n + 1)))) = _
    rw [if_pos (by omega)]
    simp only [types_deep.f, Option.bind_some]
    rw [show wrap64 (1 + ((climbL l i).length : Int)) = deepOf l i by unfold deepOf wrap64; unfold deepOf at hdl; omega, show wrap64 (i + 1) = i + 1 by unfold wrap64; omega, ih]
    rfl
theorem impl_rank (l : Tbl) (hl : l.length ≤ 2932031007320) (a : Int) (ha : 0 ≤ a ∧ a ≤ 255) (k : Nat) : types_Rank.f (k + l.length + 2) l a = some (rankB l a) := by
  have hk : k + l.length + 2 = (k + l.length + 1) + 1 := by omega
  unfold types_Rank.f rankB
  rw [impl_valid l a ha]
  have h3 := rank_tells l hl k l.length 0 2 (by omega) (by omega) (by omega) (by omega)
  rw [hk]
  simp only [Option.bind_some, types_Rank.j0, class_is, types_deep.f, h3]
  cases hv : validB l a with
  | false => simp
  | true =>
    by_cases e0 : a = 0
    · simp [e0]
    · by_cases e4 : a = 4
      · simp [e4]
      · by_cases e3 : a = 3
        · simp [e3]
        · by_cases e16 : a ≥ 16
          · have := deepOf_le l (classOf l a)
            have hw : wrap64 (1 + ((climbL l (classOf l a)).length : Int)) = deepOf l (classOf l a) := by unfold deepOf wrap64; unfold deepOf at this; omega
            simp [e0, e4, e3, e16, hw]
          · simp [e0, e4, e3, e16]
theorem rank_bounds (l : Tbl) (hg : Good l) (a : Int) : 0 ≤ rankB l a ∧ rankB l a ≤ 34 := by
  have hs := hg.short
  have h1 := deepFrom_ge l l.length 0 2
  have h2 := deepFrom_le l 33 (by omega) l.length 0 2 (by omega)
  have h3 := deepOf_le l (classOf l a)
  unfold rankB
  split
  · split
    · omega
    · split
      · omega
      · split <;> omega
  · omega
theorem rank_falls (l : Tbl) (hg : Good l) {a b : Int} (ha : 0 ≤ a ∧ a ≤ 255) (hb : 0 ≤ b ∧ b ≤ 255) (hne : a ≠ b) (h : subB l a b = true) : rankB l b < rankB l a := by
  rw [sub_iff] at h
  obtain ⟨va, vb, h⟩ := h
  have ka := valid_cases ha va
  have kb := valid_cases hb vb
  rw [isRef_iff, isRef_iff] at h
  have h1 := deepFrom_ge l l.length 0 2
  have hpos : ∀ c : Int, 0 ≤ c → c < (l.length : Int) → 2 ≤ deepOf l c := by
    intro c h0 h1
    have := List.length_pos_of_mem (climb_self l c h0 h1)
    unfold deepOf
    omega
  have ra : a ≠ 0 → rankB l a = (if a = 4 then 2 else if a = 3 then deepFrom l l.length 0 2 + 1 else if a ≥ 16 then deepOf l (classOf l a) else 1) := fun e => by
    unfold rankB
    rw [if_pos ⟨va, e⟩]
  have rb : b ≠ 0 → rankB l b = (if b = 4 then 2 else if b = 3 then deepFrom l l.length 0 2 + 1 else if b ≥ 16 then deepOf l (classOf l b) else 1) := fun e => by
    unfold rankB
    rw [if_pos ⟨vb, e⟩]
  have rb0 : b = 0 → rankB l b = 0 := fun e => by
    unfold rankB
    rw [if_neg (fun h => h.2 e)]
  rcases h with h | rfl | ⟨p1, p2, p3⟩ | ⟨p1, p2, p3, p4⟩
  · exact absurd h hne
  · rw [rb0 rfl, ra hne]
    have := deepOf_le l (classOf l a)
    split
    · omega
    · split
      · omega
      · split <;> omega
  · rw [ra (by omega), rb (by omega)]
    by_cases b5 : b = 5
    · rw [if_neg (show ¬ b = 4 by omega), if_neg (show ¬ b = 3 by omega), if_neg (show ¬ b ≥ 16 by omega)]
      by_cases a4 : a = 4
      · rw [if_pos a4]; decide
      · rw [if_neg a4]
        by_cases a3 : a = 3
        · rw [if_pos a3]; omega
        · have a16 : 16 ≤ a := by omega
          rw [if_neg a3, if_pos a16]
          have := hpos (classOf l a) (by omega) (by omega)
          omega
    · have a3 : a = 3 := by omega
      rw [if_neg (show ¬ a = 4 by omega), if_pos a3]
      by_cases b4 : b = 4
      · rw [if_pos b4]; omega
      · have b16 : 16 ≤ b := by omega
        rw [if_neg b4, if_neg (by omega), if_pos b16]
        have := h1.2 (classOf l b) (by omega) (by omega)
        omega
  · rw [ra (by omega), rb (by omega), if_neg (show ¬ b = 4 by omega), if_neg (show ¬ b = 3 by omega), if_pos (show b ≥ 16 by omega), if_neg (show ¬ a = 4 by omega), if_neg (show ¬ a = 3 by omega), if_pos (show a ≥ 16 by omega)]
    have := climb_shorter hg.dec p4 (by omega)
    unfold deepOf
    omega
end Go.Proofs.Ytgjnmpgmbhbbhaa.P


end

section
namespace Go.Proofs.Ytgjnmpgmbhbbhaa.P
open Go.RowKit Go.Proofs.YtgjnmpgmbhbbhaaW.PrintWords Go.Proofs.YtgjnmpgmbhbbhaaW.PrintLast Go.Proofs.YtgjnmpgmbhbbhaaW.PrintMore
set_option linter.unusedVariables false
set_option linter.unusedSimpArgs false

theorem rd_class (l : Tbl) (i : Nat) (h : i < l.length) : rd_T59 l (i : Int) = l[i] := by simp [rd_T59, List.getD_eq_getElem?_getD, h]
theorem classes_tells (l : Tbl) (hs : Sane l) : ∀ (d i : Nat), l.length - i = d → i ≤ l.length → Ev (fun k => provisoplain_Classes.l0 k (l.take i) l (l.length : Int) (i : Int)) l
  | 0, i, hd, hi => by
    have e : l.take i = l := List.take_of_length_le (by omega)
    rw [e]
    exact Ev.step (f := fun _ => some l) (fun k => by simp only [provisoplain_Classes.l0]; rw [if_neg (by omega)]) (Ev.now _)
  | d + 1, i, hd, hi => by
    have hlt : i < l.length := by omega
    have ih := classes_tells l hs d (i + 1) (by omega) (by omega)
    have hsz := hs.size
    have ho := (hs.own (c := (i : Int)) (by omega) (by omega)).1
    unfold own at ho
    refine Ev.step (fun k => ?_) ih
    simp only [provisoplain_Classes.l0]
    rw [if_pos (by omega), if_pos (by omega), if_pos (by omega)]
    unfold api_Field_41.f
    rw [if_pos (by omega)]
    simp only [Option.bind_some]
    rw [if_pos (by rw [List.length_take]; omega), rd_class l i hlt, show wrap64 ((i : Int) + 1) = ((i + 1 : Nat) : Int) by unfold wrap64; omega, List.take_succ_eq_append_getElem hlt]
theorem impl_classes (l : Tbl) (hs : Sane l) : Ev (fun k => provisoplain_Classes.f k l) l := by
  have := classes_tells l hs l.length 0 (by omega) (by omega)
  rw [List.take_zero] at this
  exact this
end Go.Proofs.Ytgjnmpgmbhbbhaa.P


end

section
namespace Go.Proofs.Ytgjnmpgmbhbbhaa.Pure
open Go.RowKit Go.Proofs.Ytgjnmpgmbhbbhaa.P Go.Proofs.YtgjnmpgmbhbbhaaW.PrintWords
set_option linter.unusedSimpArgs false
theorem foldl_shift (rb : Int → Int) : ∀ (l : List Int) (n : Int), l.foldl (fun n t => n + rb t) n = n + l.foldl (fun n t => n + rb t) 0
  | [], n => by simp
  | t :: l, n => by
    simp only [List.foldl_cons]
    rw [foldl_shift rb l (n + rb t), foldl_shift rb l (0 + rb t)]
    omega
theorem sumS_cons (rb : Int → Int) (t : Int) (l : List Int) : sumS rb (t :: l) = rb t + sumS rb l := by
  unfold sumS
  rw [List.foldl_cons, foldl_shift]
  omega
theorem sum_less (rb : Int → Int) : ∀ (xs ys : List Int), xs.length = ys.length → (∀ i, i < xs.length → xs.getD i 0 = ys.getD i 0 ∨ rb (ys.getD i 0) < rb (xs.getD i 0)) → xs = ys ∨ sumS rb ys < sumS rb xs
  | [], [], _, _ => .inl rfl
  | [], _ :: _, h, _ => by simp at h
  | _ :: _, [], h, _ => by simp at h
  | x :: xs, y :: ys, h, hp => by
    have h0 := hp 0 (by simp)
    simp only [List.getD_cons_zero] at h0
    have ih := sum_less rb xs ys (by simpa using h) (fun i hi => by
      have := hp (i + 1) (by simp; omega)
      simpa only [List.getD_cons_succ] using this)
    rw [sumS_cons, sumS_cons]
    rcases h0 with rfl | h0
    · rcases ih with rfl | ih
      · exact .inl rfl
      · exact .inr (by omega)
    · rcases ih with rfl | ih
      · exact .inr (by omega)
      · exact .inr (by omega)
theorem check_zero {vb : Int → Bool} {f : Fr} (h : checkS vb f = 0) : f.shp = true ∧ f.sl.all vb = true := by
  unfold checkS at h
  by_cases hs : f.shp = true
  · rw [if_pos hs] at h
    by_cases hb : frEq (bareF f) f = true
    · rw [if_pos hb] at h
      by_cases ha : f.sl.all vb = true
      · exact ⟨hs, ha⟩
      · rw [if_neg ha] at h
        cases h
    · rw [if_neg hb] at h
      cases h
  · rw [if_neg hs] at h
    cases h
theorem get_mem {xs : List Int} {i : Nat} (h : i < xs.length) : xs.getD i 0 ∈ xs := by
  rw [List.getD_eq_getElem?_getD, List.getElem?_eq_getElem h]
  exact List.getElem_mem h
theorem FramesRanks : provisolaw03_FramesRanks.Pure := by
  intro l0 a0 a1 a2 b0 b1 b2 hl _ _ ha _ _ hb
  have hs : Sane l0 := hl
  have ra : ∀ t ∈ a2, 0 ≤ t ∧ t ≤ 255 := fun t ht => u8_of (ha.2 t ht)
  have rbb : ∀ t ∈ b2, 0 ≤ t ∧ t ≤ 255 := fun t ht => u8_of (hb.2 t ht)
  obtain ⟨K1, h1⟩ := ref_check l0 hs
  obtain ⟨K2, h2⟩ := impl_classes l0 hs
  refine ⟨ha.1, hb.1, (K1 + K2 + 3) + l0.length + 2, ((checkB l0).2 == 0), ?_, fun htb => ?_⟩
  · unfold provisolaw03_table.f
    have h1 : provisoref02_Check.f ((K1 + K2 + 3) + l0.length + 2) l0 = some (checkB l0) := h1 _ (by omega)
    rw [h1]
    rfl
  · have hg := (good_iff l0).1 (by simpa using htb)
    have rng : ∀ t, t ∈ a2 ∨ t ∈ b2 → 0 ≤ t ∧ t ≤ 255 := fun t ht => ht.elim (ra t) (rbb t)
    refine ⟨validB l0, subB l0, rankB l0, h2 _ (by omega), top_valid l0, fun t ht => ⟨impl_valid l0 t (rng t ht), ref_valid l0 t (rng t ht), impl_rank l0 hs.size t (rng t ht) (K1 + K2 + 3), (rank_bounds l0 hg t).1, (rank_bounds l0 hg t).2⟩, fun t u ht hu => ?_, fun ca cb => ?_⟩
    · have := impl_sub l0 t u (rng t ht) (rng u hu) (K1 + K2 + l0.length + 2)
      rw [show K1 + K2 + l0.length + 2 + 3 = (K1 + K2 + 3) + l0.length + 2 by omega] at this
      exact this
    · have va := (check_zero ca).2
      have vb := (check_zero cb).2
      rw [List.all_eq_true] at va vb
      simp only at va vb
      refine ⟨fun _ h0 => ?_, ?_, fun hsub => ?_⟩
      · have hm := get_mem (xs := a2) (i := 0) (by rw [ha.1]; decide)
        have h3 := rank_falls l0 hg (ra _ hm) (show (0 : Int) ≤ 0 ∧ (0 : Int) ≤ 255 by decide) h0 (sub_top l0 _ (va _ hm))
        have h4 := (rank_bounds l0 hg 0).1
        cases a2 with
        | nil => simp at hm
        | cons t ts =>
          rw [sumS_cons]
          have h5 := sumS_bound (rb := rankB l0) (b := 34) ts (fun x hx => rank_bounds l0 hg x)
          simp only [List.getD_cons_zero] at h3
          omega
      · unfold subS alikeS
        rw [if_pos ca, if_pos ca, if_pos ⟨rfl, rfl⟩, decide_eq_true rfl, Bool.true_and, List.all_eq_true]
        intro i hi
        exact sub_refl l0 _ (va _ (get_mem (by rw [ha.1]; exact List.mem_range.1 hi)))
      · unfold subS at hsub
        rw [Bool.and_eq_true, decide_eq_true_eq, List.all_eq_true] at hsub
        obtain ⟨h3, h4⟩ := hsub
        unfold alikeS at h3
        rw [if_pos ca, if_pos cb] at h3
        have h5 : a0 = b0 ∧ a1 = b1 := by
          by_cases hh : a0 = b0 ∧ a1 = b1
          · exact hh
          · rw [if_neg hh] at h3
            cases h3
        rcases sum_less (rankB l0) a2 b2 (by rw [ha.1, hb.1]) (fun i hi => by
          have hi2 : i < 24 := by rw [← ha.1]; exact hi
          have h6 := h4 i (List.mem_range.2 hi2)
          by_cases e : a2.getD i 0 = b2.getD i 0
          · exact .inl e
          · exact .inr (rank_falls l0 hg (ra _ (get_mem hi)) (rbb _ (get_mem (by rw [hb.1]; exact hi2))) e h6)) with e | h
        · left
          rw [h5.1, h5.2, e]
        · exact .inr h
end Go.Proofs.Ytgjnmpgmbhbbhaa.Pure

end

section
namespace Go.Proofs.Ytgjnmpgmbhbbhaa.framesRanks
open Go.ChangeShapes Go.WideShapes Go.ChangeAt Go.RowKit Go.Proofs.YtgjnmpgmbhbbhaaW.PrintWords Go.Proofs.Ytgjnmpgmbhbbhaa.Sees Go.Proofs.Ytgjnmpgmbhbbhaa.P
open Go.ChangeMaps (open_string shut_string)
set_option linter.unusedVariables false
set_option linter.unusedSimpArgs false
theorem own : ownKnob Try.prog.godebug = none := by kernel_rfl
theorem laidOut : laidOutB Try.prog = true := by kernel_rfl
set_option maxRecDepth 100000 in
theorem lifted (os : Os) (started : os.Started) (H : Type) (enc : TypeId × Value → H) :
    ReturnsInHanded {} Try.checked os 8 .any (Rows.framesRanksSpec.pre6 enc Try.prog Try.f8 Rows.framesRanksRow.domain false) (Rows.framesRanksSpec.post enc Try.prog Try.f8 false true false false) := by
  refine returnsInHanded_of_change_sized (C := Try.checked) own started (by kernel_rfl) Try.func8
    (ChangeSpec.witness6 (enc := enc) (C := Try.checked) false ⟨#[], #[.slice none 0 0, .agg #[.int .i64 0, .int .i64 0, .int .u8 0, .int .u8 0, .int .u8 0, .int .u8 0, .int .u8 0, .int .u8 0, .int .u8 0, .int .u8 0, .int .u8 0, .int .u8 0, .int .u8 0, .int .u8 0, .int .u8 0, .int .u8 0, .int .u8 0, .int .u8 0, .int .u8 0, .int .u8 0, .int .u8 0, .int .u8 0, .int .u8 0, .int .u8 0, .int .u8 0, .int .u8 0], .agg #[.int .i64 0, .int .i64 0, .int .u8 0, .int .u8 0, .int .u8 0, .int .u8 0, .int .u8 0, .int .u8 0, .int .u8 0, .int .u8 0, .int .u8 0, .int .u8 0, .int .u8 0, .int .u8 0, .int .u8 0, .int .u8 0, .int .u8 0, .int .u8 0, .int .u8 0, .int .u8 0, .int .u8 0, .int .u8 0, .int .u8 0, .int .u8 0, .int .u8 0, .int .u8 0]], []⟩ 8 (by kernel_rfl) (by kernel_rfl) (by kernel_rfl) (by kernel_rfl)) ?_
  intro W base args ds gs before hval0 hW hcnd hsz0 _
  have hsz : (DataW.weightsEach Try.prog (Try.f8.params.toList ++ Rows.framesRanksSpec.plain.varTypes Try.prog) (ds ++ gs)).all (· ≤ reachBytes) = true := hsz0
  have hval : ∀ (j : Nat) t v, Try.f8.params[j]? = some t → args[j]? = some v → Value.okWide Try.prog W .any base t v := hval0
  have hW' := hW
  obtain ⟨p, q, hA0, hV, rfl, hfz, hnd⟩ := hW
  have hA : DataW.TrodAll enc Try.prog W 0 (fun _ => true) true Try.f8.params.toList args.toList ds p := hA0
  rw [Try.params8] at hA hval hsz
  obtain ⟨v0, vs0, d0, ds0, p0, q0, hargs, rfl, rfl, h0, r0⟩ := trodAll_cons hA
  obtain ⟨v1, vs1, d1, ds1, p1, q1, rfl, rfl, rfl, h1, r1⟩ := trodAll_cons r0
  obtain ⟨v2, vs2, d2, ds2, p2, q2, rfl, rfl, rfl, h2, r2⟩ := trodAll_cons r1
  obtain ⟨rfl, rfl, rfl⟩ := trodAll_nil r2
  obtain rfl : args = #[v0, v1, v2] := by cases args; simp_all
  obtain ⟨rfl, rfl⟩ := trodVars_none hV
  have k0 := h0
  have lt0 : ∀ x ∈ p0, x.block < W.heap.size := by obtain ⟨m, hm⟩ := k0; exact DataW.trod_lt m _ _ _ hm
  obtain ⟨y0, hy0, oy0⟩ := see_arg (j := 0) (t := 22) (sees_slice (B := 48) Try.underlying22 (by kernel_rfl) (by kernel_rfl) sees59) hsz rfl rfl h0
  obtain ⟨a0, len0, cap0, rfl⟩ := okWide_slice Try.underlying22 (hval 0 22 v0 rfl rfl)
  obtain ⟨rfl, hc0, hr0⟩ := see_slice rfl hy0
  have k1 := h1
  have lt1 : ∀ x ∈ p1, x.block < W.heap.size := by obtain ⟨m, hm⟩ := k1; exact DataW.trod_lt m _ _ _ hm
  obtain ⟨y1, hy1, oy1⟩ := see_arg (j := 1) (t := 27) (sees_struct (fun y => y) (fun y => y) (fun _ => rfl) Try.underlying27 (by kernel_rfl) (sees_more rfl (by kernel_rfl) (sees_int Try.underlying3) (sees_more rfl (by kernel_rfl) (sees_int Try.underlying3) (sees_last rfl (by kernel_rfl) (sees_array (by decide) Try.underlying25 (by kernel_rfl) (by kernel_rfl) (sees_int Try.underlying24)))))) hsz rfl rfl h1
  obtain ⟨cs1, rfl, hcs1⟩ := okWide_struct Try.underlying27 (hval 1 27 v1 rfl rfl)
  obtain rfl : cs1 = (⟨y1.1, y1.2.1, y1.2.2⟩ : Fr).a := Array.ext' (by have e_ := (frame_cells hy1).1; simpa [Value.cells, Fr.a] using e_)
  have k2 := h2
  have lt2 : ∀ x ∈ p2, x.block < W.heap.size := by obtain ⟨m, hm⟩ := k2; exact DataW.trod_lt m _ _ _ hm
  obtain ⟨y2, hy2, oy2⟩ := see_arg (j := 2) (t := 27) (sees_struct (fun y => y) (fun y => y) (fun _ => rfl) Try.underlying27 (by kernel_rfl) (sees_more rfl (by kernel_rfl) (sees_int Try.underlying3) (sees_more rfl (by kernel_rfl) (sees_int Try.underlying3) (sees_last rfl (by kernel_rfl) (sees_array (by decide) Try.underlying25 (by kernel_rfl) (by kernel_rfl) (sees_int Try.underlying24)))))) hsz rfl rfl h2
  obtain ⟨cs2, rfl, hcs2⟩ := okWide_struct Try.underlying27 (hval 2 27 v2 rfl rfl)
  obtain rfl : cs2 = (⟨y2.1, y2.2.1, y2.2.2⟩ : Fr).a := Array.ext' (by have e_ := (frame_cells hy2).1; simpa [Value.cells, Fr.a] using e_)
  clear hA0 hval0 hsz0 hsz
  have hk := Pure.FramesRanks y0 y1.1 y1.2.1 y1.2.2 y2.1 y2.2.1 y2.2.2 oy0 oy1.1 oy1.2.1 oy1.2.2 oy2.1 oy2.2.1 oy2.2.2
  refine (provisolaw03_FramesRanks.calls _ _ y0 (y1.1) (y1.2.1) (y1.2.2) (y2.1) (y2.2.1) (y2.2.2) W hr0 hc0 hk).mono ?_
  rintro e W' ⟨rfl, bel0⟩
  have bel : Below W.heap.size W W' := bel0
  exact ⟨_, rfl, _, _, _, [], _, [], hW', trodAll_mk1 (shut_bool Try.underlying4 _), (trodAll_cons_mk (Below.trod laidOut (by kernel_rfl) (of_decide_eq_true (by kernel_rfl)) k0 bel lt0) (trodAll_cons_mk (Below.trod laidOut (by kernel_rfl) (of_decide_eq_true (by kernel_rfl)) k1 bel lt1) (trodAll_cons_mk (Below.trod laidOut (by kernel_rfl) (of_decide_eq_true (by kernel_rfl)) k2 bel lt2) trodAll_mk0))), rfl, bel.frame _, fun h => by cases h⟩
theorem over : Rows.framesRanksRow.holds Try.pinned (OpenSpec.ofChange Rows.framesRanksSpec) :=
  OpenClaim.holds_of_wide 8 Try.f8 rfl rfl rfl rfl rfl rfl rfl ⟨rfl, rfl, rfl, rfl, rfl⟩ rfl rfl rfl rfl rfl (by kernel_rfl) Try.func8 (by kernel_rfl)
    (of_decide_eq_true (by kernel_rfl)) (by unfold Func.isWrapper; first | (rw [if_pos (by decide +kernel)]; kernel_rfl) | (rw [if_neg (by decide +kernel)]; exact ⟨rfl, rfl⟩))
    (fun os started H enc _ => lifted os started H enc)
theorem proved : Rows.FramesRanksSaid := over
end Go.Proofs.Ytgjnmpgmbhbbhaa.framesRanks
namespace Go.Proofs.Ytgjnmpgmbhbbhaa
theorem framesRanks_holds : Rows.FramesRanksSaid := framesRanks.proved
end Go.Proofs.Ytgjnmpgmbhbbhaa

end

