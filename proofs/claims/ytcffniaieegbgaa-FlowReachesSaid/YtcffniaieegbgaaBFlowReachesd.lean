/- Proved: the law FlowReaches holds for every input that the row lets in. No condition of ours. -/
import Derived.Test.YtcffniaieegbgaaBFlowReachesc
import Derived.Test.YtcffniaieegbgaaRows
import Derived.ShutString
import Derived.ChangeOld
import Derived.Lib.SmallJoins
section
namespace Go.Proofs.Ytcffniaieegbgaa.P
open Go.RowKit Go.Proofs.YtcffniaieegbgaaW.PrintWords Go.Proofs.YtcffniaieegbgaaW.PrintLast Go.Proofs.YtcffniaieegbgaaW.PrintMore
attribute [local go_sem] max2_int min2_int max_two min_two max_three min_three max_four min_four   -- for this text's walks alone
set_option linter.unusedVariables false
set_option linter.unusedSimpArgs false

set_option maxHeartbeats 8000000 in
set_option maxRecDepth 100000 in
theorem provisolaw05_FlowReaches.calls (k : Nat) (A0 : Option Addr) (c0 : Nat) (l0 : List (S46)) (a1 : Int) (r : Bool) (w : World) (hr0 : Kd.C k46 w A0 l0.length l0) (hc0 : l0.length ≤ c0) (h : provisolaw05_FlowReaches.f k l0 a1 = some r) :
    Calls Try.prog 8 #[.slice A0 l0.length c0, .int .i64 a1] w fun e w' => e = .returned (.bool r) ∧ Below w.heap.size w w' := by
  have HR0 := Aside0.mk hr0
  have HC0 := Aside0.mk hc0
  clear hr0 hc0
  have HB := Aside0.mk (Below.refl w.heap.size w)
  have H : ((api_Instr_33.f l0).bind fun t336 => ((flow_Reach.f k t336 a1).bind fun t339 => ((provisoref05_Reach.f k l0 a1).bind fun t342 => ((slices_Equal_int_int.f k t339 t342).bind fun t345 => (if t345 = true then ((api_Instr_27.f k t336 l0).bind fun t346 => (some t346)) else (some false)))))) = some r := h
  clear h
  replace H := Option.bind_eq_some_iff.mp H
  obtain ⟨t336, A30, H⟩ := H
  replace H : ((flow_Reach.f k t336 a1).bind fun t339 => ((provisoref05_Reach.f k l0 a1).bind fun t342 => ((slices_Equal_int_int.f k t339 t342).bind fun t345 => (if t345 = true then ((api_Instr_27.f k t336 l0).bind fun t346 => (some t346)) else (some false))))) = some r := H
  have A3 := Aside0.mk A30
  clear A30
  replace H := Option.bind_eq_some_iff.mp H
  obtain ⟨t339, A40, H⟩ := H
  replace H : ((provisoref05_Reach.f k l0 a1).bind fun t342 => ((slices_Equal_int_int.f k t339 t342).bind fun t345 => (if t345 = true then ((api_Instr_27.f k t336 l0).bind fun t346 => (some t346)) else (some false)))) = some r := H
  have A4 := Aside0.mk A40
  clear A40
  replace H := Option.bind_eq_some_iff.mp H
  obtain ⟨t342, A50, H⟩ := H
  replace H : ((slices_Equal_int_int.f k t339 t342).bind fun t345 => (if t345 = true then ((api_Instr_27.f k t336 l0).bind fun t346 => (some t346)) else (some false))) = some r := H
  have A5 := Aside0.mk A50
  clear A50
  replace H := Option.bind_eq_some_iff.mp H
  obtain ⟨t345, A60, H⟩ := H
  replace H : (if t345 = true then ((api_Instr_27.f k t336 l0).bind fun t346 => (some t346)) else (some false)) = some r := H
  have A6 := Aside0.mk A60
  clear A60
  by_cases c7 : t345 = true
  · subst c7
    have H1 : ((api_Instr_27.f k t336 l0).bind fun t346 => (some t346)) = some r := by rw [if_pos rfl] at H; exact H
    clear H
    have H := H1
    clear H1
    replace H := Option.bind_eq_some_iff.mp H
    obtain ⟨t346, A80, H⟩ := H
    replace H : (some t346) = some r := H
    have A8 := Aside0.mk A80
    clear A80
    obtain rfl := Option.some.inj H
    go_enter Try.func8, Try.ntmps8
    go_wp2_with (first | ((with_reducible refine gate_callee (f := 33) rfl ?_); refine goesL_ (some 7) rfl rfl Try.func33 (by kernel_rfl) rfl #[.slice A0 l0.length c0] rfl (by (try simp only [List.map_toArray, List.map_cons, List.map_nil]); first | done | rfl | (simp only [List.length_drop, List.length_take]; rfl)) ?_; (with_reducible refine (api_Instr_33.calls _ _ l0 t336 _ ?side1 ?side2 A3.out).mono ?_); (case side1 => repeat (first | exact HR0.out | (with_reducible refine Kd.C_alloc ?_ _) | (with_reducible refine Kd.C_drewN ?_ _) | (with_reducible refine Kd.C_drew ?_))); (case side2 => exact HC0.out); rintro e w9 ⟨v337, rfl, ho0, hb⟩; refine ⟨_, rfl, ?_⟩; have n0_ := Aside0.mk (Kd.R_lower ho0 (below_size (by repeat (first | (with_reducible first | exact HB.out | apply below_alloc | apply pw_below_drewN | apply below_drew1) | exact HB.out)))); have n1_ := Aside0.mk (below_step (by repeat (first | (with_reducible first | exact HB.out | apply below_alloc | apply pw_below_drewN | apply below_drew1) | exact HB.out)) hb); clear HB; have HO338 := n0_; have HB := n1_; clear n0_ n1_; (try clear hb); (try clear hb2); (try clear hk); (try clear hi); (try clear ho0); obtain ⟨Ao10, co10, eo10⟩ := Kd.R_slice HO338.out; subst eo10) | ((with_reducible refine gate_callee (f := 38) rfl ?_); refine goesL_ (some 10) rfl rfl Try.func38 (by kernel_rfl) rfl #[.slice Ao10 t336.length co10, .int .i64 a1] rfl (by (try simp only [List.map_toArray, List.map_cons, List.map_nil]); first | done | rfl | (simp only [List.length_drop, List.length_take]; rfl)) ?_; (with_reducible refine (flow_Reach.calls k _ _ t336 a1 t339 _ ?side1 ?side2 A4.out).mono ?_); (case side1 => repeat (first | exact (Kd.R_reads' HO338.out).2.2 | (with_reducible refine Kd.C_alloc ?_ _) | (with_reducible refine Kd.C_drewN ?_ _) | (with_reducible refine Kd.C_drew ?_))); (case side2 => exact (Kd.R_reads' HO338.out).2.1); rintro e w11 ⟨v340, rfl, ho0, hb⟩; refine ⟨_, rfl, ?_⟩; have n0_ := Aside0.mk (Kd.R_below (by (with_reducible repeat (first | apply Kd.R_alloc | apply Kd.R_drewN | apply Kd.R_drew)); exact HO338.out) hb); have n1_ := Aside0.mk (Kd.R_lower ho0 (below_size (by repeat (first | (with_reducible first | exact HB.out | apply below_alloc | apply pw_below_drewN | apply below_drew1) | exact HB.out)))); have n2_ := Aside0.mk (below_step (by repeat (first | (with_reducible first | exact HB.out | apply below_alloc | apply pw_below_drewN | apply below_drew1) | exact HB.out)) hb); clear HO338; clear HB; have HO338 := n0_; have HO341 := n1_; have HB := n2_; clear n0_ n1_ n2_; (try clear hb); (try clear hb2); (try clear hk); (try clear hi); (try clear ho0)) | ((with_reducible refine gate_callee (f := 18) rfl ?_); refine goesL_ (some 13) rfl rfl Try.func18 (by kernel_rfl) rfl #[.slice A0 l0.length c0, .int .i64 a1] rfl (by (try simp only [List.map_toArray, List.map_cons, List.map_nil]); first | done | rfl | (simp only [List.length_drop, List.length_take]; rfl)) ?_; (with_reducible refine (provisoref05_Reach.calls k _ _ l0 a1 t342 _ ?side1 ?side2 A5.out).mono ?_); (case side1 => repeat (first | exact (Kd.C_below HR0.out HB.out) | (with_reducible refine Kd.C_alloc ?_ _) | (with_reducible refine Kd.C_drewN ?_ _) | (with_reducible refine Kd.C_drew ?_))); (case side2 => exact HC0.out); rintro e w12 ⟨v343, rfl, ho0, hb⟩; refine ⟨_, rfl, ?_⟩; have n0_ := Aside0.mk (Kd.R_below (by (with_reducible repeat (first | apply Kd.R_alloc | apply Kd.R_drewN | apply Kd.R_drew)); exact HO338.out) hb); have n1_ := Aside0.mk (Kd.R_elder' (by (with_reducible repeat (first | apply Kd.R_alloc | apply Kd.R_drewN | apply Kd.R_drew)); exact HO341.out) (Kd.R_base ho0) hb); have n2_ := Aside0.mk (Kd.R_lower (Kd.R_new' ho0 (Kd.R_lt (by (with_reducible repeat (first | apply Kd.R_alloc | apply Kd.R_drewN | apply Kd.R_drew)); exact HO341.out))) (below_size (by repeat (first | (with_reducible first | exact HB.out | apply below_alloc | apply pw_below_drewN | apply below_drew1) | exact HB.out)))); have n3_ := Aside0.mk (below_step (by repeat (first | (with_reducible first | exact HB.out | apply below_alloc | apply pw_below_drewN | apply below_drew1) | exact HB.out)) hb); clear HO338; clear HO341; clear HB; have HO338 := n0_; have HO341 := n1_; have HO344 := n2_; have HB := n3_; clear n0_ n1_ n2_ n3_; (try clear hb); (try clear hb2); (try clear hk); (try clear hi); (try clear ho0); obtain ⟨Ao13, co13, eo13⟩ := Kd.R_slice HO341.out; subst eo13; obtain ⟨Ao14, co14, eo14⟩ := Kd.R_slice HO344.out; subst eo14) | ((with_reducible refine gate_callee (f := 22) rfl ?_); refine goesL_ (some 14) rfl rfl Try.func22 (by kernel_rfl) rfl #[.slice Ao13 t339.length co13, .slice Ao14 t342.length co14] rfl (by (try simp only [List.map_toArray, List.map_cons, List.map_nil]); first | done | rfl | (simp only [List.length_drop, List.length_take]; rfl)) ?_; (with_reducible refine (slices_Equal_int_int.calls k _ _ t339 _ _ t342 true _ ?side1 ?side2 ?side3 ?side4 A6.out).mono ?_); (case side1 => repeat (first | exact (Kd.R_reads' HO341.out).2.2 | (with_reducible refine Kd.C_alloc ?_ _) | (with_reducible refine Kd.C_drewN ?_ _) | (with_reducible refine Kd.C_drew ?_))); (case side2 => exact (Kd.R_reads' HO341.out).2.1); (case side3 => repeat (first | exact (Kd.R_reads' HO344.out).2.2 | (with_reducible refine Kd.C_alloc ?_ _) | (with_reducible refine Kd.C_drewN ?_ _) | (with_reducible refine Kd.C_drew ?_))); (case side4 => exact (Kd.R_reads' HO344.out).2.1); rintro e w' ⟨rfl, ⟨nd, rfl⟩⟩; refine ⟨_, rfl, ?_⟩) | (go_at_call 27; (with_reducible refine (api_Instr_27.calls k _ _ t336 _ _ l0 t346 _ ?side1 ?side2 ?side3 ?side4 A8.out).mono ?_); (case side1 => repeat (first | exact (Kd.R_reads' HO338.out).2.2 | (with_reducible refine Kd.C_alloc ?_ _) | (with_reducible refine Kd.C_drewN ?_ _) | (with_reducible refine Kd.C_drew ?_))); (case side2 => exact (Kd.R_reads' HO338.out).2.1); (case side3 => repeat (first | exact (Kd.C_below HR0.out (by repeat (first | (with_reducible first | exact HB.out | apply below_alloc | apply pw_below_drewN | apply below_drew1) | exact HB.out))) | (with_reducible refine Kd.C_alloc ?_ _) | (with_reducible refine Kd.C_drewN ?_ _) | (with_reducible refine Kd.C_drew ?_))); (case side4 => exact HC0.out); rintro e w' ⟨rfl, ⟨nd, rfl⟩⟩))
    go_ret
    exact ⟨by first | rfl | (simp [errW_none, errW_some] <;> rfl) | (simp [*, errW_none, errW_some] <;> rfl), by repeat (first | (with_reducible first | exact HB.out | apply below_alloc | apply pw_below_drewN | apply below_drew1) | exact HB.out)⟩
  · replace c7 := Bool.eq_false_iff.mpr c7
    subst c7
    have H1 : (some false) = some r := by rw [if_neg (show ¬ (false = true) by decide)] at H; exact H
    clear H
    have H := H1
    clear H1
    obtain rfl := Option.some.inj H
    go_enter Try.func8, Try.ntmps8
    go_wp2_with (first | ((with_reducible refine gate_callee (f := 33) rfl ?_); refine goesL_ (some 7) rfl rfl Try.func33 (by kernel_rfl) rfl #[.slice A0 l0.length c0] rfl (by (try simp only [List.map_toArray, List.map_cons, List.map_nil]); first | done | rfl | (simp only [List.length_drop, List.length_take]; rfl)) ?_; (with_reducible refine (api_Instr_33.calls _ _ l0 t336 _ ?side1 ?side2 A3.out).mono ?_); (case side1 => repeat (first | exact HR0.out | (with_reducible refine Kd.C_alloc ?_ _) | (with_reducible refine Kd.C_drewN ?_ _) | (with_reducible refine Kd.C_drew ?_))); (case side2 => exact HC0.out); rintro e w15 ⟨v337, rfl, ho0, hb⟩; refine ⟨_, rfl, ?_⟩; have n0_ := Aside0.mk (Kd.R_lower ho0 (below_size (by repeat (first | (with_reducible first | exact HB.out | apply below_alloc | apply pw_below_drewN | apply below_drew1) | exact HB.out)))); have n1_ := Aside0.mk (below_step (by repeat (first | (with_reducible first | exact HB.out | apply below_alloc | apply pw_below_drewN | apply below_drew1) | exact HB.out)) hb); clear HB; have HO338 := n0_; have HB := n1_; clear n0_ n1_; (try clear hb); (try clear hb2); (try clear hk); (try clear hi); (try clear ho0); obtain ⟨Ao16, co16, eo16⟩ := Kd.R_slice HO338.out; subst eo16) | ((with_reducible refine gate_callee (f := 38) rfl ?_); refine goesL_ (some 10) rfl rfl Try.func38 (by kernel_rfl) rfl #[.slice Ao16 t336.length co16, .int .i64 a1] rfl (by (try simp only [List.map_toArray, List.map_cons, List.map_nil]); first | done | rfl | (simp only [List.length_drop, List.length_take]; rfl)) ?_; (with_reducible refine (flow_Reach.calls k _ _ t336 a1 t339 _ ?side1 ?side2 A4.out).mono ?_); (case side1 => repeat (first | exact (Kd.R_reads' HO338.out).2.2 | (with_reducible refine Kd.C_alloc ?_ _) | (with_reducible refine Kd.C_drewN ?_ _) | (with_reducible refine Kd.C_drew ?_))); (case side2 => exact (Kd.R_reads' HO338.out).2.1); rintro e w17 ⟨v340, rfl, ho0, hb⟩; refine ⟨_, rfl, ?_⟩; have n0_ := Aside0.mk (Kd.R_below (by (with_reducible repeat (first | apply Kd.R_alloc | apply Kd.R_drewN | apply Kd.R_drew)); exact HO338.out) hb); have n1_ := Aside0.mk (Kd.R_lower ho0 (below_size (by repeat (first | (with_reducible first | exact HB.out | apply below_alloc | apply pw_below_drewN | apply below_drew1) | exact HB.out)))); have n2_ := Aside0.mk (below_step (by repeat (first | (with_reducible first | exact HB.out | apply below_alloc | apply pw_below_drewN | apply below_drew1) | exact HB.out)) hb); clear HO338; clear HB; have HO338 := n0_; have HO341 := n1_; have HB := n2_; clear n0_ n1_ n2_; (try clear hb); (try clear hb2); (try clear hk); (try clear hi); (try clear ho0)) | ((with_reducible refine gate_callee (f := 18) rfl ?_); refine goesL_ (some 13) rfl rfl Try.func18 (by kernel_rfl) rfl #[.slice A0 l0.length c0, .int .i64 a1] rfl (by (try simp only [List.map_toArray, List.map_cons, List.map_nil]); first | done | rfl | (simp only [List.length_drop, List.length_take]; rfl)) ?_; (with_reducible refine (provisoref05_Reach.calls k _ _ l0 a1 t342 _ ?side1 ?side2 A5.out).mono ?_); (case side1 => repeat (first | exact (Kd.C_below HR0.out HB.out) | (with_reducible refine Kd.C_alloc ?_ _) | (with_reducible refine Kd.C_drewN ?_ _) | (with_reducible refine Kd.C_drew ?_))); (case side2 => exact HC0.out); rintro e w18 ⟨v343, rfl, ho0, hb⟩; refine ⟨_, rfl, ?_⟩; have n0_ := Aside0.mk (Kd.R_below (by (with_reducible repeat (first | apply Kd.R_alloc | apply Kd.R_drewN | apply Kd.R_drew)); exact HO338.out) hb); have n1_ := Aside0.mk (Kd.R_elder' (by (with_reducible repeat (first | apply Kd.R_alloc | apply Kd.R_drewN | apply Kd.R_drew)); exact HO341.out) (Kd.R_base ho0) hb); have n2_ := Aside0.mk (Kd.R_lower (Kd.R_new' ho0 (Kd.R_lt (by (with_reducible repeat (first | apply Kd.R_alloc | apply Kd.R_drewN | apply Kd.R_drew)); exact HO341.out))) (below_size (by repeat (first | (with_reducible first | exact HB.out | apply below_alloc | apply pw_below_drewN | apply below_drew1) | exact HB.out)))); have n3_ := Aside0.mk (below_step (by repeat (first | (with_reducible first | exact HB.out | apply below_alloc | apply pw_below_drewN | apply below_drew1) | exact HB.out)) hb); clear HO338; clear HO341; clear HB; have HO338 := n0_; have HO341 := n1_; have HO344 := n2_; have HB := n3_; clear n0_ n1_ n2_ n3_; (try clear hb); (try clear hb2); (try clear hk); (try clear hi); (try clear ho0); obtain ⟨Ao19, co19, eo19⟩ := Kd.R_slice HO341.out; subst eo19; obtain ⟨Ao20, co20, eo20⟩ := Kd.R_slice HO344.out; subst eo20) | ((with_reducible refine gate_callee (f := 22) rfl ?_); refine goesL_ (some 14) rfl rfl Try.func22 (by kernel_rfl) rfl #[.slice Ao19 t339.length co19, .slice Ao20 t342.length co20] rfl (by (try simp only [List.map_toArray, List.map_cons, List.map_nil]); first | done | rfl | (simp only [List.length_drop, List.length_take]; rfl)) ?_; (with_reducible refine (slices_Equal_int_int.calls k _ _ t339 _ _ t342 false _ ?side1 ?side2 ?side3 ?side4 A6.out).mono ?_); (case side1 => repeat (first | exact (Kd.R_reads' HO341.out).2.2 | (with_reducible refine Kd.C_alloc ?_ _) | (with_reducible refine Kd.C_drewN ?_ _) | (with_reducible refine Kd.C_drew ?_))); (case side2 => exact (Kd.R_reads' HO341.out).2.1); (case side3 => repeat (first | exact (Kd.R_reads' HO344.out).2.2 | (with_reducible refine Kd.C_alloc ?_ _) | (with_reducible refine Kd.C_drewN ?_ _) | (with_reducible refine Kd.C_drew ?_))); (case side4 => exact (Kd.R_reads' HO344.out).2.1); rintro e w' ⟨rfl, ⟨nd, rfl⟩⟩; refine ⟨_, rfl, ?_⟩))
    go_ret
    exact ⟨by first | rfl | (simp [errW_none, errW_some] <;> rfl) | (simp [*, errW_none, errW_some] <;> rfl), by repeat (first | (with_reducible first | exact HB.out | apply below_alloc | apply pw_below_drewN | apply below_drew1) | exact HB.out)⟩

end Go.Proofs.Ytcffniaieegbgaa.P

end

section
namespace Go.Proofs.Ytcffniaieegbgaa.P
open Go.RowKit Go.Proofs.YtcffniaieegbgaaW.PrintWords
def provisolaw05_FlowReaches.Pure : Prop := ∀ (l0 : List (S46)) (a1 : Int), (fun l : List (S46) => l.length ≤ 9223372036854775807 ∧ l.length * 32 ≤ 140737488351232 ∧ ∀ x ∈ l, Ok46 x) l0 → (fun n : Int => (Lit.int .i64 n).wf = true) a1 → ∃ k, provisolaw05_FlowReaches.f k l0 a1 = some true
end Go.Proofs.Ytcffniaieegbgaa.P

end

section
namespace Go.Proofs.Ytcffniaieegbgaa.Pure
open Go.RowKit Go.Proofs.Ytcffniaieegbgaa.P Go.Proofs.YtcffniaieegbgaaW.PrintWords
set_option linter.unusedSimpArgs false
set_option linter.unusedVariables false
theorem wrap_one {i n : Nat} (h : i < n) (hn : n ≤ 9223372036854775807) : wrap64 ((i : Int) + 1) = ((i + 1 : Nat) : Int) := by unfold wrap64; omega
theorem wide_is (k : Nat) (op : Int) : provisoref04_wide.f (k + 2) op = code_widths.f 3 op := by
  by_cases h1 : op = 1
  · subst h1; rfl
  by_cases h2 : op = 19
  · subst h2; rfl
  by_cases h3 : op = 20
  · subst h3; rfl
  by_cases h4 : op = 24
  · subst h4; rfl
  by_cases h5 : op = 25
  · subst h5; rfl
  by_cases h6 : op = 2
  · subst h6; rfl
  by_cases h7 : op = 4
  · subst h7; rfl
  by_cases h8 : op = 5
  · subst h8; rfl
  have e20 : (op == 20) = false := by rw [beq_eq_false_iff_ne]; exact h3
  have e25 : (op == 25) = false := by rw [beq_eq_false_iff_ne]; exact h5
  have e5 : (op == 5) = false := by rw [beq_eq_false_iff_ne]; exact h8
  simp only [provisoref04_wide.f, provisoref04_wide.j0, provisoref04_wide.j1, code_widths.f, code_widths.j0, code_widths.j1, code_widths.j2, if_neg h1, if_neg h2, if_neg h4, if_neg h6, if_neg h7, if_neg h8, e20, e25, e5, Bool.false_eq_true, if_false]
theorem rsize_is (k : Nat) (op : Int) : provisoref04_Size.f (k + 2) op = some (szOf op) := by
  have h := size_is 0 op
  rw [← h]
  unfold provisoref04_Size.f code_Size.f
  rw [wide_is k op]
theorem rsize_ev (op : Int) : Ev (fun k => provisoref04_Size.f k op) (szOf op) := ⟨2, fun k hk => by
  obtain ⟨m, rfl⟩ : ∃ m, k = m + 2 := ⟨k - 2, by omega⟩
  exact rsize_is m op⟩
theorem rjumps_is (op : Int) : provisoref04_Jumps.f op = some (jumpsB op) := jumps_is op
theorem rends_is (op : Int) : provisoref04_Ends.f op = some (endsB op) := ends_is op
theorem rplaced_is (a b c d : Int) : provisoref05_placed.f a b c d = some (placedB a) := placed_is a b c d
theorem drop_at {l : List Int} {i : Nat} (h : i < l.length) : l.drop i = rd l (i : Int) :: l.drop (i + 1) := by
  rw [List.drop_eq_getElem_cons h]
  congr 1
  show l[i] = l.getD (i : Int).toNat 0
  rw [Int.toNat_natCast, List.getD_eq_getElem?_getD, List.getElem?_eq_getElem h]
  rfl
theorem drop_atI {l : List S46} {i : Nat} (h : i < l.length) : l.drop i = rd_T46 l (i : Int) :: l.drop (i + 1) := by
  rw [List.drop_eq_getElem_cons h]
  congr 1
  show l[i] = l.getD (i : Int).toNat z46
  rw [Int.toNat_natCast, List.getD_eq_getElem?_getD, List.getElem?_eq_getElem h]
  rfl
theorem put_done (n : Int) (l : List Int) (hl : l.length ≤ 9223372036854775807) : ∀ (d i : Nat) (out : List Int), l.length - i = d → i ≤ l.length → out.length + d + 2 ≤ 17592186044416 → Ev (fun k => provisoref05_put.l0 k n out true l (l.length : Int) (i : Int)) (out ++ l.drop i)
  | 0, i, out, hd, hi, ho => by
    obtain rfl : i = l.length := by omega
    refine Ev.step (f := fun _ => some out) (fun k => ?_) (by rw [List.drop_length, List.append_nil]; exact Ev.now _)
    simp only [provisoref05_put.l0]
    rw [if_neg (by omega), if_pos True.intro]
  | d + 1, i, out, hd, hi, ho => by
    have h1 : i < l.length := by omega
    have ih := put_done n l hl d (i + 1) (out ++ [rd l (i : Int)]) (by omega) (by omega) (by simp; omega)
    rw [drop_at h1]
    rw [List.append_assoc, List.singleton_append] at ih
    refine Ev.step (f := fun k => provisoref05_put.j1 k n out true (rd l (i : Int)) l (l.length : Int) (i : Int) false) (fun k => ?_) (Ev.step (f := fun k => provisoref05_put.l0 k n (out ++ [rd l (i : Int)]) true l (l.length : Int) ((i + 1 : Nat) : Int)) (fun k => ?_) ih)
    · simp only [provisoref05_put.l0]
      rw [if_pos (by omega), if_pos (by omega), if_pos (by omega), if_pos True.intro]
    · simp only [provisoref05_put.j1]
      rw [if_neg (by decide), if_pos (by omega), wrap_one h1 hl]
theorem put_go (n : Int) (l : List Int) (hl : l.length ≤ 9223372036854775807) : ∀ (d i : Nat) (out : List Int), l.length - i = d → i ≤ l.length → out.length + d + 3 ≤ 17592186044416 → Ev (fun k => provisoref05_put.l0 k n out false l (l.length : Int) (i : Int)) (out ++ ins n (l.drop i))
  | 0, i, out, hd, hi, ho => by
    obtain rfl : i = l.length := by omega
    refine Ev.step (f := fun _ => some (out ++ [n])) (fun k => ?_) (by rw [List.drop_length]; exact Ev.now _)
    simp only [provisoref05_put.l0]
    rw [if_neg (by omega), if_neg (by decide), if_pos (by omega)]
  | d + 1, i, out, hd, hi, ho => by
    have h1 : i < l.length := by omega
    rw [drop_at h1]
    refine Ev.step (f := fun k => provisoref05_put.j1 k n out false (rd l (i : Int)) l (l.length : Int) (i : Int) (decide (n ≤ rd l (i : Int)))) (fun k => ?_) ?_
    · simp only [provisoref05_put.l0]
      rw [if_pos (by omega), if_pos (by omega), if_pos (by omega), if_neg (by decide)]
    by_cases h2 : n < rd l (i : Int)
    · have ih := put_done n l hl d (i + 1) (out ++ [n] ++ [rd l (i : Int)]) (by omega) (by omega) (by simp; omega)
      unfold ins
      rw [if_pos h2]
      rw [show (out ++ [n] ++ [rd l (i : Int)]) ++ l.drop (i + 1) = out ++ n :: rd l (i : Int) :: l.drop (i + 1) by simp] at ih
      refine Ev.step (f := fun k => provisoref05_put.l0 k n (out ++ [n] ++ [rd l (i : Int)]) true l (l.length : Int) ((i + 1 : Nat) : Int)) (fun k => ?_) ih
      simp only [provisoref05_put.j1]
      rw [if_pos (decide_eq_true (by omega)), if_pos h2, if_pos (by omega)]
      simp only [Option.bind_some]
      rw [if_pos (by simp; omega), wrap_one h1 hl]
    · unfold ins
      rw [if_neg h2]
      by_cases h3 : n = rd l (i : Int)
      · have ih := put_done n l hl d (i + 1) (out ++ [rd l (i : Int)]) (by omega) (by omega) (by simp; omega)
        rw [if_pos h3]
        rw [List.append_assoc, List.singleton_append] at ih
        refine Ev.step (f := fun k => provisoref05_put.l0 k n (out ++ [rd l (i : Int)]) true l (l.length : Int) ((i + 1 : Nat) : Int)) (fun k => ?_) ih
        simp only [provisoref05_put.j1]
        rw [if_pos (decide_eq_true (by omega)), if_neg h2, if_pos (by omega), wrap_one h1 hl]
      · have ih := put_go n l hl d (i + 1) (out ++ [rd l (i : Int)]) (by omega) (by omega) (by simp; omega)
        rw [if_neg h3]
        rw [List.append_assoc, List.singleton_append] at ih
        refine Ev.step (f := fun k => provisoref05_put.l0 k n (out ++ [rd l (i : Int)]) false l (l.length : Int) ((i + 1 : Nat) : Int)) (fun k => ?_) ih
        simp only [provisoref05_put.j1]
        rw [if_neg (fun h => by have := of_decide_eq_true h; omega), if_pos (by omega), wrap_one h1 hl]
theorem put_ev (n : Int) (l : List Int) (hl : l.length + 3 ≤ 17592186044416) : Ev (fun k => provisoref05_put.f k l n) (ins n l) := by
  have h := put_go n l (by omega) l.length 0 [] (by omega) (by omega) (by simp; omega)
  rw [List.drop_zero, List.nil_append] at h
  exact h
theorem ins_len (n : Int) : ∀ l : List Int, (ins n l).length ≤ l.length + 1
  | [] => by simp [ins]
  | x :: r => by
    unfold ins
    split
    · simp
    · split
      · simp
      · have := ins_len n r
        simp
        omega
theorem next_ev (x : S46) : Ev (fun k => provisoref05_Next.f k x.f0 x.f1 x.f2 x.f3) (nextL x) := by
  unfold nextL
  refine Ev.congr (f := fun k => (provisoref04_Size.f k x.f1).bind (fun t => if t = 0 then (provisoref05_Next.j0 k ([] : List Int) t true x.f0 x.f1 x.f2 x.f3) else ((provisoref05_placed.f x.f0 x.f1 x.f2 x.f3).bind fun t148 => (provisoref05_Next.j0 k ([] : List Int) t (!t148) x.f0 x.f1 x.f2 x.f3)))) (fun k => rfl) (Ev.bind (rsize_ev x.f1) ?_)
  by_cases h0 : szOf x.f1 = 0
  · simp only [h0, if_true]
    refine Ev.step (f := fun _ => some []) (fun k => ?_) (Ev.now _)
    simp only [provisoref05_Next.j0, if_true]
  · simp only [if_neg h0, rplaced_is, Option.bind_some]
    by_cases hp : placedB x.f0 = true
    · simp only [hp, if_true, Bool.not_true]
      have hz := szOf_range x.f1
      have hpl : 0 ≤ x.f0 ∧ x.f0 < 4096 := by unfold placedB at hp; simpa using hp
      have hw : wrap64 (x.f0 + szOf x.f1) = x.f0 + szOf x.f1 := by unfold wrap64; omega
      have hj : ∀ acc : List Int, acc.length ≤ 5 → Ev (fun k => provisoref05_Next.j1 k acc x.f0 x.f1 x.f2 x.f3) (if jumpsB x.f1 = true then ins x.f2 acc else acc) := fun acc ha => by
        by_cases hj : jumpsB x.f1 = true
        · rw [if_pos hj]
          refine Ev.step (f := fun k => (provisoref05_put.f k acc x.f2).bind (fun t => some t)) (fun k => ?_) (Ev.bind (put_ev x.f2 acc (by omega)) (Ev.now _))
          simp only [provisoref05_Next.j1, rjumps_is, Option.bind_some]
          rw [if_pos hj]
        · rw [if_neg hj]
          refine Ev.step (f := fun _ => some acc) (fun k => ?_) (Ev.now _)
          simp only [provisoref05_Next.j1, rjumps_is, Option.bind_some]
          rw [if_neg hj]
      by_cases he : endsB x.f1 = true
      · refine Ev.step (f := fun k => provisoref05_Next.j1 k [] x.f0 x.f1 x.f2 x.f3) (fun k => ?_) ?_
        · simp only [provisoref05_Next.j0, rends_is, Option.bind_some, Bool.false_eq_true, if_false]
          rw [if_pos he]
        · have h := hj [] (by simp)
          unfold nextKeys
          rw [if_pos he]
          split at h
          · rename_i hjj; rw [if_pos hjj]; exact h
          · rename_i hjj; rw [if_neg hjj]; exact h
      · refine Ev.step (f := fun k => (provisoref05_put.f k [] (x.f0 + szOf x.f1)).bind (fun t => provisoref05_Next.j1 k t x.f0 x.f1 x.f2 x.f3)) (fun k => ?_) ?_
        · simp only [provisoref05_Next.j0, rends_is, Option.bind_some, Bool.false_eq_true, if_false]
          rw [if_neg he, hw]
        · refine Ev.bind (put_ev _ [] (by simp)) ?_
          have h := hj (ins (x.f0 + szOf x.f1) []) (by simp [ins])
          unfold nextKeys
          rw [if_neg he]
          split at h
          · rename_i hjj; rw [if_pos hjj]; exact h
          · rename_i hjj; rw [if_neg hjj]; exact h
    · have hp' : placedB x.f0 = false := by simpa using hp
      simp only [hp', Bool.not_false, Bool.false_eq_true, if_false]
      refine Ev.step (f := fun _ => some []) (fun k => ?_) (Ev.now _)
      simp only [provisoref05_Next.j0, if_true]
theorem eq_ints (l : List Int) (hl : l.length ≤ 9223372036854775807) : ∀ (d i : Nat), l.length - i = d → i ≤ l.length → Ev (fun k => slices_Equal_int_int.l0 k l l (l.length : Int) (i : Int)) true
  | 0, i, hd, hi => by
    refine Ev.step (f := fun _ => some true) (fun k => ?_) (Ev.now _)
    simp only [slices_Equal_int_int.l0]
    rw [if_neg (by omega)]
  | d + 1, i, hd, hi => by
    have ih := eq_ints l hl d (i + 1) (by omega) (by omega)
    refine Ev.step (fun k => ?_) ih
    simp only [slices_Equal_int_int.l0]
    rw [if_pos (by omega), if_pos (by omega), if_pos (by omega), if_pos (by omega), if_pos True.intro, wrap_one (n := l.length) (by omega) hl]
theorem ints_ev (l : List Int) (hl : l.length ≤ 9223372036854775807) : Ev (fun k => slices_Equal_int_int.f k l l) true := by
  refine Ev.congr (fun k => ?_) (eq_ints l hl l.length 0 (by omega) (by omega))
  unfold slices_Equal_int_int.f
  rw [if_pos rfl]
  rfl
theorem eq_instrs (l : List S46) (hl : l.length ≤ 9223372036854775807) : ∀ (d i : Nat), l.length - i = d → i ≤ l.length → Ev (fun k => api_Instr_27.l0 k l l (l.length : Int) (i : Int)) true
  | 0, i, hd, hi => by
    refine Ev.step (f := fun _ => some true) (fun k => ?_) (Ev.now _)
    simp only [api_Instr_27.l0]
    rw [if_neg (by omega)]
  | d + 1, i, hd, hi => by
    have ih := eq_instrs l hl d (i + 1) (by omega) (by omega)
    refine Ev.step (fun k => ?_) ih
    simp only [api_Instr_27.l0]
    rw [if_pos (by omega), if_pos (by omega), if_pos (by omega), if_pos (by omega), if_neg (by simp), wrap_one (n := l.length) (by omega) hl]
theorem instrs_ev (l : List S46) (hl : l.length ≤ 9223372036854775807) : Ev (fun k => api_Instr_27.f k l l) true := by
  refine Ev.congr (fun k => ?_) (eq_instrs l hl l.length 0 (by omega) (by omega))
  unfold api_Instr_27.f
  rw [if_pos rfl]
  rfl
theorem i64_okB {x : Int} (h : (Lit.int .i64 x).wf = true) : okB x = true := by
  simp [Lit.wf, IntKind.min, IntKind.max, IntKind.signed, IntKind.bits] at h
  unfold okB
  rw [decide_eq_true (by omega), decide_eq_true (by omega)]
  rfl
theorem nextL_len (x : S46) : (nextL x).length ≤ 2 := by
  unfold nextL
  split
  · simp
  · split
    · unfold nextKeys srt
      have h1 := ins_len (x.f0 + szOf x.f1) []
      have h2 := ins_len x.f2 []
      have h3 := ins_len x.f2 (ins (x.f0 + szOf x.f1) [])
      split <;> split <;> simp at * <;> omega
    · simp
theorem asOk_of {l : List S46} (h : ∀ x ∈ l, Ok46 x) : asOk l = true ∧ atsOk l = true := by
  have hb : ∀ x ∈ l, okB x.f0 = true ∧ okB x.f2 = true := fun x hx => by
    obtain ⟨h0, h1, h2, h3⟩ := h x hx
    exact ⟨i64_okB h0, i64_okB h2⟩
  exact ⟨List.all_eq_true.2 (fun x hx => (hb x hx).2), List.all_eq_true.2 (fun x hx => (hb x hx).1)⟩
end Go.Proofs.Ytcffniaieegbgaa.Pure

end

section
namespace Go.Proofs.Ytcffniaieegbgaa.Pure
open Go.RowKit Go.Proofs.Ytcffniaieegbgaa.P Go.Proofs.YtcffniaieegbgaaW.PrintWords
set_option linter.unusedSimpArgs false
set_option linter.unusedVariables false
theorem nodup_len : ∀ (a m : List Int), a.Nodup → (∀ x ∈ a, x ∈ m) → a.length ≤ m.length
  | [], m, _, _ => by simp
  | x :: r, m, hn, hs => by
    have h1 := List.nodup_cons.1 hn
    have hx := hs x List.mem_cons_self
    have h2 : r.length ≤ (m.erase x).length := nodup_len r (m.erase x) h1.2 (fun y hy => by
      have hne : y ≠ x := fun e => h1.1 (e ▸ hy)
      exact (List.mem_erase_of_ne hne).2 (hs y (List.mem_cons_of_mem _ hy)))
    rw [List.length_erase_of_mem hx] at h2
    have : 0 < m.length := List.length_pos_of_mem hx
    simp
    omega
theorem firstAt_mem : ∀ (l : List S46) (j : Nat) (x v : Int), firstAt l j x = some v → x ∈ l.map (·.f0)
  | [], j, x, v, h => by cases h
  | y :: r, j, x, v, h => by
    unfold firstAt at h
    split at h
    · rename_i e; rw [← e]; simp
    · exact List.mem_map.2 (by
        obtain ⟨z, hz, e⟩ := List.mem_map.1 (firstAt_mem r (j + 1) x v h)
        exact ⟨z, List.mem_cons_of_mem _ hz, e⟩)
theorem firstAt_at : ∀ (l : List S46) (j i : Nat) (x : Int), firstAt l j x = some ((j + i : Nat) : Int) → i < l.length → (l.getD i z46).f0 = x
  | [], j, i, x, h, _ => by cases h
  | y :: r, j, i, x, h, hi => by
    unfold firstAt at h
    split at h
    · rename_i e
      have h9 := Option.some.inj h
      have : i = 0 := by omega
      subst this
      exact e
    · cases i with
      | zero =>
        obtain ⟨i', h1, h2⟩ := firstAt_lt r (j + 1) x _ h
        omega
      | succ i =>
        have h9 := firstAt_at r (j + 1) i x (by rw [h]; congr 2; omega) (by simpa using hi)
        simpa using h9
theorem firstAt_idx {l : List S46} {x v : Int} (h : firstAt l 0 x = some v) : ∃ i : Nat, v = (i : Int) ∧ i < l.length ∧ (rd_T46 l v).f0 = x := by
  obtain ⟨i, h1, h2⟩ := firstAt_lt l 0 x v h
  rw [Nat.zero_add] at h1
  subst h1
  refine ⟨i, rfl, h2, ?_⟩
  unfold rd_T46
  rw [Int.toNat_natCast]
  exact firstAt_at l 0 i x (by rw [Nat.zero_add]; exact h) h2
def nxA (l : List S46) (a : Int) : List Int := match firstAt l 0 a with | some i => nextL (rd_T46 l i) | none => []
inductive Rch (l : List S46) (a0 : Int) : Int → Prop
  | base : (firstAt l 0 a0).isSome = true → Rch l a0 a0
  | step {a b : Int} : Rch l a0 a → b ∈ nxA l a → (firstAt l 0 b).isSome = true → Rch l a0 b
theorem Rch.there {l : List S46} {a0 a : Int} (h : Rch l a0 a) : (firstAt l 0 a).isSome = true := by cases h <;> assumption
theorem Rch.le {l : List S46} {a0 : Int} {s : List Int} (hn : s.Nodup) (h : ∀ x ∈ s, Rch l a0 x) : s.length ≤ l.length := by
  have := nodup_len s (l.map (·.f0)) hn (fun x hx => by
    have h1 := (h x hx).there
    cases h2 : firstAt l 0 x with
    | none => rw [h2] at h1; cases h1
    | some v => exact firstAt_mem l 0 x v h2)
  simpa using this
theorem Rch.closed {l : List S46} {a0 : Int} {s : List Int} (h0 : (firstAt l 0 a0).isSome = true → a0 ∈ s) (hc : ∀ a ∈ s, ∀ b ∈ nxA l a, (firstAt l 0 b).isSome = true → b ∈ s) {a : Int} (h : Rch l a0 a) : a ∈ s := by
  induction h with
  | base h => exact h0 h
  | step _ hb hs ih => exact hc _ ih _ hb hs
theorem reach_go (l : List S46) (hl : l.length < 4398046511104) (a0 : Int) : ∀ (d : Nat) (st come : List Int), st.length + 3 * (l.length - come.length) ≤ d → st.length ≤ 1 + 2 * come.length → come.Nodup → (∀ x ∈ come, Rch l a0 x) → (∀ x ∈ st, (firstAt l 0 x).isSome = true → Rch l a0 x) → (∀ x ∈ come, ∀ b ∈ nxA l x, (firstAt l 0 b).isSome = true → b ∈ come ∨ b ∈ st) → ((firstAt l 0 a0).isSome = true → a0 ∈ come ∨ a0 ∈ st) →
    ∃ r, Ev (fun k => reachL k l st come) r ∧ r.Pairwise (· < ·) ∧ (∀ x, x ∈ r ↔ Rch l a0 x) := by
  intro d
  induction d using Nat.strongRecOn with
  | _ d ih =>
    intro st come hd hlen hn hc hs hcl h0
    have hcle := Rch.le hn hc
    rcases snoc_cases st with rfl | ⟨s, a, rfl⟩
    · refine ⟨srt come, Ev.step (f := fun _ => some (srt come)) (fun k => by rw [reachL_nil, if_pos (by omega)]) (Ev.now _), srt_strict _, fun x => ?_⟩
      rw [srt_mem]
      refine ⟨hc x, fun h => h.closed (s := come) (fun h9 => ?_) (fun a ha b hb hb2 => ?_)⟩
      · rcases h0 h9 with h | h
        · exact h
        · cases h
      · rcases hcl a ha b hb hb2 with h | h
        · exact h
        · cases h
    · simp only [List.length_append, List.length_singleton] at hd hlen
      cases hf : firstAt l 0 a with
      | none =>
        have hout : ∀ b, (firstAt l 0 b).isSome = true → b ∈ s ++ [a] → b ∈ s := fun b hb hm => by
          rcases List.mem_append.1 hm with h | h
          · exact h
          · rw [List.mem_singleton.1 h, hf] at hb; cases hb
        obtain ⟨r, h1, h2⟩ := ih (s.length + 3 * (l.length - come.length)) (by omega) s come (Nat.le_refl _) (by omega) hn hc (fun x hx => hs x (List.mem_append.2 (.inl hx)))
          (fun x hx b hb hb2 => (hcl x hx b hb hb2).imp id (hout b hb2)) (fun h9 => (h0 h9).imp id (hout _ h9))
        exact ⟨r, Ev.step (fun k => by rw [reachL_snoc, hf]) h1, h2⟩
      | some i =>
        by_cases hm : a ∈ come
        · have hout : ∀ b, b ∈ come ∨ b ∈ s ++ [a] → b ∈ come ∨ b ∈ s := fun b hb => by
            rcases hb with h | h
            · exact .inl h
            · rcases List.mem_append.1 h with h | h
              · exact .inr h
              · rw [List.mem_singleton.1 h]; exact .inl hm
          obtain ⟨r, h1, h2⟩ := ih (s.length + 3 * (l.length - come.length)) (by omega) s come (Nat.le_refl _) (by omega) hn hc (fun x hx => hs x (List.mem_append.2 (.inl hx)))
            (fun x hx b hb hb2 => hout b (hcl x hx b hb hb2)) (fun h9 => hout _ (h0 h9))
          exact ⟨r, Ev.step (fun k => by rw [reachL_snoc, hf]; simp only [if_pos hm]) h1, h2⟩
        · have hR : Rch l a0 a := hs a (by simp) (by rw [hf]; rfl)
          have hnl := nextL_len (rd_T46 l i)
          have hn2 : (come ++ [a]).Nodup := List.nodup_append.2 ⟨hn, by simp, fun x hx y hy => by
            rw [List.mem_singleton.1 hy]; exact fun e => hm (e ▸ hx)⟩
          have hc2 : ∀ x ∈ come ++ [a], Rch l a0 x := fun x hx => by
            rcases List.mem_append.1 hx with h | h
            · exact hc x h
            · rw [List.mem_singleton.1 h]; exact hR
          have hcle2 := Rch.le hn2 hc2
          simp only [List.length_append, List.length_singleton] at hcle2
          have hnx : nxA l a = nextL (rd_T46 l i) := by unfold nxA; rw [hf]
          obtain ⟨r, h1, h2⟩ := ih ((s ++ nextL (rd_T46 l i)).length + 3 * (l.length - (come ++ [a]).length)) (by simp only [List.length_append, List.length_singleton]; omega) (s ++ nextL (rd_T46 l i)) (come ++ [a]) (Nat.le_refl _) (by simp only [List.length_append, List.length_singleton]; omega) hn2 hc2
            (fun x hx hp => by
              rcases List.mem_append.1 hx with h | h
              · exact hs x (List.mem_append.2 (.inl h)) hp
              · exact Rch.step hR (by rw [hnx]; exact h) hp)
            (fun x hx b hb hb2 => by
              rcases List.mem_append.1 hx with h | h
              · rcases hcl x h b hb hb2 with h | h
                · exact .inl (List.mem_append.2 (.inl h))
                · rcases List.mem_append.1 h with h | h
                  · exact .inr (List.mem_append.2 (.inl h))
                  · exact .inl (List.mem_append.2 (.inr h))
              · rw [List.mem_singleton.1 h, hnx] at hb
                exact .inr (List.mem_append.2 (.inr hb)))
            (fun h9 => by
              rcases h0 h9 with h | h
              · exact .inl (List.mem_append.2 (.inl h))
              · rcases List.mem_append.1 h with h | h
                · exact .inr (List.mem_append.2 (.inl h))
                · exact .inl (List.mem_append.2 (.inr h)))
          refine ⟨r, Ev.step (fun k => ?_) h1, h2⟩
          rw [reachL_snoc, hf]
          simp only [if_neg hm]
          rw [if_pos (by simp only [List.length_append, List.length_singleton]; omega)]
theorem reach_ev (l : List S46) (hl : l.length < 4398046511104) (a0 : Int) (h1 : asOk l = true) (h2 : atsOk l = true) (h3 : okB a0 = true) : ∃ r, Ev (fun k => flow_Reach.f k l a0) r ∧ r.Pairwise (· < ·) ∧ (∀ x, x ∈ r ↔ Rch l a0 x) := by
  obtain ⟨r, h, hr⟩ := reach_go l hl a0 (1 + 3 * l.length) [a0] [] (by simp) (by simp) List.nodup_nil (fun x hx => by cases hx) (fun x hx hp => by rw [List.mem_singleton.1 hx] at hp ⊢; exact Rch.base hp) (fun x hx => by cases hx) (fun _ => .inr (by simp))
  refine ⟨r, Ev.congr (fun k => ?_) h, hr⟩
  unfold flow_Reach.f
  rw [if_pos hl, if_pos ⟨h1, h2, h3⟩]
end Go.Proofs.Ytcffniaieegbgaa.Pure

end

section
namespace Go.Proofs.Ytcffniaieegbgaa.Pure
open Go.RowKit Go.Proofs.Ytcffniaieegbgaa.P Go.Proofs.YtcffniaieegbgaaW.PrintWords
set_option linter.unusedSimpArgs false
set_option linter.unusedVariables false
def plc (l : List S46) (a : Int) : Int := (firstAt l 0 a).getD (-1)
theorem place_go (l : List S46) (hl : l.length ≤ 9223372036854775807) (a : Int) : ∀ (d i : Nat), l.length - i = d → i ≤ l.length → Ev (fun k => provisoref05_Place.l0 k a l (l.length : Int) (i : Int)) ((firstAt (l.drop i) i a).getD (-1))
  | 0, i, hd, hi => by
    obtain rfl : i = l.length := by omega
    refine Ev.step (f := fun _ => some (-1)) (fun k => ?_) (by rw [List.drop_length]; exact Ev.now _)
    simp only [provisoref05_Place.l0]
    rw [if_neg (by omega)]
  | d + 1, i, hd, hi => by
    have h1 : i < l.length := by omega
    rw [drop_atI h1]
    unfold firstAt
    by_cases h2 : (rd_T46 l (i : Int)).f0 = a
    · rw [if_pos h2]
      refine Ev.step (f := fun _ => some (i : Int)) (fun k => ?_) (Ev.now _)
      simp only [provisoref05_Place.l0]
      rw [if_pos (by omega), if_pos (by omega), if_pos (by omega), if_pos h2]
    · rw [if_neg h2]
      have ih := place_go l hl a d (i + 1) (by omega) (by omega)
      refine Ev.step (fun k => ?_) ih
      simp only [provisoref05_Place.l0]
      rw [if_pos (by omega), if_pos (by omega), if_pos (by omega), if_neg h2, wrap_one h1 hl]
theorem place_ev (l : List S46) (hl : l.length ≤ 9223372036854775807) (a : Int) : Ev (fun k => provisoref05_Place.f k l a) (plc l a) := by
  have h := place_go l hl a l.length 0 (by omega) (by omega)
  rw [List.drop_zero] at h
  exact h
def stepM (l : List S46) (s : List Bool × List Int) (b : Int) : List Bool × List Int := match firstAt l 0 b with
  | none => s
  | some j => if rdOf false s.1 j = true then s else (s.1.set j.toNat true, s.2 ++ [j])
theorem set_count : ∀ (m : List Bool) (j : Nat), j < m.length → m.getD j false = false → (m.set j true).count false + 1 = m.count false
  | [], j, h, _ => by simp at h
  | b :: m, 0, h, h2 => by
    have : b = false := h2
    subst this
    simp
  | b :: m, j + 1, h, h2 => by
    have ih := set_count m j (by simpa using h) (by simpa using h2)
    cases b <;> simp [List.set_cons_succ, List.count_cons] <;> omega
structure Inv (l : List S46) (a0 : Int) (met : List Bool) (op : List Int) : Prop where
  len : met.length = l.length
  inn : ∀ j ∈ op, ∃ i : Nat, j = (i : Int) ∧ i < l.length ∧ met.getD i false = true
  rch : ∀ i : Nat, met.getD i false = true → firstAt l 0 (l.getD i z46).f0 = some (i : Int) ∧ Rch l a0 (l.getD i z46).f0
def Marked (l : List S46) (met : List Bool) (b : Int) : Prop := ∃ i : Nat, firstAt l 0 b = some (i : Int) ∧ met.getD i false = true
theorem getD_set (m : List Bool) (j i : Nat) (hj : j < m.length) : (m.set j true).getD i false = if i = j then true else m.getD i false := by
  simp only [List.getD_eq_getElem?_getD, List.getElem?_set]
  by_cases e : j = i
  · subst e
    rw [if_pos rfl, if_pos hj, if_pos rfl]; rfl
  · rw [if_neg e, if_neg (Ne.symm e)]
theorem stepM_ok {l : List S46} {a0 : Int} {met : List Bool} {op : List Int} (h : Inv l a0 met op) {a : Int} (ha : Rch l a0 a) {b : Int} (hb : b ∈ nxA l a) :
    Inv l a0 (stepM l (met, op) b).1 (stepM l (met, op) b).2 ∧ (stepM l (met, op) b).2.length + (stepM l (met, op) b).1.count false = op.length + met.count false ∧ (∀ i : Nat, met.getD i false = true → (stepM l (met, op) b).1.getD i false = true) ∧ ((firstAt l 0 b).isSome = true → Marked l (stepM l (met, op) b).1 b) ∧ (∀ i : Nat, (stepM l (met, op) b).1.getD i false = true → met.getD i false = true ∨ (i : Int) ∈ (stepM l (met, op) b).2) ∧ (∀ j ∈ op, j ∈ (stepM l (met, op) b).2) := by
  unfold stepM
  cases hf : firstAt l 0 b with
  | none => exact ⟨h, rfl, fun _ h => h, (fun h => by cases h), fun _ h => .inl h, fun _ h => h⟩
  | some j =>
    obtain ⟨i, rfl, hi, he⟩ := firstAt_idx hf
    have hr : rdOf false met (i : Int) = met.getD i false := by unfold rdOf; rw [Int.toNat_natCast]
    simp only [hr, Int.toNat_natCast]
    by_cases hm : met.getD i false = true
    · rw [if_pos hm]
      exact ⟨h, rfl, fun _ h => h, fun _ => ⟨i, hf, hm⟩, fun _ h => .inl h, fun _ h => h⟩
    · rw [if_neg hm]
      have hml : i < met.length := by rw [h.len]; exact hi
      have hm' : met.getD i false = false := by simpa using hm
      have hg := fun x => getD_set met i x hml
      have hrch : Rch l a0 b := Rch.step ha hb (by rw [hf]; rfl)
      have he' : (l.getD i z46).f0 = b := by
        unfold rd_T46 at he
        rw [Int.toNat_natCast] at he
        exact he
      refine ⟨⟨by simp [h.len], fun j hj => ?_, fun x hx => ?_⟩, ?_, fun x hx => ?_, fun _ => ⟨i, hf, ?_⟩, fun x hx => ?_, fun j hj => List.mem_append.2 (.inl hj)⟩
      · rcases List.mem_append.1 hj with hj | hj
        · obtain ⟨x, h1, h2, h3⟩ := h.inn j hj
          exact ⟨x, h1, h2, by rw [hg]; split <;> first | rfl | exact h3⟩
        · exact ⟨i, List.mem_singleton.1 hj, hi, by rw [hg, if_pos rfl]⟩
      · rw [hg] at hx
        by_cases e : x = i
        · subst e
          rw [he']
          exact ⟨hf, hrch⟩
        · rw [if_neg e] at hx
          exact h.rch x hx
      · have := set_count met i hml hm'
        simp only [List.length_append, List.length_singleton]
        omega
      · rw [hg]; split <;> first | rfl | exact hx
      · rw [hg, if_pos rfl]
      · rw [hg] at hx
        by_cases e : x = i
        · subst e; exact .inr (by simp)
        · rw [if_neg e] at hx
          exact .inl hx
theorem fold_ok {l : List S46} {a0 : Int} {a : Int} (ha : Rch l a0 a) : ∀ (bs : List Int), (∀ b ∈ bs, b ∈ nxA l a) → ∀ (met : List Bool) (op : List Int), Inv l a0 met op →
    Inv l a0 (bs.foldl (stepM l) (met, op)).1 (bs.foldl (stepM l) (met, op)).2 ∧ (bs.foldl (stepM l) (met, op)).2.length + (bs.foldl (stepM l) (met, op)).1.count false = op.length + met.count false ∧ (∀ i : Nat, met.getD i false = true → (bs.foldl (stepM l) (met, op)).1.getD i false = true) ∧ (∀ b ∈ bs, (firstAt l 0 b).isSome = true → Marked l (bs.foldl (stepM l) (met, op)).1 b) ∧ (∀ i : Nat, (bs.foldl (stepM l) (met, op)).1.getD i false = true → met.getD i false = true ∨ (i : Int) ∈ (bs.foldl (stepM l) (met, op)).2) ∧ (∀ j ∈ op, j ∈ (bs.foldl (stepM l) (met, op)).2)
  | [], _, met, op, h => ⟨h, rfl, fun _ h => h, (fun b hb => by cases hb), fun _ h => .inl h, fun _ h => h⟩
  | b :: bs, hbs, met, op, h => by
    obtain ⟨i1, c1, k1, m1, w1, o1⟩ := stepM_ok h ha (hbs b List.mem_cons_self)
    obtain ⟨i2, c2, k2, m2, w2, o2⟩ := fold_ok ha bs (fun x hx => hbs x (List.mem_cons_of_mem _ hx)) (stepM l (met, op) b).1 (stepM l (met, op) b).2 i1
    rw [List.foldl_cons]
    refine ⟨i2, by rw [c2, c1], fun i hi => k2 i (k1 i hi), fun x hx hp => ?_, fun i hi => ?_, fun j hj => o2 j (o1 j hj)⟩
    · rcases List.mem_cons.1 hx with rfl | hx
      · obtain ⟨i, h1, h2⟩ := m1 hp
        exact ⟨i, h1, k2 i h2⟩
      · exact m2 x hx hp
    · rcases w2 i hi with h | h
      · rcases w1 i h with h | h
        · exact .inl h
        · exact .inr (o2 _ h)
      · exact .inr h
theorem inner_go (l : List S46) (hl : l.length < 4398046511104) (out bs : List Int) (hbl : bs.length ≤ 9223372036854775807) (r : List Int) : ∀ (d i : Nat) (met : List Bool) (op : List Int), bs.length - i = d → i ≤ bs.length → met.length = l.length → op.length + d ≤ 17592186044416 → Ev (fun k => provisoref05_Reach.l0 k l ((bs.drop i).foldl (stepM l) (met, op)).1 ((bs.drop i).foldl (stepM l) (met, op)).2 out) r → Ev (fun k => provisoref05_Reach.l1 k l met op out bs (bs.length : Int) (i : Int)) r
  | 0, i, met, op, hd, hi, hm, ho, h => by
    obtain rfl : i = bs.length := by omega
    rw [List.drop_length] at h
    refine Ev.step (fun k => ?_) h
    simp only [provisoref05_Reach.l1]
    rw [if_neg (by omega)]
    rfl
  | d + 1, i, met, op, hd, hi, hm, ho, h => by
    have h1 : i < bs.length := by omega
    rw [drop_at h1, List.foldl_cons] at h
    have hp := place_ev l (by omega) (rd bs (i : Int))
    refine Ev.step (f := fun k => (provisoref05_Place.f k l (rd bs (i : Int))).bind (fun t222 => (if t222 ≥ 0 then (if 0 ≤ t222 then (if t222 < (met.length : Int) then (if rdOf false met t222 = true then (provisoref05_Reach.l1 k l met op out bs (bs.length : Int) (wrap64 ((i : Int) + 1))) else (if op.length < 17592186044416 then (provisoref05_Reach.l1 k l (met.set (t222 : Int).toNat true) (op ++ [t222]) out bs (bs.length : Int) (wrap64 ((i : Int) + 1))) else (none))) else (none)) else (none)) else (provisoref05_Reach.l1 k l met op out bs (bs.length : Int) (wrap64 ((i : Int) + 1)))))) (fun k => ?_) (Ev.bind hp ?_)
    · simp only [provisoref05_Reach.l1]
      rw [if_pos (by omega), if_pos (by omega), if_pos (by omega)]
    · rw [wrap_one h1 hbl]
      unfold plc
      unfold stepM at h
      cases hf : firstAt l 0 (rd bs (i : Int)) with
      | none =>
        rw [hf] at h
        simp only [Option.getD_none]
        have ih := inner_go l hl out bs hbl r d (i + 1) met op (by omega) (by omega) hm (by omega) h
        refine Ev.congr (fun k => ?_) ih
        rw [if_neg (by omega)]
      | some j =>
        obtain ⟨jj, rfl, hj, _⟩ := firstAt_idx hf
        rw [hf] at h
        simp only [Option.getD_some]
        by_cases hm2 : rdOf false met (jj : Int) = true
        · simp only [if_pos hm2] at h
          have ih := inner_go l hl out bs hbl r d (i + 1) met op (by omega) (by omega) hm (by omega) h
          refine Ev.congr (fun k => ?_) ih
          rw [if_pos (by omega), if_pos (by omega), if_pos (by omega), if_pos hm2]
        · simp only [if_neg hm2] at h
          have ih := inner_go l hl out bs hbl r d (i + 1) (met.set (jj : Int).toNat true) (op ++ [(jj : Int)]) (by omega) (by omega) (by simp [hm]) (by simp; omega) h
          refine Ev.congr (fun k => ?_) ih
          rw [if_pos (by omega), if_pos (by omega), if_pos (by omega), if_neg hm2, if_pos (by omega)]
theorem strict_nodup {l : List Int} (h : l.Pairwise (· < ·)) : l.Nodup := h.imp (fun h => by omega)
theorem rreach_go (l : List S46) (hl : l.length < 4398046511104) (a0 : Int) : ∀ (d : Nat) (met : List Bool) (op out : List Int), op.length + met.count false = d → op.length + met.count false ≤ l.length → Inv l a0 met op → out.Pairwise (· < ·) → (∀ x ∈ out, Rch l a0 x) → (∀ x ∈ out, ∀ b ∈ nxA l x, (firstAt l 0 b).isSome = true → Marked l met b) → (∀ i : Nat, met.getD i false = true → (l.getD i z46).f0 ∈ out ∨ (i : Int) ∈ op) → ((firstAt l 0 a0).isSome = true → Marked l met a0) →
    ∃ r, Ev (fun k => provisoref05_Reach.l0 k l met op out) r ∧ r.Pairwise (· < ·) ∧ (∀ x, x ∈ r ↔ Rch l a0 x) := by
  intro d
  induction d with
  | zero =>
    intro met op out hd hlen hI hs hr hc hm h0
    have : op = [] := List.length_eq_zero_iff.1 (by omega)
    subst this
    refine ⟨out, Ev.step (f := fun _ => some out) (fun k => by simp only [provisoref05_Reach.l0]; rw [if_neg (by simp)]) (Ev.now _), hs, fun x => ⟨hr x, fun h => h.closed (s := out) (fun h9 => ?_) (fun a ha b hb hb2 => ?_)⟩⟩
    · obtain ⟨i, h1, h2⟩ := h0 h9
      rcases hm i h2 with h | h
      · obtain ⟨i', e1, _, e2⟩ := firstAt_idx h1
        have e1 : i = i' := by omega
        subst e1
        unfold rd_T46 at e2
        rw [Int.toNat_natCast] at e2
        rwa [e2] at h
      · cases h
    · obtain ⟨i, h1, h2⟩ := hc a ha b hb hb2
      rcases hm i h2 with h | h
      · obtain ⟨i', e1, _, e2⟩ := firstAt_idx h1
        have e1 : i = i' := by omega
        subst e1
        unfold rd_T46 at e2
        rw [Int.toNat_natCast] at e2
        rwa [e2] at h
      · cases h
  | succ d ih =>
    intro met op out hd hlen hI hs hr hc hm h0
    cases op with
    | nil =>
      refine ⟨out, Ev.step (f := fun _ => some out) (fun k => by simp only [provisoref05_Reach.l0]; rw [if_neg (by simp)]) (Ev.now _), hs, fun x => ⟨hr x, fun h => h.closed (s := out) (fun h9 => ?_) (fun a ha b hb hb2 => ?_)⟩⟩
      · obtain ⟨i, h1, h2⟩ := h0 h9
        rcases hm i h2 with h | h
        · obtain ⟨i', e1, _, e2⟩ := firstAt_idx h1
          have e1 : i = i' := by omega
          subst e1
          unfold rd_T46 at e2
          rw [Int.toNat_natCast] at e2
          rwa [e2] at h
        · cases h
      · obtain ⟨i, h1, h2⟩ := hc a ha b hb hb2
        rcases hm i h2 with h | h
        · obtain ⟨i', e1, _, e2⟩ := firstAt_idx h1
          have e1 : i = i' := by omega
          subst e1
          unfold rd_T46 at e2
          rw [Int.toNat_natCast] at e2
          rwa [e2] at h
        · cases h
    | cons j op =>
      obtain ⟨i, rfl, hi, hmi⟩ := hI.inn j List.mem_cons_self
      obtain ⟨hfi, hRi⟩ := hI.rch i hmi
      obtain ⟨x, hx⟩ : ∃ x, x = l.getD i z46 := ⟨_, rfl⟩
      have hxr : rd_T46 l (i : Int) = x := by rw [hx]; unfold rd_T46; rw [Int.toNat_natCast]
      rw [← hx] at hfi hRi
      have hnx : nxA l x.f0 = nextL x := by unfold nxA; rw [hfi]; simp only [hxr]
      have hnl := nextL_len x
      have hol := Rch.le (strict_nodup hs) hr
      simp only [List.length_cons] at hd hlen
      have hI2 : Inv l a0 met op := ⟨hI.len, fun j hj => hI.inn j (List.mem_cons_of_mem _ hj), hI.rch⟩
      obtain ⟨q1, q2, q3, q4, q5, q6⟩ := fold_ok hRi (nextL x) (fun b hb => by rw [hnx]; exact hb) met op hI2
      obtain ⟨r, h1, h2⟩ := ih ((nextL x).foldl (stepM l) (met, op)).1 ((nextL x).foldl (stepM l) (met, op)).2 (ins x.f0 out) (by omega) (by omega) q1 (ins_strict _ _ hs)
        (fun y hy => by
          rcases (ins_mem _ _ _).1 hy with rfl | h
          · exact hRi
          · exact hr y h)
        (fun y hy b hb hb2 => by
          rcases (ins_mem _ _ _).1 hy with rfl | h
          · exact q4 b (by rw [← hnx]; exact hb) hb2
          · obtain ⟨z, e1, e2⟩ := hc y h b hb hb2
            exact ⟨z, e1, q3 z e2⟩)
        (fun z hz => by
          rcases q5 z hz with h | h
          · rcases hm z h with h | h
            · exact .inl ((ins_mem _ _ _).2 (.inr h))
            · rcases List.mem_cons.1 h with h | h
              · have : z = i := by omega
                subst this
                rw [← hx]
                exact .inl ((ins_mem _ _ _).2 (.inl rfl))
              · exact .inr (q6 _ h)
          · exact .inr h)
        (fun h9 => by
          obtain ⟨z, e1, e2⟩ := h0 h9
          exact ⟨z, e1, q3 z e2⟩)
      refine ⟨r, ?_, h2⟩
      have hin := inner_go l hl (ins x.f0 out) (nextL x) (by omega) r (nextL x).length 0 met op (by omega) (by omega) hI.len (by omega) (by rw [List.drop_zero]; exact h1)
      refine Ev.step (f := fun k => (provisoref05_put.f k out x.f0).bind (fun t214 => ((provisoref05_Next.f k x.f0 x.f1 x.f2 x.f3).bind fun t218 => (provisoref05_Reach.l1 k l met op t214 t218 (t218.length : Int) 0)))) (fun k => ?_) (Ev.bind (put_ev _ _ (by omega)) (Ev.bind (next_ev x) hin))
      have hr0 : rd ((i : Int) :: op) 0 = (i : Int) := rfl
      simp only [provisoref05_Reach.l0, hr0, hxr]
      rw [if_pos (by simp only [List.length_cons]; omega), if_pos (by simp only [List.length_cons]; omega), if_pos (by simp only [List.length_cons]; omega), if_pos (by omega), if_pos (by omega)]
      rfl
theorem rreach_ev (l : List S46) (hl : l.length < 4398046511104) (a0 : Int) : ∃ r, Ev (fun k => provisoref05_Reach.f k l a0) r ∧ r.Pairwise (· < ·) ∧ (∀ x, x ∈ r ↔ Rch l a0 x) := by
  have hp := place_ev l (by omega) a0
  have hbeg : ∀ k, provisoref05_Reach.f k l a0 = (provisoref05_Place.f k l a0).bind fun t204 => (if t204 < 0 then (some ([] : List Int)) else (if 0 ≤ t204 then (if t204 < (l.length : Int) then (provisoref05_Reach.l0 k l ((List.replicate l.length false).set (t204 : Int).toNat true) (([t204] : List Int)) ([] : List Int)) else (none)) else (none))) := fun k => by
    unfold provisoref05_Reach.f
    rw [if_pos (by omega), if_pos (by omega)]
    simp only [Option.bind_some, Int.toNat_natCast, List.length_replicate]
  cases hf : firstAt l 0 a0 with
  | none =>
    refine ⟨[], Ev.congr hbeg (Ev.bind hp ?_), List.Pairwise.nil, fun x => ⟨fun h => (by cases h), fun h => ?_⟩⟩
    · unfold plc
      rw [hf]
      exact Ev.now _
    · have : ∀ x, Rch l a0 x → False := fun x h => by
        induction h with
        | base h => rw [hf] at h; cases h
        | step _ _ _ ih => exact ih
      exact (this x h).elim
  | some j =>
    obtain ⟨i, rfl, hi, he⟩ := firstAt_idx hf
    have he' : (l.getD i z46).f0 = a0 := by
      unfold rd_T46 at he
      rw [Int.toNat_natCast] at he
      exact he
    have hg : ∀ x, ((List.replicate l.length false).set i true).getD x false = if x = i then true else false := fun x => by
      rw [getD_set _ _ _ (by simpa using hi)]
      by_cases e : x = i
      · rw [if_pos e, if_pos e]
      · rw [if_neg e, if_neg e, List.getD_eq_getElem?_getD, List.getElem?_replicate]
        split <;> rfl
    have hcnt := set_count (List.replicate l.length false) i (by simpa using hi) (by rw [List.getD_eq_getElem?_getD, List.getElem?_replicate]; split <;> rfl)
    rw [List.count_replicate_self] at hcnt
    obtain ⟨r, h1, h2⟩ := rreach_go l hl a0 _ ((List.replicate l.length false).set i true) [(i : Int)] [] rfl (by simp only [List.length_singleton]; omega)
      ⟨by simp, fun j hj => ⟨i, List.mem_singleton.1 hj, hi, by rw [hg, if_pos rfl]⟩, fun x hx => by
        rw [hg] at hx
        by_cases e : x = i
        · subst e
          rw [he']
          exact ⟨hf, Rch.base (by rw [hf]; rfl)⟩
        · rw [if_neg e] at hx; cases hx⟩ List.Pairwise.nil (fun x hx => by cases hx) (fun x hx => by cases hx) (fun x hx => by
        rw [hg] at hx
        by_cases e : x = i
        · subst e; exact .inr (by simp)
        · rw [if_neg e] at hx; cases hx) (fun _ => ⟨i, hf, by rw [hg, if_pos rfl]⟩)
    refine ⟨r, Ev.congr hbeg (Ev.bind hp ?_), h2⟩
    unfold plc
    rw [hf]
    simp only [Option.getD_some]
    refine Ev.congr (fun k => ?_) h1
    rw [if_neg (by omega), if_pos (by omega), if_pos (by omega), Int.toNat_natCast]
theorem reach_same (l : List S46) (hl : l.length < 4398046511104) (a0 : Int) (h1 : asOk l = true) (h2 : atsOk l = true) (h3 : okB a0 = true) : ∃ r, Ev (fun k => flow_Reach.f k l a0) r ∧ Ev (fun k => provisoref05_Reach.f k l a0) r ∧ r.Pairwise (· < ·) ∧ (∀ x, x ∈ r ↔ Rch l a0 x) ∧ r.length ≤ l.length := by
  obtain ⟨r, e1, s1, m1⟩ := reach_ev l hl a0 h1 h2 h3
  obtain ⟨q, e2, s2, m2⟩ := rreach_ev l hl a0
  have e : q = r := strict_eq s2 s1 (fun y => by rw [m1, m2])
  subst e
  exact ⟨q, e1, e2, s1, m1, Rch.le (strict_nodup s1) (fun x hx => (m1 x).1 hx)⟩
end Go.Proofs.Ytcffniaieegbgaa.Pure

end

section
namespace Go.Proofs.Ytcffniaieegbgaa.Pure
open Go.RowKit Go.Proofs.Ytcffniaieegbgaa.P Go.Proofs.YtcffniaieegbgaaW.PrintWords
theorem FlowReaches : provisolaw05_FlowReaches.Pure := by
  intro l a ⟨_, hl, hok⟩ ha
  obtain ⟨ho1, ho2⟩ := asOk_of hok
  have hlen : l.length < 4398046511104 := by omega
  obtain ⟨r, ⟨K1, h1⟩, ⟨K2, h2⟩, _, _, hr⟩ := reach_same l hlen a ho1 ho2 (i64_okB ha)
  obtain ⟨K3, h3⟩ := ints_ev r (by omega)
  obtain ⟨K5, h5⟩ := instrs_ev l (by omega)
  refine ⟨K1 + K2 + K3 + K5, ?_⟩
  have h1 := h1 (K1 + K2 + K3 + K5) (by omega)
  have h2 := h2 (K1 + K2 + K3 + K5) (by omega)
  have h3 := h3 (K1 + K2 + K3 + K5) (by omega)
  have h5 := h5 (K1 + K2 + K3 + K5) (by omega)
  simp only at h1 h2 h3 h5
  unfold provisolaw05_FlowReaches.f api_Instr_33.f
  rw [if_pos hlen]
  simp only [Option.bind_some]
  rw [h1]
  simp only [Option.bind_some]
  rw [h2]
  simp only [Option.bind_some]
  rw [h3]
  simp only [Option.bind_some, if_true]
  rw [h5]
  rfl
end Go.Proofs.Ytcffniaieegbgaa.Pure

end

section
namespace Go.Proofs.Ytcffniaieegbgaa.flowReaches
open Go.ChangeShapes Go.WideShapes Go.ChangeAt Go.RowKit Go.Proofs.YtcffniaieegbgaaW.PrintWords Go.Proofs.Ytcffniaieegbgaa.Sees Go.Proofs.Ytcffniaieegbgaa.P
open Go.ChangeMaps (open_string shut_string)
set_option linter.unusedVariables false
set_option linter.unusedSimpArgs false
theorem own : ownKnob Try.prog.godebug = none := by kernel_rfl
theorem laidOut : laidOutB Try.prog = true := by kernel_rfl
set_option maxRecDepth 100000 in
theorem lifted (os : Os) (started : os.Started) (H : Type) (enc : TypeId × Value → H) :
    ReturnsInHanded {} Try.checked os 8 .any (Rows.flowReachesSpec.pre6 enc Try.prog Try.f8 Rows.flowReachesRow.domain false) (Rows.flowReachesSpec.post enc Try.prog Try.f8 false true false false) := by
  refine returnsInHanded_of_change_sized (C := Try.checked) own started (by kernel_rfl) Try.func8
    (ChangeSpec.witness6 (enc := enc) (C := Try.checked) false ⟨#[], #[.slice none 0 0, .int .i64 0], []⟩ 8 (by kernel_rfl) (by kernel_rfl) (by kernel_rfl) (by kernel_rfl)) ?_
  intro W base args ds gs before hval0 hW hcnd hsz0 _
  have hsz : (DataW.weightsEach Try.prog (Try.f8.params.toList ++ Rows.flowReachesSpec.plain.varTypes Try.prog) (ds ++ gs)).all (· ≤ reachBytes) = true := hsz0
  have hval : ∀ (j : Nat) t v, Try.f8.params[j]? = some t → args[j]? = some v → Value.okWide Try.prog W .any base t v := hval0
  have hW' := hW
  obtain ⟨p, q, hA0, hV, rfl, hfz, hnd⟩ := hW
  have hA : DataW.TrodAll enc Try.prog W 0 (fun _ => true) true Try.f8.params.toList args.toList ds p := hA0
  rw [Try.params8] at hA hval hsz
  obtain ⟨v0, vs0, d0, ds0, p0, q0, hargs, rfl, rfl, h0, r0⟩ := trodAll_cons hA
  obtain ⟨v1, vs1, d1, ds1, p1, q1, rfl, rfl, rfl, h1, r1⟩ := trodAll_cons r0
  obtain ⟨rfl, rfl, rfl⟩ := trodAll_nil r1
  obtain rfl : args = #[v0, v1] := by cases args; simp_all
  obtain ⟨rfl, rfl⟩ := trodVars_none hV
  have k0 := h0
  have lt0 : ∀ x ∈ p0, x.block < W.heap.size := by obtain ⟨m, hm⟩ := k0; exact DataW.trod_lt m _ _ _ hm
  obtain ⟨y0, hy0, oy0⟩ := see_arg (j := 0) (t := 23) (sees_slice (B := 32) Try.underlying23 (by kernel_rfl) (by kernel_rfl) sees46) hsz rfl rfl h0
  obtain ⟨a0, len0, cap0, rfl⟩ := okWide_slice Try.underlying23 (hval 0 23 v0 rfl rfl)
  obtain ⟨rfl, hc0, hr0⟩ := see_slice rfl hy0
  have k1 := h1
  have lt1 : ∀ x ∈ p1, x.block < W.heap.size := by obtain ⟨m, hm⟩ := k1; exact DataW.trod_lt m _ _ _ hm
  obtain ⟨y1, hy1, oy1⟩ := see_arg (j := 1) (t := 3) (sees_int Try.underlying3) hsz rfl rfl h1
  obtain ⟨z1, rfl, rfl, rfl, _⟩ := open_int Try.underlying3 (hval 1 3 v1 rfl rfl) h1
  obtain rfl : z1 = y1 := by have e_ := hy1; simp [Kd.int, Kd.bool, Kd.string, Kd.scalar, Value.cells] at e_; exact e_
  clear hA0 hval0 hsz0 hsz
  obtain ⟨k, hk⟩ := Pure.FlowReaches y0 z1 oy0 oy1
  refine (provisolaw05_FlowReaches.calls k _ _ y0 z1 true W hr0 hc0 hk).mono ?_
  rintro e W' ⟨rfl, bel0⟩
  have bel : Below W.heap.size W W' := bel0
  exact ⟨_, rfl, _, _, _, [], _, [], hW', trodAll_mk1 (shut_bool Try.underlying4 _), (trodAll_cons_mk (Below.trod laidOut (by kernel_rfl) (of_decide_eq_true (by kernel_rfl)) k0 bel lt0) (trodAll_cons_mk (Below.trod laidOut (by kernel_rfl) (of_decide_eq_true (by kernel_rfl)) k1 bel lt1) trodAll_mk0)), rfl, bel.frame _, fun h => by cases h⟩
theorem over : Rows.flowReachesRow.holds Try.pinned (OpenSpec.ofChange Rows.flowReachesSpec) :=
  OpenClaim.holds_of_wide 8 Try.f8 rfl rfl rfl rfl rfl rfl rfl ⟨rfl, rfl, rfl, rfl, rfl⟩ rfl rfl rfl rfl rfl (by kernel_rfl) Try.func8 (by kernel_rfl)
    (of_decide_eq_true (by kernel_rfl)) (by unfold Func.isWrapper; first | (rw [if_pos (by decide +kernel)]; kernel_rfl) | (rw [if_neg (by decide +kernel)]; exact ⟨rfl, rfl⟩))
    (fun os started H enc _ => lifted os started H enc)
theorem proved : Rows.FlowReachesSaid := over
end Go.Proofs.Ytcffniaieegbgaa.flowReaches
namespace Go.Proofs.Ytcffniaieegbgaa
theorem flowReaches_holds : Rows.FlowReachesSaid := flowReaches.proved
end Go.Proofs.Ytcffniaieegbgaa

end

