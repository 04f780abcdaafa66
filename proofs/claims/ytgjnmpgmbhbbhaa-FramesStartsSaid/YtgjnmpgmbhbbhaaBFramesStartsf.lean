/- Proved: the law FramesStarts holds for every input that the row lets in. No condition of ours. -/
import Derived.Test.YtgjnmpgmbhbbhaaBFramesStartse
import Derived.Test.YtgjnmpgmbhbbhaaRows
import Derived.ShutString
import Derived.ChangeOld
import Derived.Lib.SmallJoins
section
namespace Go.Proofs.Ytgjnmpgmbhbbhaa.P
open Go.RowKit Go.Proofs.YtgjnmpgmbhbbhaaW.PrintWords Go.Proofs.YtgjnmpgmbhbbhaaW.PrintLast Go.Proofs.YtgjnmpgmbhbbhaaW.PrintMore
attribute [local go_sem] max2_int min2_int max_two min_two max_three min_three max_four min_four   -- for this text's walks alone
set_option linter.unusedVariables false
set_option linter.unusedSimpArgs false

set_option maxHeartbeats 3200000 in
set_option maxRecDepth 100000 in
theorem refStart_calls (A0 : Option Addr) (c0 : Nat) (l0 : List S59) (A1 : Option Addr) (c1 : Nat) (l1 : List Int) (n : Int) (r : Fr × Int) (w : World) (hr0 : Kd.C k59 w A0 l0.length l0) (hc0 : l0.length ≤ c0) (hr1 : Kd.C (Kd.int .u8) w A1 l1.length l1) (hc1 : l1.length ≤ c1) (h : startS (provisoref03_stored.f l0) l1 n = some r) : Calls Try.prog 17 #[.slice A0 l0.length c0, .slice A1 l1.length c1, .int .i64 n] w fun e w' => e = .returned (.tuple #[.agg r.1.a, .int .i64 r.2]) ∧ Below w.heap.size w w' := by
  have HR0 := Aside0.mk hr0
  have HC0 := Aside0.mk hc0
  have HR1 := Aside0.mk hr1
  have HC1 := Aside0.mk hc1
  have HF : Aside0 (Fr.zero.ok) := ⟨rfl⟩
  have HEF := Aside0.mk (emptyS_ok n)
  have HA := Aside0.mk (Frs.nil w)
  have hlen1 : l1.length ≤ 9223372036854775807 := hr1.2.1
  by_cases c : (emptyS n).2 ≠ 0 ∨ l1.length > 8 ∨ (l1.length : Int) > n
  · unfold startS at h
    rw [if_pos c] at h
    obtain rfl := Option.some.inj h
    clear hr0 hc0 hr1 hc1 h
    obtain ⟨es, hes⟩ : ∃ es, es = emptyS n := ⟨_, rfl⟩
    rw [← hes] at c HEF
    have HES := Aside0.mk hes
    clear hes
    by_cases e1 : es.2 = 0
    · have e1b : (es.2 != 0) = false := by rw [e1]; rfl
      by_cases e2 : 8 < l1.length
      · have d2 : decide (8 < l1.length) = true := decide_eq_true e2
        have d2b : decide (8 < (l1.length : Int)) = true := decide_eq_true (by omega)
        clear c e1 e2
        go_enter Try.func17, Try.ntmps17
        go_wp2_with (first | ((with_reducible refine gate_dst (N := 8) rfl ?_); refine fr_alloc rfl rfl HA.out ?_; intro gf w_ hA; (try simp only [List.cons_append, List.nil_append] at hA); replace HA := Aside0.mk hA; clear hA) | (refine fr_guard rfl (by rfl) ?_; dsimp only) | (refine fr_load rfl rfl rfl HA.out (by first | exact List.mem_cons_self | exact List.mem_cons_of_mem _ List.mem_cons_self | exact List.mem_cons_of_mem _ (List.mem_cons_of_mem _ List.mem_cons_self) | exact List.mem_cons_of_mem _ (List.mem_cons_of_mem _ (List.mem_cons_of_mem _ List.mem_cons_self))) ?_) | (refine fr_load0 rfl rfl rfl HA.out (by first | exact List.mem_cons_self | exact List.mem_cons_of_mem _ List.mem_cons_self | exact List.mem_cons_of_mem _ (List.mem_cons_of_mem _ List.mem_cons_self) | exact List.mem_cons_of_mem _ (List.mem_cons_of_mem _ (List.mem_cons_of_mem _ List.mem_cons_self))) ?_) | (refine fr_load1 rfl rfl rfl HA.out (by first | exact List.mem_cons_self | exact List.mem_cons_of_mem _ List.mem_cons_self | exact List.mem_cons_of_mem _ (List.mem_cons_of_mem _ List.mem_cons_self) | exact List.mem_cons_of_mem _ (List.mem_cons_of_mem _ (List.mem_cons_of_mem _ List.mem_cons_self))) ?_) | (refine fr_store rfl rfl rfl rfl (by first | exact HF.out | exact HEF.out | exact HFI.out | exact HRO.out | exact Fr.zero_ok) [] HA.out ?_; intro w_ hA; (try simp only [List.cons_append, List.nil_append] at hA); replace HA := Aside0.mk hA; clear hA) | (refine fr_store rfl rfl rfl rfl (by first | exact HF.out | exact HEF.out | exact HFI.out | exact HRO.out | exact Fr.zero_ok) [_] HA.out ?_; intro w_ hA; (try simp only [List.cons_append, List.nil_append] at hA); replace HA := Aside0.mk hA; clear hA) | (refine fr_store rfl rfl rfl rfl (by first | exact HF.out | exact HEF.out | exact HFI.out | exact HRO.out | exact Fr.zero_ok) [_, _] HA.out ?_; intro w_ hA; (try simp only [List.cons_append, List.nil_append] at hA); replace HA := Aside0.mk hA; clear hA) | (refine fr_store rfl rfl rfl rfl (by first | exact HF.out | exact HEF.out | exact HFI.out | exact HRO.out | exact Fr.zero_ok) [_, _, _] HA.out ?_; intro w_ hA; (try simp only [List.cons_append, List.nil_append] at hA); replace HA := Aside0.mk hA; clear hA) | (refine fr_box rfl rfl rfl (by first | exact HF.out | exact HEF.out | exact HFI.out | exact HRO.out | exact Fr.zero_ok) HA.out ?_; intro gp w_ hA; (try simp only [List.cons_append, List.nil_append] at hA); replace HA := Aside0.mk hA; clear hA) | (refine fr_alloc rfl rfl HA.out ?_; intro gr w_ hA; (try simp only [List.cons_append, List.nil_append] at hA); replace HA := Aside0.mk hA; clear hA) | (refine fr_build0 rfl rfl ?_) | (refine fr_build1 rfl rfl rfl ?_) | (refine fr_build2 rfl rfl rfl rfl ?_) | (refine fr_slot rfl rfl rfl rfl [] HA.out HQ.out ?_; intro w_ hA; (try simp only [List.cons_append, List.nil_append] at hA); replace HA := Aside0.mk hA; clear hA) | (refine fr_slot rfl rfl rfl rfl [_] HA.out HQ.out ?_; intro w_ hA; (try simp only [List.cons_append, List.nil_append] at hA); replace HA := Aside0.mk hA; clear hA) | (refine fr_slot rfl rfl rfl rfl [_, _] HA.out HQ.out ?_; intro w_ hA; (try simp only [List.cons_append, List.nil_append] at hA); replace HA := Aside0.mk hA; clear hA) | (refine fr_high rfl rfl rfl rfl [] HA.out ?_; intro w_ hA; (try simp only [List.cons_append, List.nil_append] at hA); replace HA := Aside0.mk hA; clear hA) | (refine fr_high rfl rfl rfl rfl [_] HA.out ?_; intro w_ hA; (try simp only [List.cons_append, List.nil_append] at hA); replace HA := Aside0.mk hA; clear hA) | (refine fr_high rfl rfl rfl rfl [_, _] HA.out ?_; intro w_ hA; (try simp only [List.cons_append, List.nil_append] at hA); replace HA := Aside0.mk hA; clear hA) | (refine fr_loads rfl rfl rfl HA.out (by first | exact List.mem_cons_self | exact List.mem_cons_of_mem _ List.mem_cons_self | exact List.mem_cons_of_mem _ (List.mem_cons_of_mem _ List.mem_cons_self) | exact List.mem_cons_of_mem _ (List.mem_cons_of_mem _ (List.mem_cons_of_mem _ List.mem_cons_self))) HQ.out ?_))
        have hcall := refEmpty_calls n w_
        rw [← HES.out] at hcall
        refine hcall.mono ?_
        clear hcall
        rintro e w_ ⟨rfl, hb⟩
        replace HA := Aside0.mk (HA.out.step hb)
        clear hb
        go_wp2_with (first | ((with_reducible refine gate_dst (N := 8) rfl ?_); refine fr_alloc rfl rfl HA.out ?_; intro gf w_ hA; (try simp only [List.cons_append, List.nil_append] at hA); replace HA := Aside0.mk hA; clear hA) | (refine fr_guard rfl (by rfl) ?_; dsimp only) | (refine fr_load rfl rfl rfl HA.out (by first | exact List.mem_cons_self | exact List.mem_cons_of_mem _ List.mem_cons_self | exact List.mem_cons_of_mem _ (List.mem_cons_of_mem _ List.mem_cons_self) | exact List.mem_cons_of_mem _ (List.mem_cons_of_mem _ (List.mem_cons_of_mem _ List.mem_cons_self))) ?_) | (refine fr_load0 rfl rfl rfl HA.out (by first | exact List.mem_cons_self | exact List.mem_cons_of_mem _ List.mem_cons_self | exact List.mem_cons_of_mem _ (List.mem_cons_of_mem _ List.mem_cons_self) | exact List.mem_cons_of_mem _ (List.mem_cons_of_mem _ (List.mem_cons_of_mem _ List.mem_cons_self))) ?_) | (refine fr_load1 rfl rfl rfl HA.out (by first | exact List.mem_cons_self | exact List.mem_cons_of_mem _ List.mem_cons_self | exact List.mem_cons_of_mem _ (List.mem_cons_of_mem _ List.mem_cons_self) | exact List.mem_cons_of_mem _ (List.mem_cons_of_mem _ (List.mem_cons_of_mem _ List.mem_cons_self))) ?_) | (refine fr_store rfl rfl rfl rfl (by first | exact HF.out | exact HEF.out | exact HFI.out | exact HRO.out | exact Fr.zero_ok) [] HA.out ?_; intro w_ hA; (try simp only [List.cons_append, List.nil_append] at hA); replace HA := Aside0.mk hA; clear hA) | (refine fr_store rfl rfl rfl rfl (by first | exact HF.out | exact HEF.out | exact HFI.out | exact HRO.out | exact Fr.zero_ok) [_] HA.out ?_; intro w_ hA; (try simp only [List.cons_append, List.nil_append] at hA); replace HA := Aside0.mk hA; clear hA) | (refine fr_store rfl rfl rfl rfl (by first | exact HF.out | exact HEF.out | exact HFI.out | exact HRO.out | exact Fr.zero_ok) [_, _] HA.out ?_; intro w_ hA; (try simp only [List.cons_append, List.nil_append] at hA); replace HA := Aside0.mk hA; clear hA) | (refine fr_store rfl rfl rfl rfl (by first | exact HF.out | exact HEF.out | exact HFI.out | exact HRO.out | exact Fr.zero_ok) [_, _, _] HA.out ?_; intro w_ hA; (try simp only [List.cons_append, List.nil_append] at hA); replace HA := Aside0.mk hA; clear hA) | (refine fr_box rfl rfl rfl (by first | exact HF.out | exact HEF.out | exact HFI.out | exact HRO.out | exact Fr.zero_ok) HA.out ?_; intro gp w_ hA; (try simp only [List.cons_append, List.nil_append] at hA); replace HA := Aside0.mk hA; clear hA) | (refine fr_alloc rfl rfl HA.out ?_; intro gr w_ hA; (try simp only [List.cons_append, List.nil_append] at hA); replace HA := Aside0.mk hA; clear hA) | (refine fr_build0 rfl rfl ?_) | (refine fr_build1 rfl rfl rfl ?_) | (refine fr_build2 rfl rfl rfl rfl ?_) | (refine fr_slot rfl rfl rfl rfl [] HA.out HQ.out ?_; intro w_ hA; (try simp only [List.cons_append, List.nil_append] at hA); replace HA := Aside0.mk hA; clear hA) | (refine fr_slot rfl rfl rfl rfl [_] HA.out HQ.out ?_; intro w_ hA; (try simp only [List.cons_append, List.nil_append] at hA); replace HA := Aside0.mk hA; clear hA) | (refine fr_slot rfl rfl rfl rfl [_, _] HA.out HQ.out ?_; intro w_ hA; (try simp only [List.cons_append, List.nil_append] at hA); replace HA := Aside0.mk hA; clear hA) | (refine fr_high rfl rfl rfl rfl [] HA.out ?_; intro w_ hA; (try simp only [List.cons_append, List.nil_append] at hA); replace HA := Aside0.mk hA; clear hA) | (refine fr_high rfl rfl rfl rfl [_] HA.out ?_; intro w_ hA; (try simp only [List.cons_append, List.nil_append] at hA); replace HA := Aside0.mk hA; clear hA) | (refine fr_high rfl rfl rfl rfl [_, _] HA.out ?_; intro w_ hA; (try simp only [List.cons_append, List.nil_append] at hA); replace HA := Aside0.mk hA; clear hA) | (refine fr_loads rfl rfl rfl HA.out (by first | exact List.mem_cons_self | exact List.mem_cons_of_mem _ List.mem_cons_self | exact List.mem_cons_of_mem _ (List.mem_cons_of_mem _ List.mem_cons_self) | exact List.mem_cons_of_mem _ (List.mem_cons_of_mem _ (List.mem_cons_of_mem _ List.mem_cons_self))) HQ.out ?_))
        refine bodyPost_ret (fr_ret2 rfl _ HA.out (by first | exact List.mem_cons_self | exact List.mem_cons_of_mem _ List.mem_cons_self | exact List.mem_cons_of_mem _ (List.mem_cons_of_mem _ List.mem_cons_self) | exact List.mem_cons_of_mem _ (List.mem_cons_of_mem _ (List.mem_cons_of_mem _ List.mem_cons_self))) rfl) rfl ⟨?_, HA.out.below⟩
        rfl
      · have d2 : decide (8 < l1.length) = false := decide_eq_false e2
        have d2b : decide (8 < (l1.length : Int)) = false := decide_eq_false (by omega)
        have d3 : decide (n < (l1.length : Int)) = true := decide_eq_true (by omega)
        clear c e1 e2
        go_enter Try.func17, Try.ntmps17
        go_wp2_with (first | ((with_reducible refine gate_dst (N := 8) rfl ?_); refine fr_alloc rfl rfl HA.out ?_; intro gf w_ hA; (try simp only [List.cons_append, List.nil_append] at hA); replace HA := Aside0.mk hA; clear hA) | (refine fr_guard rfl (by rfl) ?_; dsimp only) | (refine fr_load rfl rfl rfl HA.out (by first | exact List.mem_cons_self | exact List.mem_cons_of_mem _ List.mem_cons_self | exact List.mem_cons_of_mem _ (List.mem_cons_of_mem _ List.mem_cons_self) | exact List.mem_cons_of_mem _ (List.mem_cons_of_mem _ (List.mem_cons_of_mem _ List.mem_cons_self))) ?_) | (refine fr_load0 rfl rfl rfl HA.out (by first | exact List.mem_cons_self | exact List.mem_cons_of_mem _ List.mem_cons_self | exact List.mem_cons_of_mem _ (List.mem_cons_of_mem _ List.mem_cons_self) | exact List.mem_cons_of_mem _ (List.mem_cons_of_mem _ (List.mem_cons_of_mem _ List.mem_cons_self))) ?_) | (refine fr_load1 rfl rfl rfl HA.out (by first | exact List.mem_cons_self | exact List.mem_cons_of_mem _ List.mem_cons_self | exact List.mem_cons_of_mem _ (List.mem_cons_of_mem _ List.mem_cons_self) | exact List.mem_cons_of_mem _ (List.mem_cons_of_mem _ (List.mem_cons_of_mem _ List.mem_cons_self))) ?_) | (refine fr_store rfl rfl rfl rfl (by first | exact HF.out | exact HEF.out | exact HFI.out | exact HRO.out | exact Fr.zero_ok) [] HA.out ?_; intro w_ hA; (try simp only [List.cons_append, List.nil_append] at hA); replace HA := Aside0.mk hA; clear hA) | (refine fr_store rfl rfl rfl rfl (by first | exact HF.out | exact HEF.out | exact HFI.out | exact HRO.out | exact Fr.zero_ok) [_] HA.out ?_; intro w_ hA; (try simp only [List.cons_append, List.nil_append] at hA); replace HA := Aside0.mk hA; clear hA) | (refine fr_store rfl rfl rfl rfl (by first | exact HF.out | exact HEF.out | exact HFI.out | exact HRO.out | exact Fr.zero_ok) [_, _] HA.out ?_; intro w_ hA; (try simp only [List.cons_append, List.nil_append] at hA); replace HA := Aside0.mk hA; clear hA) | (refine fr_store rfl rfl rfl rfl (by first | exact HF.out | exact HEF.out | exact HFI.out | exact HRO.out | exact Fr.zero_ok) [_, _, _] HA.out ?_; intro w_ hA; (try simp only [List.cons_append, List.nil_append] at hA); replace HA := Aside0.mk hA; clear hA) | (refine fr_box rfl rfl rfl (by first | exact HF.out | exact HEF.out | exact HFI.out | exact HRO.out | exact Fr.zero_ok) HA.out ?_; intro gp w_ hA; (try simp only [List.cons_append, List.nil_append] at hA); replace HA := Aside0.mk hA; clear hA) | (refine fr_alloc rfl rfl HA.out ?_; intro gr w_ hA; (try simp only [List.cons_append, List.nil_append] at hA); replace HA := Aside0.mk hA; clear hA) | (refine fr_build0 rfl rfl ?_) | (refine fr_build1 rfl rfl rfl ?_) | (refine fr_build2 rfl rfl rfl rfl ?_) | (refine fr_slot rfl rfl rfl rfl [] HA.out HQ.out ?_; intro w_ hA; (try simp only [List.cons_append, List.nil_append] at hA); replace HA := Aside0.mk hA; clear hA) | (refine fr_slot rfl rfl rfl rfl [_] HA.out HQ.out ?_; intro w_ hA; (try simp only [List.cons_append, List.nil_append] at hA); replace HA := Aside0.mk hA; clear hA) | (refine fr_slot rfl rfl rfl rfl [_, _] HA.out HQ.out ?_; intro w_ hA; (try simp only [List.cons_append, List.nil_append] at hA); replace HA := Aside0.mk hA; clear hA) | (refine fr_high rfl rfl rfl rfl [] HA.out ?_; intro w_ hA; (try simp only [List.cons_append, List.nil_append] at hA); replace HA := Aside0.mk hA; clear hA) | (refine fr_high rfl rfl rfl rfl [_] HA.out ?_; intro w_ hA; (try simp only [List.cons_append, List.nil_append] at hA); replace HA := Aside0.mk hA; clear hA) | (refine fr_high rfl rfl rfl rfl [_, _] HA.out ?_; intro w_ hA; (try simp only [List.cons_append, List.nil_append] at hA); replace HA := Aside0.mk hA; clear hA) | (refine fr_loads rfl rfl rfl HA.out (by first | exact List.mem_cons_self | exact List.mem_cons_of_mem _ List.mem_cons_self | exact List.mem_cons_of_mem _ (List.mem_cons_of_mem _ List.mem_cons_self) | exact List.mem_cons_of_mem _ (List.mem_cons_of_mem _ (List.mem_cons_of_mem _ List.mem_cons_self))) HQ.out ?_))
        have hcall := refEmpty_calls n w_
        rw [← HES.out] at hcall
        refine hcall.mono ?_
        clear hcall
        rintro e w_ ⟨rfl, hb⟩
        replace HA := Aside0.mk (HA.out.step hb)
        clear hb
        go_wp2_with (first | ((with_reducible refine gate_dst (N := 8) rfl ?_); refine fr_alloc rfl rfl HA.out ?_; intro gf w_ hA; (try simp only [List.cons_append, List.nil_append] at hA); replace HA := Aside0.mk hA; clear hA) | (refine fr_guard rfl (by rfl) ?_; dsimp only) | (refine fr_load rfl rfl rfl HA.out (by first | exact List.mem_cons_self | exact List.mem_cons_of_mem _ List.mem_cons_self | exact List.mem_cons_of_mem _ (List.mem_cons_of_mem _ List.mem_cons_self) | exact List.mem_cons_of_mem _ (List.mem_cons_of_mem _ (List.mem_cons_of_mem _ List.mem_cons_self))) ?_) | (refine fr_load0 rfl rfl rfl HA.out (by first | exact List.mem_cons_self | exact List.mem_cons_of_mem _ List.mem_cons_self | exact List.mem_cons_of_mem _ (List.mem_cons_of_mem _ List.mem_cons_self) | exact List.mem_cons_of_mem _ (List.mem_cons_of_mem _ (List.mem_cons_of_mem _ List.mem_cons_self))) ?_) | (refine fr_load1 rfl rfl rfl HA.out (by first | exact List.mem_cons_self | exact List.mem_cons_of_mem _ List.mem_cons_self | exact List.mem_cons_of_mem _ (List.mem_cons_of_mem _ List.mem_cons_self) | exact List.mem_cons_of_mem _ (List.mem_cons_of_mem _ (List.mem_cons_of_mem _ List.mem_cons_self))) ?_) | (refine fr_store rfl rfl rfl rfl (by first | exact HF.out | exact HEF.out | exact HFI.out | exact HRO.out | exact Fr.zero_ok) [] HA.out ?_; intro w_ hA; (try simp only [List.cons_append, List.nil_append] at hA); replace HA := Aside0.mk hA; clear hA) | (refine fr_store rfl rfl rfl rfl (by first | exact HF.out | exact HEF.out | exact HFI.out | exact HRO.out | exact Fr.zero_ok) [_] HA.out ?_; intro w_ hA; (try simp only [List.cons_append, List.nil_append] at hA); replace HA := Aside0.mk hA; clear hA) | (refine fr_store rfl rfl rfl rfl (by first | exact HF.out | exact HEF.out | exact HFI.out | exact HRO.out | exact Fr.zero_ok) [_, _] HA.out ?_; intro w_ hA; (try simp only [List.cons_append, List.nil_append] at hA); replace HA := Aside0.mk hA; clear hA) | (refine fr_store rfl rfl rfl rfl (by first | exact HF.out | exact HEF.out | exact HFI.out | exact HRO.out | exact Fr.zero_ok) [_, _, _] HA.out ?_; intro w_ hA; (try simp only [List.cons_append, List.nil_append] at hA); replace HA := Aside0.mk hA; clear hA) | (refine fr_box rfl rfl rfl (by first | exact HF.out | exact HEF.out | exact HFI.out | exact HRO.out | exact Fr.zero_ok) HA.out ?_; intro gp w_ hA; (try simp only [List.cons_append, List.nil_append] at hA); replace HA := Aside0.mk hA; clear hA) | (refine fr_alloc rfl rfl HA.out ?_; intro gr w_ hA; (try simp only [List.cons_append, List.nil_append] at hA); replace HA := Aside0.mk hA; clear hA) | (refine fr_build0 rfl rfl ?_) | (refine fr_build1 rfl rfl rfl ?_) | (refine fr_build2 rfl rfl rfl rfl ?_) | (refine fr_slot rfl rfl rfl rfl [] HA.out HQ.out ?_; intro w_ hA; (try simp only [List.cons_append, List.nil_append] at hA); replace HA := Aside0.mk hA; clear hA) | (refine fr_slot rfl rfl rfl rfl [_] HA.out HQ.out ?_; intro w_ hA; (try simp only [List.cons_append, List.nil_append] at hA); replace HA := Aside0.mk hA; clear hA) | (refine fr_slot rfl rfl rfl rfl [_, _] HA.out HQ.out ?_; intro w_ hA; (try simp only [List.cons_append, List.nil_append] at hA); replace HA := Aside0.mk hA; clear hA) | (refine fr_high rfl rfl rfl rfl [] HA.out ?_; intro w_ hA; (try simp only [List.cons_append, List.nil_append] at hA); replace HA := Aside0.mk hA; clear hA) | (refine fr_high rfl rfl rfl rfl [_] HA.out ?_; intro w_ hA; (try simp only [List.cons_append, List.nil_append] at hA); replace HA := Aside0.mk hA; clear hA) | (refine fr_high rfl rfl rfl rfl [_, _] HA.out ?_; intro w_ hA; (try simp only [List.cons_append, List.nil_append] at hA); replace HA := Aside0.mk hA; clear hA) | (refine fr_loads rfl rfl rfl HA.out (by first | exact List.mem_cons_self | exact List.mem_cons_of_mem _ List.mem_cons_self | exact List.mem_cons_of_mem _ (List.mem_cons_of_mem _ List.mem_cons_self) | exact List.mem_cons_of_mem _ (List.mem_cons_of_mem _ (List.mem_cons_of_mem _ List.mem_cons_self))) HQ.out ?_))
        refine bodyPost_ret (fr_ret2 rfl _ HA.out (by first | exact List.mem_cons_self | exact List.mem_cons_of_mem _ List.mem_cons_self | exact List.mem_cons_of_mem _ (List.mem_cons_of_mem _ List.mem_cons_self) | exact List.mem_cons_of_mem _ (List.mem_cons_of_mem _ (List.mem_cons_of_mem _ List.mem_cons_self))) rfl) rfl ⟨?_, HA.out.below⟩
        rfl
    · have e1b : (es.2 != 0) = true := by rw [bne_iff_ne]; exact e1
      clear c e1
      go_enter Try.func17, Try.ntmps17
      go_wp2_with (first | ((with_reducible refine gate_dst (N := 8) rfl ?_); refine fr_alloc rfl rfl HA.out ?_; intro gf w_ hA; (try simp only [List.cons_append, List.nil_append] at hA); replace HA := Aside0.mk hA; clear hA) | (refine fr_guard rfl (by rfl) ?_; dsimp only) | (refine fr_load rfl rfl rfl HA.out (by first | exact List.mem_cons_self | exact List.mem_cons_of_mem _ List.mem_cons_self | exact List.mem_cons_of_mem _ (List.mem_cons_of_mem _ List.mem_cons_self) | exact List.mem_cons_of_mem _ (List.mem_cons_of_mem _ (List.mem_cons_of_mem _ List.mem_cons_self))) ?_) | (refine fr_load0 rfl rfl rfl HA.out (by first | exact List.mem_cons_self | exact List.mem_cons_of_mem _ List.mem_cons_self | exact List.mem_cons_of_mem _ (List.mem_cons_of_mem _ List.mem_cons_self) | exact List.mem_cons_of_mem _ (List.mem_cons_of_mem _ (List.mem_cons_of_mem _ List.mem_cons_self))) ?_) | (refine fr_load1 rfl rfl rfl HA.out (by first | exact List.mem_cons_self | exact List.mem_cons_of_mem _ List.mem_cons_self | exact List.mem_cons_of_mem _ (List.mem_cons_of_mem _ List.mem_cons_self) | exact List.mem_cons_of_mem _ (List.mem_cons_of_mem _ (List.mem_cons_of_mem _ List.mem_cons_self))) ?_) | (refine fr_store rfl rfl rfl rfl (by first | exact HF.out | exact HEF.out | exact HFI.out | exact HRO.out | exact Fr.zero_ok) [] HA.out ?_; intro w_ hA; (try simp only [List.cons_append, List.nil_append] at hA); replace HA := Aside0.mk hA; clear hA) | (refine fr_store rfl rfl rfl rfl (by first | exact HF.out | exact HEF.out | exact HFI.out | exact HRO.out | exact Fr.zero_ok) [_] HA.out ?_; intro w_ hA; (try simp only [List.cons_append, List.nil_append] at hA); replace HA := Aside0.mk hA; clear hA) | (refine fr_store rfl rfl rfl rfl (by first | exact HF.out | exact HEF.out | exact HFI.out | exact HRO.out | exact Fr.zero_ok) [_, _] HA.out ?_; intro w_ hA; (try simp only [List.cons_append, List.nil_append] at hA); replace HA := Aside0.mk hA; clear hA) | (refine fr_store rfl rfl rfl rfl (by first | exact HF.out | exact HEF.out | exact HFI.out | exact HRO.out | exact Fr.zero_ok) [_, _, _] HA.out ?_; intro w_ hA; (try simp only [List.cons_append, List.nil_append] at hA); replace HA := Aside0.mk hA; clear hA) | (refine fr_box rfl rfl rfl (by first | exact HF.out | exact HEF.out | exact HFI.out | exact HRO.out | exact Fr.zero_ok) HA.out ?_; intro gp w_ hA; (try simp only [List.cons_append, List.nil_append] at hA); replace HA := Aside0.mk hA; clear hA) | (refine fr_alloc rfl rfl HA.out ?_; intro gr w_ hA; (try simp only [List.cons_append, List.nil_append] at hA); replace HA := Aside0.mk hA; clear hA) | (refine fr_build0 rfl rfl ?_) | (refine fr_build1 rfl rfl rfl ?_) | (refine fr_build2 rfl rfl rfl rfl ?_) | (refine fr_slot rfl rfl rfl rfl [] HA.out HQ.out ?_; intro w_ hA; (try simp only [List.cons_append, List.nil_append] at hA); replace HA := Aside0.mk hA; clear hA) | (refine fr_slot rfl rfl rfl rfl [_] HA.out HQ.out ?_; intro w_ hA; (try simp only [List.cons_append, List.nil_append] at hA); replace HA := Aside0.mk hA; clear hA) | (refine fr_slot rfl rfl rfl rfl [_, _] HA.out HQ.out ?_; intro w_ hA; (try simp only [List.cons_append, List.nil_append] at hA); replace HA := Aside0.mk hA; clear hA) | (refine fr_high rfl rfl rfl rfl [] HA.out ?_; intro w_ hA; (try simp only [List.cons_append, List.nil_append] at hA); replace HA := Aside0.mk hA; clear hA) | (refine fr_high rfl rfl rfl rfl [_] HA.out ?_; intro w_ hA; (try simp only [List.cons_append, List.nil_append] at hA); replace HA := Aside0.mk hA; clear hA) | (refine fr_high rfl rfl rfl rfl [_, _] HA.out ?_; intro w_ hA; (try simp only [List.cons_append, List.nil_append] at hA); replace HA := Aside0.mk hA; clear hA) | (refine fr_loads rfl rfl rfl HA.out (by first | exact List.mem_cons_self | exact List.mem_cons_of_mem _ List.mem_cons_self | exact List.mem_cons_of_mem _ (List.mem_cons_of_mem _ List.mem_cons_self) | exact List.mem_cons_of_mem _ (List.mem_cons_of_mem _ (List.mem_cons_of_mem _ List.mem_cons_self))) HQ.out ?_))
      have hcall := refEmpty_calls n w_
      rw [← HES.out] at hcall
      refine hcall.mono ?_
      clear hcall
      rintro e w_ ⟨rfl, hb⟩
      replace HA := Aside0.mk (HA.out.step hb)
      clear hb
      go_wp2_with (first | ((with_reducible refine gate_dst (N := 8) rfl ?_); refine fr_alloc rfl rfl HA.out ?_; intro gf w_ hA; (try simp only [List.cons_append, List.nil_append] at hA); replace HA := Aside0.mk hA; clear hA) | (refine fr_guard rfl (by rfl) ?_; dsimp only) | (refine fr_load rfl rfl rfl HA.out (by first | exact List.mem_cons_self | exact List.mem_cons_of_mem _ List.mem_cons_self | exact List.mem_cons_of_mem _ (List.mem_cons_of_mem _ List.mem_cons_self) | exact List.mem_cons_of_mem _ (List.mem_cons_of_mem _ (List.mem_cons_of_mem _ List.mem_cons_self))) ?_) | (refine fr_load0 rfl rfl rfl HA.out (by first | exact List.mem_cons_self | exact List.mem_cons_of_mem _ List.mem_cons_self | exact List.mem_cons_of_mem _ (List.mem_cons_of_mem _ List.mem_cons_self) | exact List.mem_cons_of_mem _ (List.mem_cons_of_mem _ (List.mem_cons_of_mem _ List.mem_cons_self))) ?_) | (refine fr_load1 rfl rfl rfl HA.out (by first | exact List.mem_cons_self | exact List.mem_cons_of_mem _ List.mem_cons_self | exact List.mem_cons_of_mem _ (List.mem_cons_of_mem _ List.mem_cons_self) | exact List.mem_cons_of_mem _ (List.mem_cons_of_mem _ (List.mem_cons_of_mem _ List.mem_cons_self))) ?_) | (refine fr_store rfl rfl rfl rfl (by first | exact HF.out | exact HEF.out | exact HFI.out | exact HRO.out | exact Fr.zero_ok) [] HA.out ?_; intro w_ hA; (try simp only [List.cons_append, List.nil_append] at hA); replace HA := Aside0.mk hA; clear hA) | (refine fr_store rfl rfl rfl rfl (by first | exact HF.out | exact HEF.out | exact HFI.out | exact HRO.out | exact Fr.zero_ok) [_] HA.out ?_; intro w_ hA; (try simp only [List.cons_append, List.nil_append] at hA); replace HA := Aside0.mk hA; clear hA) | (refine fr_store rfl rfl rfl rfl (by first | exact HF.out | exact HEF.out | exact HFI.out | exact HRO.out | exact Fr.zero_ok) [_, _] HA.out ?_; intro w_ hA; (try simp only [List.cons_append, List.nil_append] at hA); replace HA := Aside0.mk hA; clear hA) | (refine fr_store rfl rfl rfl rfl (by first | exact HF.out | exact HEF.out | exact HFI.out | exact HRO.out | exact Fr.zero_ok) [_, _, _] HA.out ?_; intro w_ hA; (try simp only [List.cons_append, List.nil_append] at hA); replace HA := Aside0.mk hA; clear hA) | (refine fr_box rfl rfl rfl (by first | exact HF.out | exact HEF.out | exact HFI.out | exact HRO.out | exact Fr.zero_ok) HA.out ?_; intro gp w_ hA; (try simp only [List.cons_append, List.nil_append] at hA); replace HA := Aside0.mk hA; clear hA) | (refine fr_alloc rfl rfl HA.out ?_; intro gr w_ hA; (try simp only [List.cons_append, List.nil_append] at hA); replace HA := Aside0.mk hA; clear hA) | (refine fr_build0 rfl rfl ?_) | (refine fr_build1 rfl rfl rfl ?_) | (refine fr_build2 rfl rfl rfl rfl ?_) | (refine fr_slot rfl rfl rfl rfl [] HA.out HQ.out ?_; intro w_ hA; (try simp only [List.cons_append, List.nil_append] at hA); replace HA := Aside0.mk hA; clear hA) | (refine fr_slot rfl rfl rfl rfl [_] HA.out HQ.out ?_; intro w_ hA; (try simp only [List.cons_append, List.nil_append] at hA); replace HA := Aside0.mk hA; clear hA) | (refine fr_slot rfl rfl rfl rfl [_, _] HA.out HQ.out ?_; intro w_ hA; (try simp only [List.cons_append, List.nil_append] at hA); replace HA := Aside0.mk hA; clear hA) | (refine fr_high rfl rfl rfl rfl [] HA.out ?_; intro w_ hA; (try simp only [List.cons_append, List.nil_append] at hA); replace HA := Aside0.mk hA; clear hA) | (refine fr_high rfl rfl rfl rfl [_] HA.out ?_; intro w_ hA; (try simp only [List.cons_append, List.nil_append] at hA); replace HA := Aside0.mk hA; clear hA) | (refine fr_high rfl rfl rfl rfl [_, _] HA.out ?_; intro w_ hA; (try simp only [List.cons_append, List.nil_append] at hA); replace HA := Aside0.mk hA; clear hA) | (refine fr_loads rfl rfl rfl HA.out (by first | exact List.mem_cons_self | exact List.mem_cons_of_mem _ List.mem_cons_self | exact List.mem_cons_of_mem _ (List.mem_cons_of_mem _ List.mem_cons_self) | exact List.mem_cons_of_mem _ (List.mem_cons_of_mem _ (List.mem_cons_of_mem _ List.mem_cons_self))) HQ.out ?_))
      refine bodyPost_ret (fr_ret2 rfl _ HA.out (by first | exact List.mem_cons_self | exact List.mem_cons_of_mem _ List.mem_cons_self | exact List.mem_cons_of_mem _ (List.mem_cons_of_mem _ List.mem_cons_self) | exact List.mem_cons_of_mem _ (List.mem_cons_of_mem _ (List.mem_cons_of_mem _ List.mem_cons_self))) rfl) rfl ⟨?_, HA.out.below⟩
      rfl
  · unfold startS at h
    rw [if_neg c] at h
    have e1 : (emptyS n).2 = 0 := by
      by_cases hh : (emptyS n).2 = 0
      · exact hh
      · exact absurd (.inl hh) c
    have e2 : l1.length ≤ 8 := by omega
    have e3 : (l1.length : Int) ≤ n := by omega
    have d2 : decide (8 < l1.length) = false := decide_eq_false (by omega)
    have d2b : decide (8 < (l1.length : Int)) = false := decide_eq_false (by omega)
    have d3 : decide (n < (l1.length : Int)) = false := decide_eq_false (by omega)
    have E2 := Aside0.mk e2
    have H := Aside0.mk h
    have HES : Aside0 (emptyS n = ((emptyS n).1, 0)) := ⟨by rw [← e1]⟩
    generalize (emptyS n).1 = f0 at H HEF HES
    clear hr0 hc0 hr1 hc1 h c e1 e2 e3
    go_enter Try.func17, Try.ntmps17
    go_wp2_with (first | ((with_reducible refine gate_dst (N := 8) rfl ?_); refine fr_alloc rfl rfl HA.out ?_; intro gf w_ hA; (try simp only [List.cons_append, List.nil_append] at hA); replace HA := Aside0.mk hA; clear hA) | (refine fr_guard rfl (by rfl) ?_; dsimp only) | (refine fr_load rfl rfl rfl HA.out (by first | exact List.mem_cons_self | exact List.mem_cons_of_mem _ List.mem_cons_self | exact List.mem_cons_of_mem _ (List.mem_cons_of_mem _ List.mem_cons_self) | exact List.mem_cons_of_mem _ (List.mem_cons_of_mem _ (List.mem_cons_of_mem _ List.mem_cons_self))) ?_) | (refine fr_load0 rfl rfl rfl HA.out (by first | exact List.mem_cons_self | exact List.mem_cons_of_mem _ List.mem_cons_self | exact List.mem_cons_of_mem _ (List.mem_cons_of_mem _ List.mem_cons_self) | exact List.mem_cons_of_mem _ (List.mem_cons_of_mem _ (List.mem_cons_of_mem _ List.mem_cons_self))) ?_) | (refine fr_load1 rfl rfl rfl HA.out (by first | exact List.mem_cons_self | exact List.mem_cons_of_mem _ List.mem_cons_self | exact List.mem_cons_of_mem _ (List.mem_cons_of_mem _ List.mem_cons_self) | exact List.mem_cons_of_mem _ (List.mem_cons_of_mem _ (List.mem_cons_of_mem _ List.mem_cons_self))) ?_) | (refine fr_store rfl rfl rfl rfl (by first | exact HF.out | exact HEF.out | exact HFI.out | exact HRO.out | exact Fr.zero_ok) [] HA.out ?_; intro w_ hA; (try simp only [List.cons_append, List.nil_append] at hA); replace HA := Aside0.mk hA; clear hA) | (refine fr_store rfl rfl rfl rfl (by first | exact HF.out | exact HEF.out | exact HFI.out | exact HRO.out | exact Fr.zero_ok) [_] HA.out ?_; intro w_ hA; (try simp only [List.cons_append, List.nil_append] at hA); replace HA := Aside0.mk hA; clear hA) | (refine fr_store rfl rfl rfl rfl (by first | exact HF.out | exact HEF.out | exact HFI.out | exact HRO.out | exact Fr.zero_ok) [_, _] HA.out ?_; intro w_ hA; (try simp only [List.cons_append, List.nil_append] at hA); replace HA := Aside0.mk hA; clear hA) | (refine fr_store rfl rfl rfl rfl (by first | exact HF.out | exact HEF.out | exact HFI.out | exact HRO.out | exact Fr.zero_ok) [_, _, _] HA.out ?_; intro w_ hA; (try simp only [List.cons_append, List.nil_append] at hA); replace HA := Aside0.mk hA; clear hA) | (refine fr_box rfl rfl rfl (by first | exact HF.out | exact HEF.out | exact HFI.out | exact HRO.out | exact Fr.zero_ok) HA.out ?_; intro gp w_ hA; (try simp only [List.cons_append, List.nil_append] at hA); replace HA := Aside0.mk hA; clear hA) | (refine fr_alloc rfl rfl HA.out ?_; intro gr w_ hA; (try simp only [List.cons_append, List.nil_append] at hA); replace HA := Aside0.mk hA; clear hA) | (refine fr_build0 rfl rfl ?_) | (refine fr_build1 rfl rfl rfl ?_) | (refine fr_build2 rfl rfl rfl rfl ?_) | (refine fr_slot rfl rfl rfl rfl [] HA.out HQ.out ?_; intro w_ hA; (try simp only [List.cons_append, List.nil_append] at hA); replace HA := Aside0.mk hA; clear hA) | (refine fr_slot rfl rfl rfl rfl [_] HA.out HQ.out ?_; intro w_ hA; (try simp only [List.cons_append, List.nil_append] at hA); replace HA := Aside0.mk hA; clear hA) | (refine fr_slot rfl rfl rfl rfl [_, _] HA.out HQ.out ?_; intro w_ hA; (try simp only [List.cons_append, List.nil_append] at hA); replace HA := Aside0.mk hA; clear hA) | (refine fr_high rfl rfl rfl rfl [] HA.out ?_; intro w_ hA; (try simp only [List.cons_append, List.nil_append] at hA); replace HA := Aside0.mk hA; clear hA) | (refine fr_high rfl rfl rfl rfl [_] HA.out ?_; intro w_ hA; (try simp only [List.cons_append, List.nil_append] at hA); replace HA := Aside0.mk hA; clear hA) | (refine fr_high rfl rfl rfl rfl [_, _] HA.out ?_; intro w_ hA; (try simp only [List.cons_append, List.nil_append] at hA); replace HA := Aside0.mk hA; clear hA) | (refine fr_loads rfl rfl rfl HA.out (by first | exact List.mem_cons_self | exact List.mem_cons_of_mem _ List.mem_cons_self | exact List.mem_cons_of_mem _ (List.mem_cons_of_mem _ List.mem_cons_self) | exact List.mem_cons_of_mem _ (List.mem_cons_of_mem _ (List.mem_cons_of_mem _ List.mem_cons_self))) HQ.out ?_))
    have hcall := refEmpty_calls n w_
    rw [HES.out] at hcall
    refine hcall.mono ?_
    clear hcall
    rintro e w_ ⟨rfl, hb⟩
    replace HA := Aside0.mk (HA.out.step hb)
    clear hb
    go_wp2_with (first | ((with_reducible refine gate_dst (N := 8) rfl ?_); refine fr_alloc rfl rfl HA.out ?_; intro gf w_ hA; (try simp only [List.cons_append, List.nil_append] at hA); replace HA := Aside0.mk hA; clear hA) | (refine fr_guard rfl (by rfl) ?_; dsimp only) | (refine fr_load rfl rfl rfl HA.out (by first | exact List.mem_cons_self | exact List.mem_cons_of_mem _ List.mem_cons_self | exact List.mem_cons_of_mem _ (List.mem_cons_of_mem _ List.mem_cons_self) | exact List.mem_cons_of_mem _ (List.mem_cons_of_mem _ (List.mem_cons_of_mem _ List.mem_cons_self))) ?_) | (refine fr_load0 rfl rfl rfl HA.out (by first | exact List.mem_cons_self | exact List.mem_cons_of_mem _ List.mem_cons_self | exact List.mem_cons_of_mem _ (List.mem_cons_of_mem _ List.mem_cons_self) | exact List.mem_cons_of_mem _ (List.mem_cons_of_mem _ (List.mem_cons_of_mem _ List.mem_cons_self))) ?_) | (refine fr_load1 rfl rfl rfl HA.out (by first | exact List.mem_cons_self | exact List.mem_cons_of_mem _ List.mem_cons_self | exact List.mem_cons_of_mem _ (List.mem_cons_of_mem _ List.mem_cons_self) | exact List.mem_cons_of_mem _ (List.mem_cons_of_mem _ (List.mem_cons_of_mem _ List.mem_cons_self))) ?_) | (refine fr_store rfl rfl rfl rfl (by first | exact HF.out | exact HEF.out | exact HFI.out | exact HRO.out | exact Fr.zero_ok) [] HA.out ?_; intro w_ hA; (try simp only [List.cons_append, List.nil_append] at hA); replace HA := Aside0.mk hA; clear hA) | (refine fr_store rfl rfl rfl rfl (by first | exact HF.out | exact HEF.out | exact HFI.out | exact HRO.out | exact Fr.zero_ok) [_] HA.out ?_; intro w_ hA; (try simp only [List.cons_append, List.nil_append] at hA); replace HA := Aside0.mk hA; clear hA) | (refine fr_store rfl rfl rfl rfl (by first | exact HF.out | exact HEF.out | exact HFI.out | exact HRO.out | exact Fr.zero_ok) [_, _] HA.out ?_; intro w_ hA; (try simp only [List.cons_append, List.nil_append] at hA); replace HA := Aside0.mk hA; clear hA) | (refine fr_store rfl rfl rfl rfl (by first | exact HF.out | exact HEF.out | exact HFI.out | exact HRO.out | exact Fr.zero_ok) [_, _, _] HA.out ?_; intro w_ hA; (try simp only [List.cons_append, List.nil_append] at hA); replace HA := Aside0.mk hA; clear hA) | (refine fr_box rfl rfl rfl (by first | exact HF.out | exact HEF.out | exact HFI.out | exact HRO.out | exact Fr.zero_ok) HA.out ?_; intro gp w_ hA; (try simp only [List.cons_append, List.nil_append] at hA); replace HA := Aside0.mk hA; clear hA) | (refine fr_alloc rfl rfl HA.out ?_; intro gr w_ hA; (try simp only [List.cons_append, List.nil_append] at hA); replace HA := Aside0.mk hA; clear hA) | (refine fr_build0 rfl rfl ?_) | (refine fr_build1 rfl rfl rfl ?_) | (refine fr_build2 rfl rfl rfl rfl ?_) | (refine fr_slot rfl rfl rfl rfl [] HA.out HQ.out ?_; intro w_ hA; (try simp only [List.cons_append, List.nil_append] at hA); replace HA := Aside0.mk hA; clear hA) | (refine fr_slot rfl rfl rfl rfl [_] HA.out HQ.out ?_; intro w_ hA; (try simp only [List.cons_append, List.nil_append] at hA); replace HA := Aside0.mk hA; clear hA) | (refine fr_slot rfl rfl rfl rfl [_, _] HA.out HQ.out ?_; intro w_ hA; (try simp only [List.cons_append, List.nil_append] at hA); replace HA := Aside0.mk hA; clear hA) | (refine fr_high rfl rfl rfl rfl [] HA.out ?_; intro w_ hA; (try simp only [List.cons_append, List.nil_append] at hA); replace HA := Aside0.mk hA; clear hA) | (refine fr_high rfl rfl rfl rfl [_] HA.out ?_; intro w_ hA; (try simp only [List.cons_append, List.nil_append] at hA); replace HA := Aside0.mk hA; clear hA) | (refine fr_high rfl rfl rfl rfl [_, _] HA.out ?_; intro w_ hA; (try simp only [List.cons_append, List.nil_append] at hA); replace HA := Aside0.mk hA; clear hA) | (refine fr_loads rfl rfl rfl HA.out (by first | exact List.mem_cons_self | exact List.mem_cons_of_mem _ List.mem_cons_self | exact List.mem_cons_of_mem _ (List.mem_cons_of_mem _ List.mem_cons_self) | exact List.mem_cons_of_mem _ (List.mem_cons_of_mem _ (List.mem_cons_of_mem _ List.mem_cons_self))) HQ.out ?_))
    go_loopw [33, 10, 11] (fun v33 v10 v11 wr => ∃ (i : Nat) (f : Fr), v33 = .int .i64 (i : Int) ∧ i ≤ l1.length ∧ Aside0 (startFrom (provisoref03_stored.f l0) (l1.drop i) i f = some r) ∧ Aside0 (Frs w [(gf, f), (gr, Fr.zero)] wr)) (fun v33 _ _ _ => ((l1.length : Int) - intOf v33).toNat)
    case atStart => exact ⟨0, f0, rfl, Nat.zero_le _, H, HA⟩
    case round =>
      obtain ⟨i, f, rfl, hi, H, HA⟩ := hrel
      by_cases c1 : i < l1.length
      · have c1b : decide ((i : Int) < (l1.length : Int)) = true := decide_eq_true (by omega)
        obtain ⟨ad, e1, hx⟩ := Kd.at_int HR1.out (i : Int) (by omega) (by omega)
        cases e1
        replace hx := (HA.out.below.cell (World.block_lt_of_cell? _ _ hx)).trans hx
        simp only [Int.toNat_natCast] at hx
        have hz : rd l1 (i : Int) = l1[i] := by simp [rd, List.getD_eq_getElem?_getD, c1]
        have h1 := H.out
        rw [List.drop_eq_getElem_cons c1, ← hz] at h1
        generalize rd l1 (i : Int) = t at hx h1
        obtain ⟨b, hok, hb⟩ := Option.bind_eq_some_iff.mp h1
        have HOKT := Aside0.mk hok
        have HB := Aside0.mk hb
        have p1 : (0 ≤ (i : Int)) = True := eq_true (by omega)
        have p2 : ((i : Int) < (l1.length : Int)) = True := eq_true (by omega)
        have p3 : ((i : Int) < 24) = True := eq_true (by have := E2.out; omega)
        have HQ : Aside0 (i < 24) := ⟨by have := E2.out; omega⟩
        clear hok hb h1 hz H
        go_wp2_with (first | ((with_reducible refine gate_dst (N := 8) rfl ?_); refine fr_alloc rfl rfl HA.out ?_; intro gf w_ hA; (try simp only [List.cons_append, List.nil_append] at hA); replace HA := Aside0.mk hA; clear hA) | (refine fr_guard rfl (by rfl) ?_; dsimp only) | (refine fr_load rfl rfl rfl HA.out (by first | exact List.mem_cons_self | exact List.mem_cons_of_mem _ List.mem_cons_self | exact List.mem_cons_of_mem _ (List.mem_cons_of_mem _ List.mem_cons_self) | exact List.mem_cons_of_mem _ (List.mem_cons_of_mem _ (List.mem_cons_of_mem _ List.mem_cons_self))) ?_) | (refine fr_load0 rfl rfl rfl HA.out (by first | exact List.mem_cons_self | exact List.mem_cons_of_mem _ List.mem_cons_self | exact List.mem_cons_of_mem _ (List.mem_cons_of_mem _ List.mem_cons_self) | exact List.mem_cons_of_mem _ (List.mem_cons_of_mem _ (List.mem_cons_of_mem _ List.mem_cons_self))) ?_) | (refine fr_load1 rfl rfl rfl HA.out (by first | exact List.mem_cons_self | exact List.mem_cons_of_mem _ List.mem_cons_self | exact List.mem_cons_of_mem _ (List.mem_cons_of_mem _ List.mem_cons_self) | exact List.mem_cons_of_mem _ (List.mem_cons_of_mem _ (List.mem_cons_of_mem _ List.mem_cons_self))) ?_) | (refine fr_store rfl rfl rfl rfl (by first | exact HF.out | exact HEF.out | exact HFI.out | exact HRO.out | exact Fr.zero_ok) [] HA.out ?_; intro w_ hA; (try simp only [List.cons_append, List.nil_append] at hA); replace HA := Aside0.mk hA; clear hA) | (refine fr_store rfl rfl rfl rfl (by first | exact HF.out | exact HEF.out | exact HFI.out | exact HRO.out | exact Fr.zero_ok) [_] HA.out ?_; intro w_ hA; (try simp only [List.cons_append, List.nil_append] at hA); replace HA := Aside0.mk hA; clear hA) | (refine fr_store rfl rfl rfl rfl (by first | exact HF.out | exact HEF.out | exact HFI.out | exact HRO.out | exact Fr.zero_ok) [_, _] HA.out ?_; intro w_ hA; (try simp only [List.cons_append, List.nil_append] at hA); replace HA := Aside0.mk hA; clear hA) | (refine fr_store rfl rfl rfl rfl (by first | exact HF.out | exact HEF.out | exact HFI.out | exact HRO.out | exact Fr.zero_ok) [_, _, _] HA.out ?_; intro w_ hA; (try simp only [List.cons_append, List.nil_append] at hA); replace HA := Aside0.mk hA; clear hA) | (refine fr_box rfl rfl rfl (by first | exact HF.out | exact HEF.out | exact HFI.out | exact HRO.out | exact Fr.zero_ok) HA.out ?_; intro gp w_ hA; (try simp only [List.cons_append, List.nil_append] at hA); replace HA := Aside0.mk hA; clear hA) | (refine fr_alloc rfl rfl HA.out ?_; intro gr w_ hA; (try simp only [List.cons_append, List.nil_append] at hA); replace HA := Aside0.mk hA; clear hA) | (refine fr_build0 rfl rfl ?_) | (refine fr_build1 rfl rfl rfl ?_) | (refine fr_build2 rfl rfl rfl rfl ?_) | (refine fr_slot rfl rfl rfl rfl [] HA.out HQ.out ?_; intro w_ hA; (try simp only [List.cons_append, List.nil_append] at hA); replace HA := Aside0.mk hA; clear hA) | (refine fr_slot rfl rfl rfl rfl [_] HA.out HQ.out ?_; intro w_ hA; (try simp only [List.cons_append, List.nil_append] at hA); replace HA := Aside0.mk hA; clear hA) | (refine fr_slot rfl rfl rfl rfl [_, _] HA.out HQ.out ?_; intro w_ hA; (try simp only [List.cons_append, List.nil_append] at hA); replace HA := Aside0.mk hA; clear hA) | (refine fr_high rfl rfl rfl rfl [] HA.out ?_; intro w_ hA; (try simp only [List.cons_append, List.nil_append] at hA); replace HA := Aside0.mk hA; clear hA) | (refine fr_high rfl rfl rfl rfl [_] HA.out ?_; intro w_ hA; (try simp only [List.cons_append, List.nil_append] at hA); replace HA := Aside0.mk hA; clear hA) | (refine fr_high rfl rfl rfl rfl [_, _] HA.out ?_; intro w_ hA; (try simp only [List.cons_append, List.nil_append] at hA); replace HA := Aside0.mk hA; clear hA) | (refine fr_loads rfl rfl rfl HA.out (by first | exact List.mem_cons_self | exact List.mem_cons_of_mem _ List.mem_cons_self | exact List.mem_cons_of_mem _ (List.mem_cons_of_mem _ List.mem_cons_self) | exact List.mem_cons_of_mem _ (List.mem_cons_of_mem _ (List.mem_cons_of_mem _ List.mem_cons_self))) HQ.out ?_))
        refine (provisoref03_stored.calls A0 c0 l0 t b _ (Kd.C_below HR0.out HA.out.below) HC0.out HOKT.out).mono ?_
        rintro e w_ ⟨rfl, m, rfl⟩
        replace HA := Aside0.mk (HA.out.drewN m)
        generalize World.drewN _ m = w_ at HA ⊢
        cases b with
        | false =>
          have HRR : Aside0 ((Fr.zero, 1) = r) := ⟨by have := HB.out; simpa using this⟩
          go_wp2_with (first | ((with_reducible refine gate_dst (N := 8) rfl ?_); refine fr_alloc rfl rfl HA.out ?_; intro gf w_ hA; (try simp only [List.cons_append, List.nil_append] at hA); replace HA := Aside0.mk hA; clear hA) | (refine fr_guard rfl (by rfl) ?_; dsimp only) | (refine fr_load rfl rfl rfl HA.out (by first | exact List.mem_cons_self | exact List.mem_cons_of_mem _ List.mem_cons_self | exact List.mem_cons_of_mem _ (List.mem_cons_of_mem _ List.mem_cons_self) | exact List.mem_cons_of_mem _ (List.mem_cons_of_mem _ (List.mem_cons_of_mem _ List.mem_cons_self))) ?_) | (refine fr_load0 rfl rfl rfl HA.out (by first | exact List.mem_cons_self | exact List.mem_cons_of_mem _ List.mem_cons_self | exact List.mem_cons_of_mem _ (List.mem_cons_of_mem _ List.mem_cons_self) | exact List.mem_cons_of_mem _ (List.mem_cons_of_mem _ (List.mem_cons_of_mem _ List.mem_cons_self))) ?_) | (refine fr_load1 rfl rfl rfl HA.out (by first | exact List.mem_cons_self | exact List.mem_cons_of_mem _ List.mem_cons_self | exact List.mem_cons_of_mem _ (List.mem_cons_of_mem _ List.mem_cons_self) | exact List.mem_cons_of_mem _ (List.mem_cons_of_mem _ (List.mem_cons_of_mem _ List.mem_cons_self))) ?_) | (refine fr_store rfl rfl rfl rfl (by first | exact HF.out | exact HEF.out | exact HFI.out | exact HRO.out | exact Fr.zero_ok) [] HA.out ?_; intro w_ hA; (try simp only [List.cons_append, List.nil_append] at hA); replace HA := Aside0.mk hA; clear hA) | (refine fr_store rfl rfl rfl rfl (by first | exact HF.out | exact HEF.out | exact HFI.out | exact HRO.out | exact Fr.zero_ok) [_] HA.out ?_; intro w_ hA; (try simp only [List.cons_append, List.nil_append] at hA); replace HA := Aside0.mk hA; clear hA) | (refine fr_store rfl rfl rfl rfl (by first | exact HF.out | exact HEF.out | exact HFI.out | exact HRO.out | exact Fr.zero_ok) [_, _] HA.out ?_; intro w_ hA; (try simp only [List.cons_append, List.nil_append] at hA); replace HA := Aside0.mk hA; clear hA) | (refine fr_store rfl rfl rfl rfl (by first | exact HF.out | exact HEF.out | exact HFI.out | exact HRO.out | exact Fr.zero_ok) [_, _, _] HA.out ?_; intro w_ hA; (try simp only [List.cons_append, List.nil_append] at hA); replace HA := Aside0.mk hA; clear hA) | (refine fr_box rfl rfl rfl (by first | exact HF.out | exact HEF.out | exact HFI.out | exact HRO.out | exact Fr.zero_ok) HA.out ?_; intro gp w_ hA; (try simp only [List.cons_append, List.nil_append] at hA); replace HA := Aside0.mk hA; clear hA) | (refine fr_alloc rfl rfl HA.out ?_; intro gr w_ hA; (try simp only [List.cons_append, List.nil_append] at hA); replace HA := Aside0.mk hA; clear hA) | (refine fr_build0 rfl rfl ?_) | (refine fr_build1 rfl rfl rfl ?_) | (refine fr_build2 rfl rfl rfl rfl ?_) | (refine fr_slot rfl rfl rfl rfl [] HA.out HQ.out ?_; intro w_ hA; (try simp only [List.cons_append, List.nil_append] at hA); replace HA := Aside0.mk hA; clear hA) | (refine fr_slot rfl rfl rfl rfl [_] HA.out HQ.out ?_; intro w_ hA; (try simp only [List.cons_append, List.nil_append] at hA); replace HA := Aside0.mk hA; clear hA) | (refine fr_slot rfl rfl rfl rfl [_, _] HA.out HQ.out ?_; intro w_ hA; (try simp only [List.cons_append, List.nil_append] at hA); replace HA := Aside0.mk hA; clear hA) | (refine fr_high rfl rfl rfl rfl [] HA.out ?_; intro w_ hA; (try simp only [List.cons_append, List.nil_append] at hA); replace HA := Aside0.mk hA; clear hA) | (refine fr_high rfl rfl rfl rfl [_] HA.out ?_; intro w_ hA; (try simp only [List.cons_append, List.nil_append] at hA); replace HA := Aside0.mk hA; clear hA) | (refine fr_high rfl rfl rfl rfl [_, _] HA.out ?_; intro w_ hA; (try simp only [List.cons_append, List.nil_append] at hA); replace HA := Aside0.mk hA; clear hA) | (refine fr_loads rfl rfl rfl HA.out (by first | exact List.mem_cons_self | exact List.mem_cons_of_mem _ List.mem_cons_self | exact List.mem_cons_of_mem _ (List.mem_cons_of_mem _ List.mem_cons_self) | exact List.mem_cons_of_mem _ (List.mem_cons_of_mem _ (List.mem_cons_of_mem _ List.mem_cons_self))) HQ.out ?_))
          refine bodyPost_ret (fr_ret2 rfl _ HA.out (by first | exact List.mem_cons_self | exact List.mem_cons_of_mem _ List.mem_cons_self | exact List.mem_cons_of_mem _ (List.mem_cons_of_mem _ List.mem_cons_self) | exact List.mem_cons_of_mem _ (List.mem_cons_of_mem _ (List.mem_cons_of_mem _ List.mem_cons_self))) rfl) rfl ⟨?_, HA.out.below⟩
          rw [← HRR.out]
          rfl
        | true =>
          have HB2 : Aside0 (startFrom (provisoref03_stored.f l0) (l1.drop (i + 1)) (i + 1) ⟨f.loc, f.hgt, f.sl.set i t⟩ = some r) := ⟨by have := HB.out; simpa using this⟩
          go_wp2_with (first | ((with_reducible refine gate_dst (N := 8) rfl ?_); refine fr_alloc rfl rfl HA.out ?_; intro gf w_ hA; (try simp only [List.cons_append, List.nil_append] at hA); replace HA := Aside0.mk hA; clear hA) | (refine fr_guard rfl (by rfl) ?_; dsimp only) | (refine fr_load rfl rfl rfl HA.out (by first | exact List.mem_cons_self | exact List.mem_cons_of_mem _ List.mem_cons_self | exact List.mem_cons_of_mem _ (List.mem_cons_of_mem _ List.mem_cons_self) | exact List.mem_cons_of_mem _ (List.mem_cons_of_mem _ (List.mem_cons_of_mem _ List.mem_cons_self))) ?_) | (refine fr_load0 rfl rfl rfl HA.out (by first | exact List.mem_cons_self | exact List.mem_cons_of_mem _ List.mem_cons_self | exact List.mem_cons_of_mem _ (List.mem_cons_of_mem _ List.mem_cons_self) | exact List.mem_cons_of_mem _ (List.mem_cons_of_mem _ (List.mem_cons_of_mem _ List.mem_cons_self))) ?_) | (refine fr_load1 rfl rfl rfl HA.out (by first | exact List.mem_cons_self | exact List.mem_cons_of_mem _ List.mem_cons_self | exact List.mem_cons_of_mem _ (List.mem_cons_of_mem _ List.mem_cons_self) | exact List.mem_cons_of_mem _ (List.mem_cons_of_mem _ (List.mem_cons_of_mem _ List.mem_cons_self))) ?_) | (refine fr_store rfl rfl rfl rfl (by first | exact HF.out | exact HEF.out | exact HFI.out | exact HRO.out | exact Fr.zero_ok) [] HA.out ?_; intro w_ hA; (try simp only [List.cons_append, List.nil_append] at hA); replace HA := Aside0.mk hA; clear hA) | (refine fr_store rfl rfl rfl rfl (by first | exact HF.out | exact HEF.out | exact HFI.out | exact HRO.out | exact Fr.zero_ok) [_] HA.out ?_; intro w_ hA; (try simp only [List.cons_append, List.nil_append] at hA); replace HA := Aside0.mk hA; clear hA) | (refine fr_store rfl rfl rfl rfl (by first | exact HF.out | exact HEF.out | exact HFI.out | exact HRO.out | exact Fr.zero_ok) [_, _] HA.out ?_; intro w_ hA; (try simp only [List.cons_append, List.nil_append] at hA); replace HA := Aside0.mk hA; clear hA) | (refine fr_store rfl rfl rfl rfl (by first | exact HF.out | exact HEF.out | exact HFI.out | exact HRO.out | exact Fr.zero_ok) [_, _, _] HA.out ?_; intro w_ hA; (try simp only [List.cons_append, List.nil_append] at hA); replace HA := Aside0.mk hA; clear hA) | (refine fr_box rfl rfl rfl (by first | exact HF.out | exact HEF.out | exact HFI.out | exact HRO.out | exact Fr.zero_ok) HA.out ?_; intro gp w_ hA; (try simp only [List.cons_append, List.nil_append] at hA); replace HA := Aside0.mk hA; clear hA) | (refine fr_alloc rfl rfl HA.out ?_; intro gr w_ hA; (try simp only [List.cons_append, List.nil_append] at hA); replace HA := Aside0.mk hA; clear hA) | (refine fr_build0 rfl rfl ?_) | (refine fr_build1 rfl rfl rfl ?_) | (refine fr_build2 rfl rfl rfl rfl ?_) | (refine fr_slot rfl rfl rfl rfl [] HA.out HQ.out ?_; intro w_ hA; (try simp only [List.cons_append, List.nil_append] at hA); replace HA := Aside0.mk hA; clear hA) | (refine fr_slot rfl rfl rfl rfl [_] HA.out HQ.out ?_; intro w_ hA; (try simp only [List.cons_append, List.nil_append] at hA); replace HA := Aside0.mk hA; clear hA) | (refine fr_slot rfl rfl rfl rfl [_, _] HA.out HQ.out ?_; intro w_ hA; (try simp only [List.cons_append, List.nil_append] at hA); replace HA := Aside0.mk hA; clear hA) | (refine fr_high rfl rfl rfl rfl [] HA.out ?_; intro w_ hA; (try simp only [List.cons_append, List.nil_append] at hA); replace HA := Aside0.mk hA; clear hA) | (refine fr_high rfl rfl rfl rfl [_] HA.out ?_; intro w_ hA; (try simp only [List.cons_append, List.nil_append] at hA); replace HA := Aside0.mk hA; clear hA) | (refine fr_high rfl rfl rfl rfl [_, _] HA.out ?_; intro w_ hA; (try simp only [List.cons_append, List.nil_append] at hA); replace HA := Aside0.mk hA; clear hA) | (refine fr_loads rfl rfl rfl HA.out (by first | exact List.mem_cons_self | exact List.mem_cons_of_mem _ List.mem_cons_self | exact List.mem_cons_of_mem _ (List.mem_cons_of_mem _ List.mem_cons_self) | exact List.mem_cons_of_mem _ (List.mem_cons_of_mem _ (List.mem_cons_of_mem _ List.mem_cons_self))) HQ.out ?_))
          exact ⟨⟨i + 1, _, rfl, by omega, HB2, HA⟩, by simp [intOf]; omega⟩

      · have c1b : decide ((i : Int) < (l1.length : Int)) = false := decide_eq_false (by omega)
        have h1 := H.out
        rw [List.drop_of_length_le (by omega)] at h1
        obtain rfl := Option.some.inj h1
        have HFI := Aside0.mk (HA.out.mem (g := gf) (x := f) List.mem_cons_self).2
        clear h1 H
        go_wp2_with (first | ((with_reducible refine gate_dst (N := 8) rfl ?_); refine fr_alloc rfl rfl HA.out ?_; intro gf w_ hA; (try simp only [List.cons_append, List.nil_append] at hA); replace HA := Aside0.mk hA; clear hA) | (refine fr_guard rfl (by rfl) ?_; dsimp only) | (refine fr_load rfl rfl rfl HA.out (by first | exact List.mem_cons_self | exact List.mem_cons_of_mem _ List.mem_cons_self | exact List.mem_cons_of_mem _ (List.mem_cons_of_mem _ List.mem_cons_self) | exact List.mem_cons_of_mem _ (List.mem_cons_of_mem _ (List.mem_cons_of_mem _ List.mem_cons_self))) ?_) | (refine fr_load0 rfl rfl rfl HA.out (by first | exact List.mem_cons_self | exact List.mem_cons_of_mem _ List.mem_cons_self | exact List.mem_cons_of_mem _ (List.mem_cons_of_mem _ List.mem_cons_self) | exact List.mem_cons_of_mem _ (List.mem_cons_of_mem _ (List.mem_cons_of_mem _ List.mem_cons_self))) ?_) | (refine fr_load1 rfl rfl rfl HA.out (by first | exact List.mem_cons_self | exact List.mem_cons_of_mem _ List.mem_cons_self | exact List.mem_cons_of_mem _ (List.mem_cons_of_mem _ List.mem_cons_self) | exact List.mem_cons_of_mem _ (List.mem_cons_of_mem _ (List.mem_cons_of_mem _ List.mem_cons_self))) ?_) | (refine fr_store rfl rfl rfl rfl (by first | exact HF.out | exact HEF.out | exact HFI.out | exact HRO.out | exact Fr.zero_ok) [] HA.out ?_; intro w_ hA; (try simp only [List.cons_append, List.nil_append] at hA); replace HA := Aside0.mk hA; clear hA) | (refine fr_store rfl rfl rfl rfl (by first | exact HF.out | exact HEF.out | exact HFI.out | exact HRO.out | exact Fr.zero_ok) [_] HA.out ?_; intro w_ hA; (try simp only [List.cons_append, List.nil_append] at hA); replace HA := Aside0.mk hA; clear hA) | (refine fr_store rfl rfl rfl rfl (by first | exact HF.out | exact HEF.out | exact HFI.out | exact HRO.out | exact Fr.zero_ok) [_, _] HA.out ?_; intro w_ hA; (try simp only [List.cons_append, List.nil_append] at hA); replace HA := Aside0.mk hA; clear hA) | (refine fr_store rfl rfl rfl rfl (by first | exact HF.out | exact HEF.out | exact HFI.out | exact HRO.out | exact Fr.zero_ok) [_, _, _] HA.out ?_; intro w_ hA; (try simp only [List.cons_append, List.nil_append] at hA); replace HA := Aside0.mk hA; clear hA) | (refine fr_box rfl rfl rfl (by first | exact HF.out | exact HEF.out | exact HFI.out | exact HRO.out | exact Fr.zero_ok) HA.out ?_; intro gp w_ hA; (try simp only [List.cons_append, List.nil_append] at hA); replace HA := Aside0.mk hA; clear hA) | (refine fr_alloc rfl rfl HA.out ?_; intro gr w_ hA; (try simp only [List.cons_append, List.nil_append] at hA); replace HA := Aside0.mk hA; clear hA) | (refine fr_build0 rfl rfl ?_) | (refine fr_build1 rfl rfl rfl ?_) | (refine fr_build2 rfl rfl rfl rfl ?_) | (refine fr_slot rfl rfl rfl rfl [] HA.out HQ.out ?_; intro w_ hA; (try simp only [List.cons_append, List.nil_append] at hA); replace HA := Aside0.mk hA; clear hA) | (refine fr_slot rfl rfl rfl rfl [_] HA.out HQ.out ?_; intro w_ hA; (try simp only [List.cons_append, List.nil_append] at hA); replace HA := Aside0.mk hA; clear hA) | (refine fr_slot rfl rfl rfl rfl [_, _] HA.out HQ.out ?_; intro w_ hA; (try simp only [List.cons_append, List.nil_append] at hA); replace HA := Aside0.mk hA; clear hA) | (refine fr_high rfl rfl rfl rfl [] HA.out ?_; intro w_ hA; (try simp only [List.cons_append, List.nil_append] at hA); replace HA := Aside0.mk hA; clear hA) | (refine fr_high rfl rfl rfl rfl [_] HA.out ?_; intro w_ hA; (try simp only [List.cons_append, List.nil_append] at hA); replace HA := Aside0.mk hA; clear hA) | (refine fr_high rfl rfl rfl rfl [_, _] HA.out ?_; intro w_ hA; (try simp only [List.cons_append, List.nil_append] at hA); replace HA := Aside0.mk hA; clear hA) | (refine fr_loads rfl rfl rfl HA.out (by first | exact List.mem_cons_self | exact List.mem_cons_of_mem _ List.mem_cons_self | exact List.mem_cons_of_mem _ (List.mem_cons_of_mem _ List.mem_cons_self) | exact List.mem_cons_of_mem _ (List.mem_cons_of_mem _ (List.mem_cons_of_mem _ List.mem_cons_self))) HQ.out ?_))
        refine bodyPost_ret (fr_ret2 rfl _ HA.out (by first | exact List.mem_cons_self | exact List.mem_cons_of_mem _ List.mem_cons_self | exact List.mem_cons_of_mem _ (List.mem_cons_of_mem _ List.mem_cons_self) | exact List.mem_cons_of_mem _ (List.mem_cons_of_mem _ (List.mem_cons_of_mem _ List.mem_cons_self))) rfl) rfl ⟨?_, HA.out.below⟩
        rfl
def provisolaw03_FramesStarts.f (k : Nat) (l0 : List S59) (l1 : List Int) (a2 : Int) : Option Bool :=
  (provisolaw03_table.f k l0).bind fun t => if t = true then (provisoplain_Classes.f k l0).bind fun l2 => (api_Type_15.f l1).bind fun p => (startS (okI l2) p a2).bind fun r1 => (startS (provisoref03_stored.f l0) l1 a2).bind fun r2 => if (frEq r1.1 r2.1 && (r1.2 == r2.2)) = true then ((provisoplain_SameClasses.f k l2 l0).bind fun s => if s = true then (api_Type_19.f k p l1).bind fun e => if e = true then some true else none else none) else none else some true
set_option maxHeartbeats 3200000 in
set_option maxRecDepth 100000 in
theorem provisolaw03_FramesStarts.calls (k : Nat) (A0 : Option Addr) (c0 : Nat) (l0 : List S59) (A1 : Option Addr) (c1 : Nat) (l1 : List Int) (a2 : Int) (r : Bool) (w : World) (hr0 : Kd.C k59 w A0 l0.length l0) (hc0 : l0.length ≤ c0) (hr1 : Kd.C (Kd.int .u8) w A1 l1.length l1) (hc1 : l1.length ≤ c1) (h : provisolaw03_FramesStarts.f k l0 l1 a2 = some r) :
    Calls Try.prog 3 #[.slice A0 l0.length c0, .slice A1 l1.length c1, .int .i64 a2] w fun e w' => e = .returned (.bool r) ∧ Below w.heap.size w w' := by
  have HR0 := Aside0.mk hr0
  have HC0 := Aside0.mk hc0
  have HR1 := Aside0.mk hr1
  have HC1 := Aside0.mk hc1
  have HA := Aside0.mk (Frs.nil w)
  have HF : Aside0 (Fr.zero.ok) := ⟨rfl⟩
  obtain ⟨es, hes⟩ : ∃ es, emptyS a2 = es := ⟨_, rfl⟩
  have HE : Aside0 (es.1.ok) := ⟨by rw [← hes]; exact emptyS_ok a2⟩
  have HES := Aside0.mk hes
  unfold provisolaw03_FramesStarts.f at h
  obtain ⟨t, ht, h⟩ := Option.bind_eq_some_iff.mp h
  have HTB := Aside0.mk ht
  have H := Aside0.mk h
  clear hr0 hc0 hr1 hc1 hes ht h
  go_enter Try.func3, Try.ntmps3
  go_wp2_with (first | (refine fr_neq_self rfl rfl rfl rfl (by first | exact HE.out | exact HRK.out | exact HF.out | exact Fr.zero_ok) ?_) | (refine fr_eql_self rfl rfl rfl rfl (by first | exact HE.out | exact HRK.out | exact HF.out | exact Fr.zero_ok) ?_) | (refine fr_guard rfl (by rfl) ?_; dsimp only) | (refine fr_load rfl rfl rfl HA.out (by first | exact List.mem_cons_self | exact List.mem_cons_of_mem _ List.mem_cons_self | exact List.mem_cons_of_mem _ (List.mem_cons_of_mem _ List.mem_cons_self) | exact List.mem_cons_of_mem _ (List.mem_cons_of_mem _ (List.mem_cons_of_mem _ List.mem_cons_self))) ?_) | (refine fr_load0 rfl rfl rfl HA.out (by first | exact List.mem_cons_self | exact List.mem_cons_of_mem _ List.mem_cons_self | exact List.mem_cons_of_mem _ (List.mem_cons_of_mem _ List.mem_cons_self) | exact List.mem_cons_of_mem _ (List.mem_cons_of_mem _ (List.mem_cons_of_mem _ List.mem_cons_self))) ?_) | (refine fr_load1 rfl rfl rfl HA.out (by first | exact List.mem_cons_self | exact List.mem_cons_of_mem _ List.mem_cons_self | exact List.mem_cons_of_mem _ (List.mem_cons_of_mem _ List.mem_cons_self) | exact List.mem_cons_of_mem _ (List.mem_cons_of_mem _ (List.mem_cons_of_mem _ List.mem_cons_self))) ?_) | (refine fr_store rfl rfl rfl rfl (by first | exact HE.out | exact HRK.out | exact HF.out | exact Fr.zero_ok) [] HA.out ?_; intro w_ hA; (try simp only [List.cons_append, List.nil_append] at hA); replace HA := Aside0.mk hA; clear hA) | (refine fr_store rfl rfl rfl rfl (by first | exact HE.out | exact HRK.out | exact HF.out | exact Fr.zero_ok) [_] HA.out ?_; intro w_ hA; (try simp only [List.cons_append, List.nil_append] at hA); replace HA := Aside0.mk hA; clear hA) | (refine fr_store rfl rfl rfl rfl (by first | exact HE.out | exact HRK.out | exact HF.out | exact Fr.zero_ok) [_, _] HA.out ?_; intro w_ hA; (try simp only [List.cons_append, List.nil_append] at hA); replace HA := Aside0.mk hA; clear hA) | (refine fr_store rfl rfl rfl rfl (by first | exact HE.out | exact HRK.out | exact HF.out | exact Fr.zero_ok) [_, _, _] HA.out ?_; intro w_ hA; (try simp only [List.cons_append, List.nil_append] at hA); replace HA := Aside0.mk hA; clear hA) | (refine fr_box rfl rfl rfl (by first | exact HE.out | exact HRK.out | exact HF.out | exact Fr.zero_ok) HA.out ?_; intro gp w_ hA; (try simp only [List.cons_append, List.nil_append] at hA); replace HA := Aside0.mk hA; clear hA) | (refine fr_alloc rfl rfl HA.out ?_; intro gr w_ hA; (try simp only [List.cons_append, List.nil_append] at hA); replace HA := Aside0.mk hA; clear hA) | (refine fr_build0 rfl rfl ?_) | (refine fr_build1 rfl rfl rfl ?_) | (refine fr_build2 rfl rfl rfl rfl ?_) | (refine fr_slot rfl rfl rfl rfl [] HA.out HQ.out ?_; intro w_ hA; (try simp only [List.cons_append, List.nil_append] at hA); replace HA := Aside0.mk hA; clear hA) | (refine fr_slot rfl rfl rfl rfl [_] HA.out HQ.out ?_; intro w_ hA; (try simp only [List.cons_append, List.nil_append] at hA); replace HA := Aside0.mk hA; clear hA) | (refine fr_slot rfl rfl rfl rfl [_, _] HA.out HQ.out ?_; intro w_ hA; (try simp only [List.cons_append, List.nil_append] at hA); replace HA := Aside0.mk hA; clear hA) | (refine fr_high rfl rfl rfl rfl [] HA.out ?_; intro w_ hA; (try simp only [List.cons_append, List.nil_append] at hA); replace HA := Aside0.mk hA; clear hA) | (refine fr_high rfl rfl rfl rfl [_] HA.out ?_; intro w_ hA; (try simp only [List.cons_append, List.nil_append] at hA); replace HA := Aside0.mk hA; clear hA) | (refine fr_high rfl rfl rfl rfl [_, _] HA.out ?_; intro w_ hA; (try simp only [List.cons_append, List.nil_append] at hA); replace HA := Aside0.mk hA; clear hA) | (refine fr_loads rfl rfl rfl HA.out (by first | exact List.mem_cons_self | exact List.mem_cons_of_mem _ List.mem_cons_self | exact List.mem_cons_of_mem _ (List.mem_cons_of_mem _ List.mem_cons_self) | exact List.mem_cons_of_mem _ (List.mem_cons_of_mem _ (List.mem_cons_of_mem _ List.mem_cons_self))) HQ.out ?_))
  have hcall := Empty_calls a2 w
  rw [HES.out] at hcall
  refine hcall.mono ?_
  clear hcall
  rintro e w_ ⟨rfl, hb⟩
  replace HA := Aside0.mk (HA.out.step hb)
  clear hb
  go_wp2_with (first | ((with_reducible refine gate_dst (N := 7) rfl ?_); refine fr_alloc rfl rfl HA.out ?_; intro g7 w_ hA; (try simp only [List.cons_append, List.nil_append] at hA); replace HA := Aside0.mk hA; clear hA) | ((with_reducible refine gate_dst (N := 9) rfl ?_); refine fr_alloc rfl rfl HA.out ?_; intro g9 w_ hA; (try simp only [List.cons_append, List.nil_append] at hA); replace HA := Aside0.mk hA; clear hA) | (refine fr_neq_self rfl rfl rfl rfl (by first | exact HE.out | exact HRK.out | exact HF.out | exact Fr.zero_ok) ?_) | (refine fr_eql_self rfl rfl rfl rfl (by first | exact HE.out | exact HRK.out | exact HF.out | exact Fr.zero_ok) ?_) | (refine fr_guard rfl (by rfl) ?_; dsimp only) | (refine fr_load rfl rfl rfl HA.out (by first | exact List.mem_cons_self | exact List.mem_cons_of_mem _ List.mem_cons_self | exact List.mem_cons_of_mem _ (List.mem_cons_of_mem _ List.mem_cons_self) | exact List.mem_cons_of_mem _ (List.mem_cons_of_mem _ (List.mem_cons_of_mem _ List.mem_cons_self))) ?_) | (refine fr_load0 rfl rfl rfl HA.out (by first | exact List.mem_cons_self | exact List.mem_cons_of_mem _ List.mem_cons_self | exact List.mem_cons_of_mem _ (List.mem_cons_of_mem _ List.mem_cons_self) | exact List.mem_cons_of_mem _ (List.mem_cons_of_mem _ (List.mem_cons_of_mem _ List.mem_cons_self))) ?_) | (refine fr_load1 rfl rfl rfl HA.out (by first | exact List.mem_cons_self | exact List.mem_cons_of_mem _ List.mem_cons_self | exact List.mem_cons_of_mem _ (List.mem_cons_of_mem _ List.mem_cons_self) | exact List.mem_cons_of_mem _ (List.mem_cons_of_mem _ (List.mem_cons_of_mem _ List.mem_cons_self))) ?_) | (refine fr_store rfl rfl rfl rfl (by first | exact HE.out | exact HRK.out | exact HF.out | exact Fr.zero_ok) [] HA.out ?_; intro w_ hA; (try simp only [List.cons_append, List.nil_append] at hA); replace HA := Aside0.mk hA; clear hA) | (refine fr_store rfl rfl rfl rfl (by first | exact HE.out | exact HRK.out | exact HF.out | exact Fr.zero_ok) [_] HA.out ?_; intro w_ hA; (try simp only [List.cons_append, List.nil_append] at hA); replace HA := Aside0.mk hA; clear hA) | (refine fr_store rfl rfl rfl rfl (by first | exact HE.out | exact HRK.out | exact HF.out | exact Fr.zero_ok) [_, _] HA.out ?_; intro w_ hA; (try simp only [List.cons_append, List.nil_append] at hA); replace HA := Aside0.mk hA; clear hA) | (refine fr_store rfl rfl rfl rfl (by first | exact HE.out | exact HRK.out | exact HF.out | exact Fr.zero_ok) [_, _, _] HA.out ?_; intro w_ hA; (try simp only [List.cons_append, List.nil_append] at hA); replace HA := Aside0.mk hA; clear hA) | (refine fr_box rfl rfl rfl (by first | exact HE.out | exact HRK.out | exact HF.out | exact Fr.zero_ok) HA.out ?_; intro gp w_ hA; (try simp only [List.cons_append, List.nil_append] at hA); replace HA := Aside0.mk hA; clear hA) | (refine fr_alloc rfl rfl HA.out ?_; intro gr w_ hA; (try simp only [List.cons_append, List.nil_append] at hA); replace HA := Aside0.mk hA; clear hA) | (refine fr_build0 rfl rfl ?_) | (refine fr_build1 rfl rfl rfl ?_) | (refine fr_build2 rfl rfl rfl rfl ?_) | (refine fr_slot rfl rfl rfl rfl [] HA.out HQ.out ?_; intro w_ hA; (try simp only [List.cons_append, List.nil_append] at hA); replace HA := Aside0.mk hA; clear hA) | (refine fr_slot rfl rfl rfl rfl [_] HA.out HQ.out ?_; intro w_ hA; (try simp only [List.cons_append, List.nil_append] at hA); replace HA := Aside0.mk hA; clear hA) | (refine fr_slot rfl rfl rfl rfl [_, _] HA.out HQ.out ?_; intro w_ hA; (try simp only [List.cons_append, List.nil_append] at hA); replace HA := Aside0.mk hA; clear hA) | (refine fr_high rfl rfl rfl rfl [] HA.out ?_; intro w_ hA; (try simp only [List.cons_append, List.nil_append] at hA); replace HA := Aside0.mk hA; clear hA) | (refine fr_high rfl rfl rfl rfl [_] HA.out ?_; intro w_ hA; (try simp only [List.cons_append, List.nil_append] at hA); replace HA := Aside0.mk hA; clear hA) | (refine fr_high rfl rfl rfl rfl [_, _] HA.out ?_; intro w_ hA; (try simp only [List.cons_append, List.nil_append] at hA); replace HA := Aside0.mk hA; clear hA) | (refine fr_loads rfl rfl rfl HA.out (by first | exact List.mem_cons_self | exact List.mem_cons_of_mem _ List.mem_cons_self | exact List.mem_cons_of_mem _ (List.mem_cons_of_mem _ List.mem_cons_self) | exact List.mem_cons_of_mem _ (List.mem_cons_of_mem _ (List.mem_cons_of_mem _ List.mem_cons_self))) HQ.out ?_))
  have hcall := refEmpty_calls a2 w_
  rw [HES.out] at hcall
  refine hcall.mono ?_
  clear hcall
  rintro e w_ ⟨rfl, hb⟩
  replace HA := Aside0.mk (HA.out.step hb)
  clear hb
  go_wp2_with (first | ((with_reducible refine gate_dst (N := 7) rfl ?_); refine fr_alloc rfl rfl HA.out ?_; intro g7 w_ hA; (try simp only [List.cons_append, List.nil_append] at hA); replace HA := Aside0.mk hA; clear hA) | ((with_reducible refine gate_dst (N := 9) rfl ?_); refine fr_alloc rfl rfl HA.out ?_; intro g9 w_ hA; (try simp only [List.cons_append, List.nil_append] at hA); replace HA := Aside0.mk hA; clear hA) | (refine fr_neq_self rfl rfl rfl rfl (by first | exact HE.out | exact HRK.out | exact HF.out | exact Fr.zero_ok) ?_) | (refine fr_eql_self rfl rfl rfl rfl (by first | exact HE.out | exact HRK.out | exact HF.out | exact Fr.zero_ok) ?_) | (refine fr_guard rfl (by rfl) ?_; dsimp only) | (refine fr_load rfl rfl rfl HA.out (by first | exact List.mem_cons_self | exact List.mem_cons_of_mem _ List.mem_cons_self | exact List.mem_cons_of_mem _ (List.mem_cons_of_mem _ List.mem_cons_self) | exact List.mem_cons_of_mem _ (List.mem_cons_of_mem _ (List.mem_cons_of_mem _ List.mem_cons_self))) ?_) | (refine fr_load0 rfl rfl rfl HA.out (by first | exact List.mem_cons_self | exact List.mem_cons_of_mem _ List.mem_cons_self | exact List.mem_cons_of_mem _ (List.mem_cons_of_mem _ List.mem_cons_self) | exact List.mem_cons_of_mem _ (List.mem_cons_of_mem _ (List.mem_cons_of_mem _ List.mem_cons_self))) ?_) | (refine fr_load1 rfl rfl rfl HA.out (by first | exact List.mem_cons_self | exact List.mem_cons_of_mem _ List.mem_cons_self | exact List.mem_cons_of_mem _ (List.mem_cons_of_mem _ List.mem_cons_self) | exact List.mem_cons_of_mem _ (List.mem_cons_of_mem _ (List.mem_cons_of_mem _ List.mem_cons_self))) ?_) | (refine fr_store rfl rfl rfl rfl (by first | exact HE.out | exact HRK.out | exact HF.out | exact Fr.zero_ok) [] HA.out ?_; intro w_ hA; (try simp only [List.cons_append, List.nil_append] at hA); replace HA := Aside0.mk hA; clear hA) | (refine fr_store rfl rfl rfl rfl (by first | exact HE.out | exact HRK.out | exact HF.out | exact Fr.zero_ok) [_] HA.out ?_; intro w_ hA; (try simp only [List.cons_append, List.nil_append] at hA); replace HA := Aside0.mk hA; clear hA) | (refine fr_store rfl rfl rfl rfl (by first | exact HE.out | exact HRK.out | exact HF.out | exact Fr.zero_ok) [_, _] HA.out ?_; intro w_ hA; (try simp only [List.cons_append, List.nil_append] at hA); replace HA := Aside0.mk hA; clear hA) | (refine fr_store rfl rfl rfl rfl (by first | exact HE.out | exact HRK.out | exact HF.out | exact Fr.zero_ok) [_, _, _] HA.out ?_; intro w_ hA; (try simp only [List.cons_append, List.nil_append] at hA); replace HA := Aside0.mk hA; clear hA) | (refine fr_box rfl rfl rfl (by first | exact HE.out | exact HRK.out | exact HF.out | exact Fr.zero_ok) HA.out ?_; intro gp w_ hA; (try simp only [List.cons_append, List.nil_append] at hA); replace HA := Aside0.mk hA; clear hA) | (refine fr_alloc rfl rfl HA.out ?_; intro gr w_ hA; (try simp only [List.cons_append, List.nil_append] at hA); replace HA := Aside0.mk hA; clear hA) | (refine fr_build0 rfl rfl ?_) | (refine fr_build1 rfl rfl rfl ?_) | (refine fr_build2 rfl rfl rfl rfl ?_) | (refine fr_slot rfl rfl rfl rfl [] HA.out HQ.out ?_; intro w_ hA; (try simp only [List.cons_append, List.nil_append] at hA); replace HA := Aside0.mk hA; clear hA) | (refine fr_slot rfl rfl rfl rfl [_] HA.out HQ.out ?_; intro w_ hA; (try simp only [List.cons_append, List.nil_append] at hA); replace HA := Aside0.mk hA; clear hA) | (refine fr_slot rfl rfl rfl rfl [_, _] HA.out HQ.out ?_; intro w_ hA; (try simp only [List.cons_append, List.nil_append] at hA); replace HA := Aside0.mk hA; clear hA) | (refine fr_high rfl rfl rfl rfl [] HA.out ?_; intro w_ hA; (try simp only [List.cons_append, List.nil_append] at hA); replace HA := Aside0.mk hA; clear hA) | (refine fr_high rfl rfl rfl rfl [_] HA.out ?_; intro w_ hA; (try simp only [List.cons_append, List.nil_append] at hA); replace HA := Aside0.mk hA; clear hA) | (refine fr_high rfl rfl rfl rfl [_, _] HA.out ?_; intro w_ hA; (try simp only [List.cons_append, List.nil_append] at hA); replace HA := Aside0.mk hA; clear hA) | (refine fr_loads rfl rfl rfl HA.out (by first | exact List.mem_cons_self | exact List.mem_cons_of_mem _ List.mem_cons_self | exact List.mem_cons_of_mem _ (List.mem_cons_of_mem _ List.mem_cons_self) | exact List.mem_cons_of_mem _ (List.mem_cons_of_mem _ (List.mem_cons_of_mem _ List.mem_cons_self))) HQ.out ?_))
  refine (provisolaw03_table.calls k A0 c0 l0 t w_ (Kd.C_below HR0.out HA.out.below) HC0.out HTB.out).mono ?_
  rintro e w_ ⟨rfl, hb⟩
  replace HA := Aside0.mk (HA.out.step hb)
  clear hb
  cases t with
  | false =>
    obtain rfl : true = r := by have := H.out; simpa using this
    go_wp2_with (first | (refine fr_neq_self rfl rfl rfl rfl (by first | exact HE.out | exact HRK.out | exact HF.out | exact Fr.zero_ok) ?_) | (refine fr_eql_self rfl rfl rfl rfl (by first | exact HE.out | exact HRK.out | exact HF.out | exact Fr.zero_ok) ?_) | (refine fr_guard rfl (by rfl) ?_; dsimp only) | (refine fr_load rfl rfl rfl HA.out (by first | exact List.mem_cons_self | exact List.mem_cons_of_mem _ List.mem_cons_self | exact List.mem_cons_of_mem _ (List.mem_cons_of_mem _ List.mem_cons_self) | exact List.mem_cons_of_mem _ (List.mem_cons_of_mem _ (List.mem_cons_of_mem _ List.mem_cons_self))) ?_) | (refine fr_load0 rfl rfl rfl HA.out (by first | exact List.mem_cons_self | exact List.mem_cons_of_mem _ List.mem_cons_self | exact List.mem_cons_of_mem _ (List.mem_cons_of_mem _ List.mem_cons_self) | exact List.mem_cons_of_mem _ (List.mem_cons_of_mem _ (List.mem_cons_of_mem _ List.mem_cons_self))) ?_) | (refine fr_load1 rfl rfl rfl HA.out (by first | exact List.mem_cons_self | exact List.mem_cons_of_mem _ List.mem_cons_self | exact List.mem_cons_of_mem _ (List.mem_cons_of_mem _ List.mem_cons_self) | exact List.mem_cons_of_mem _ (List.mem_cons_of_mem _ (List.mem_cons_of_mem _ List.mem_cons_self))) ?_) | (refine fr_store rfl rfl rfl rfl (by first | exact HE.out | exact HRK.out | exact HF.out | exact Fr.zero_ok) [] HA.out ?_; intro w_ hA; (try simp only [List.cons_append, List.nil_append] at hA); replace HA := Aside0.mk hA; clear hA) | (refine fr_store rfl rfl rfl rfl (by first | exact HE.out | exact HRK.out | exact HF.out | exact Fr.zero_ok) [_] HA.out ?_; intro w_ hA; (try simp only [List.cons_append, List.nil_append] at hA); replace HA := Aside0.mk hA; clear hA) | (refine fr_store rfl rfl rfl rfl (by first | exact HE.out | exact HRK.out | exact HF.out | exact Fr.zero_ok) [_, _] HA.out ?_; intro w_ hA; (try simp only [List.cons_append, List.nil_append] at hA); replace HA := Aside0.mk hA; clear hA) | (refine fr_store rfl rfl rfl rfl (by first | exact HE.out | exact HRK.out | exact HF.out | exact Fr.zero_ok) [_, _, _] HA.out ?_; intro w_ hA; (try simp only [List.cons_append, List.nil_append] at hA); replace HA := Aside0.mk hA; clear hA) | (refine fr_box rfl rfl rfl (by first | exact HE.out | exact HRK.out | exact HF.out | exact Fr.zero_ok) HA.out ?_; intro gp w_ hA; (try simp only [List.cons_append, List.nil_append] at hA); replace HA := Aside0.mk hA; clear hA) | (refine fr_alloc rfl rfl HA.out ?_; intro gr w_ hA; (try simp only [List.cons_append, List.nil_append] at hA); replace HA := Aside0.mk hA; clear hA) | (refine fr_build0 rfl rfl ?_) | (refine fr_build1 rfl rfl rfl ?_) | (refine fr_build2 rfl rfl rfl rfl ?_) | (refine fr_slot rfl rfl rfl rfl [] HA.out HQ.out ?_; intro w_ hA; (try simp only [List.cons_append, List.nil_append] at hA); replace HA := Aside0.mk hA; clear hA) | (refine fr_slot rfl rfl rfl rfl [_] HA.out HQ.out ?_; intro w_ hA; (try simp only [List.cons_append, List.nil_append] at hA); replace HA := Aside0.mk hA; clear hA) | (refine fr_slot rfl rfl rfl rfl [_, _] HA.out HQ.out ?_; intro w_ hA; (try simp only [List.cons_append, List.nil_append] at hA); replace HA := Aside0.mk hA; clear hA) | (refine fr_high rfl rfl rfl rfl [] HA.out ?_; intro w_ hA; (try simp only [List.cons_append, List.nil_append] at hA); replace HA := Aside0.mk hA; clear hA) | (refine fr_high rfl rfl rfl rfl [_] HA.out ?_; intro w_ hA; (try simp only [List.cons_append, List.nil_append] at hA); replace HA := Aside0.mk hA; clear hA) | (refine fr_high rfl rfl rfl rfl [_, _] HA.out ?_; intro w_ hA; (try simp only [List.cons_append, List.nil_append] at hA); replace HA := Aside0.mk hA; clear hA) | (refine fr_loads rfl rfl rfl HA.out (by first | exact List.mem_cons_self | exact List.mem_cons_of_mem _ List.mem_cons_self | exact List.mem_cons_of_mem _ (List.mem_cons_of_mem _ List.mem_cons_self) | exact List.mem_cons_of_mem _ (List.mem_cons_of_mem _ (List.mem_cons_of_mem _ List.mem_cons_self))) HQ.out ?_))
    go_ret
    exact ⟨rfl, HA.out.below⟩
  | true =>
    have h := H.out
    rw [if_pos rfl] at h
    obtain ⟨l2, hl2, h⟩ := Option.bind_eq_some_iff.mp h
    obtain ⟨p, hp, h⟩ := Option.bind_eq_some_iff.mp h
    obtain ⟨r1, hr1, h⟩ := Option.bind_eq_some_iff.mp h
    obtain ⟨r2, hr2, h⟩ := Option.bind_eq_some_iff.mp h
    split at h
    case isFalse => cases h
    rename_i heq
    obtain rfl : r1 = r2 := by
      rw [Bool.and_eq_true, frEq_iff, beq_iff_eq] at heq
      exact Prod.ext heq.1 heq.2
    obtain ⟨sb, hs, h⟩ := Option.bind_eq_some_iff.mp h
    split at h
    case isFalse => cases h
    rename_i hsb
    subst hsb
    obtain ⟨eb, he, h⟩ := Option.bind_eq_some_iff.mp h
    split at h
    case isFalse => cases h
    rename_i heb
    subst heb
    obtain rfl := Option.some.inj h
    have HRK : Aside0 (r1.1.ok) := ⟨startS_ok hr2⟩
    have HL2 := Aside0.mk hl2
    have HP := Aside0.mk hp
    have HI := Aside0.mk hr1
    have HJ := Aside0.mk hr2
    have HSB := Aside0.mk hs
    have HEB := Aside0.mk he
    have HL : Aside0 (g7 < w_.heap.size ∧ g9 < w_.heap.size) := ⟨HA.out.lt (List.mem_cons_of_mem _ List.mem_cons_self), HA.out.lt List.mem_cons_self⟩
    clear hl2 hp hr1 hr2 hs he h heq H
    go_wp2_with (first | (refine fr_neq_self rfl rfl rfl rfl (by first | exact HE.out | exact HRK.out | exact HF.out | exact Fr.zero_ok) ?_) | (refine fr_eql_self rfl rfl rfl rfl (by first | exact HE.out | exact HRK.out | exact HF.out | exact Fr.zero_ok) ?_) | (refine fr_guard rfl (by rfl) ?_; dsimp only) | (refine fr_load rfl rfl rfl HA.out (by first | exact List.mem_cons_self | exact List.mem_cons_of_mem _ List.mem_cons_self | exact List.mem_cons_of_mem _ (List.mem_cons_of_mem _ List.mem_cons_self) | exact List.mem_cons_of_mem _ (List.mem_cons_of_mem _ (List.mem_cons_of_mem _ List.mem_cons_self))) ?_) | (refine fr_load0 rfl rfl rfl HA.out (by first | exact List.mem_cons_self | exact List.mem_cons_of_mem _ List.mem_cons_self | exact List.mem_cons_of_mem _ (List.mem_cons_of_mem _ List.mem_cons_self) | exact List.mem_cons_of_mem _ (List.mem_cons_of_mem _ (List.mem_cons_of_mem _ List.mem_cons_self))) ?_) | (refine fr_load1 rfl rfl rfl HA.out (by first | exact List.mem_cons_self | exact List.mem_cons_of_mem _ List.mem_cons_self | exact List.mem_cons_of_mem _ (List.mem_cons_of_mem _ List.mem_cons_self) | exact List.mem_cons_of_mem _ (List.mem_cons_of_mem _ (List.mem_cons_of_mem _ List.mem_cons_self))) ?_) | (refine fr_store rfl rfl rfl rfl (by first | exact HE.out | exact HRK.out | exact HF.out | exact Fr.zero_ok) [] HA.out ?_; intro w_ hA; (try simp only [List.cons_append, List.nil_append] at hA); replace HA := Aside0.mk hA; clear hA) | (refine fr_store rfl rfl rfl rfl (by first | exact HE.out | exact HRK.out | exact HF.out | exact Fr.zero_ok) [_] HA.out ?_; intro w_ hA; (try simp only [List.cons_append, List.nil_append] at hA); replace HA := Aside0.mk hA; clear hA) | (refine fr_store rfl rfl rfl rfl (by first | exact HE.out | exact HRK.out | exact HF.out | exact Fr.zero_ok) [_, _] HA.out ?_; intro w_ hA; (try simp only [List.cons_append, List.nil_append] at hA); replace HA := Aside0.mk hA; clear hA) | (refine fr_store rfl rfl rfl rfl (by first | exact HE.out | exact HRK.out | exact HF.out | exact Fr.zero_ok) [_, _, _] HA.out ?_; intro w_ hA; (try simp only [List.cons_append, List.nil_append] at hA); replace HA := Aside0.mk hA; clear hA) | (refine fr_box rfl rfl rfl (by first | exact HE.out | exact HRK.out | exact HF.out | exact Fr.zero_ok) HA.out ?_; intro gp w_ hA; (try simp only [List.cons_append, List.nil_append] at hA); replace HA := Aside0.mk hA; clear hA) | (refine fr_alloc rfl rfl HA.out ?_; intro gr w_ hA; (try simp only [List.cons_append, List.nil_append] at hA); replace HA := Aside0.mk hA; clear hA) | (refine fr_build0 rfl rfl ?_) | (refine fr_build1 rfl rfl rfl ?_) | (refine fr_build2 rfl rfl rfl rfl ?_) | (refine fr_slot rfl rfl rfl rfl [] HA.out HQ.out ?_; intro w_ hA; (try simp only [List.cons_append, List.nil_append] at hA); replace HA := Aside0.mk hA; clear hA) | (refine fr_slot rfl rfl rfl rfl [_] HA.out HQ.out ?_; intro w_ hA; (try simp only [List.cons_append, List.nil_append] at hA); replace HA := Aside0.mk hA; clear hA) | (refine fr_slot rfl rfl rfl rfl [_, _] HA.out HQ.out ?_; intro w_ hA; (try simp only [List.cons_append, List.nil_append] at hA); replace HA := Aside0.mk hA; clear hA) | (refine fr_high rfl rfl rfl rfl [] HA.out ?_; intro w_ hA; (try simp only [List.cons_append, List.nil_append] at hA); replace HA := Aside0.mk hA; clear hA) | (refine fr_high rfl rfl rfl rfl [_] HA.out ?_; intro w_ hA; (try simp only [List.cons_append, List.nil_append] at hA); replace HA := Aside0.mk hA; clear hA) | (refine fr_high rfl rfl rfl rfl [_, _] HA.out ?_; intro w_ hA; (try simp only [List.cons_append, List.nil_append] at hA); replace HA := Aside0.mk hA; clear hA) | (refine fr_loads rfl rfl rfl HA.out (by first | exact List.mem_cons_self | exact List.mem_cons_of_mem _ List.mem_cons_self | exact List.mem_cons_of_mem _ (List.mem_cons_of_mem _ List.mem_cons_self) | exact List.mem_cons_of_mem _ (List.mem_cons_of_mem _ (List.mem_cons_of_mem _ List.mem_cons_self))) HQ.out ?_))
    refine (provisoplain_Classes.calls k A0 c0 l0 l2 w_ (Kd.C_below HR0.out HA.out.below) HC0.out HL2.out).mono ?_
    rintro e w5 ⟨v2, rfl, hS, hb⟩
    obtain ⟨A2, c2, rfl, hc2, _⟩ := Kd.R_reads (Kd.S_R hS)
    have HC2 := Aside0.mk hc2
    have HG := Aside0.mk (Kd.C_kept_own (S := fun k => k < w_.heap.size) (Kd.R_bound (Kd.S_R hS)) (fun k hk => by have := hk.2.1; omega))
    have HT := Aside0.mk (Kept.refl w5 (fun k => k < w_.heap.size))
    replace HA := Aside0.mk (HA.out.step hb)
    have HB45 := Aside0.mk hb.size
    clear hb hS hc2
    generalize w_.heap.size = b4 at HL HG HT HB45
    go_wp2_with (first | (refine fr_neq_self rfl rfl rfl rfl (by first | exact HE.out | exact HRK.out | exact HF.out | exact Fr.zero_ok) ?_) | (refine fr_eql_self rfl rfl rfl rfl (by first | exact HE.out | exact HRK.out | exact HF.out | exact Fr.zero_ok) ?_) | (refine fr_guard rfl (by rfl) ?_; dsimp only) | (refine fr_load rfl rfl rfl HA.out (by first | exact List.mem_cons_self | exact List.mem_cons_of_mem _ List.mem_cons_self | exact List.mem_cons_of_mem _ (List.mem_cons_of_mem _ List.mem_cons_self) | exact List.mem_cons_of_mem _ (List.mem_cons_of_mem _ (List.mem_cons_of_mem _ List.mem_cons_self))) ?_) | (refine fr_load0 rfl rfl rfl HA.out (by first | exact List.mem_cons_self | exact List.mem_cons_of_mem _ List.mem_cons_self | exact List.mem_cons_of_mem _ (List.mem_cons_of_mem _ List.mem_cons_self) | exact List.mem_cons_of_mem _ (List.mem_cons_of_mem _ (List.mem_cons_of_mem _ List.mem_cons_self))) ?_) | (refine fr_load1 rfl rfl rfl HA.out (by first | exact List.mem_cons_self | exact List.mem_cons_of_mem _ List.mem_cons_self | exact List.mem_cons_of_mem _ (List.mem_cons_of_mem _ List.mem_cons_self) | exact List.mem_cons_of_mem _ (List.mem_cons_of_mem _ (List.mem_cons_of_mem _ List.mem_cons_self))) ?_) | (refine fr_store rfl rfl rfl rfl (by first | exact HE.out | exact HRK.out | exact HF.out | exact Fr.zero_ok) [] HA.out ?_; intro w_ hA; (try simp only [List.cons_append, List.nil_append] at hA); replace HA := Aside0.mk hA; clear hA) | (refine fr_store rfl rfl rfl rfl (by first | exact HE.out | exact HRK.out | exact HF.out | exact Fr.zero_ok) [_] HA.out ?_; intro w_ hA; (try simp only [List.cons_append, List.nil_append] at hA); replace HA := Aside0.mk hA; clear hA) | (refine fr_store rfl rfl rfl rfl (by first | exact HE.out | exact HRK.out | exact HF.out | exact Fr.zero_ok) [_, _] HA.out ?_; intro w_ hA; (try simp only [List.cons_append, List.nil_append] at hA); replace HA := Aside0.mk hA; clear hA) | (refine fr_store rfl rfl rfl rfl (by first | exact HE.out | exact HRK.out | exact HF.out | exact Fr.zero_ok) [_, _, _] HA.out ?_; intro w_ hA; (try simp only [List.cons_append, List.nil_append] at hA); replace HA := Aside0.mk hA; clear hA) | (refine fr_box rfl rfl rfl (by first | exact HE.out | exact HRK.out | exact HF.out | exact Fr.zero_ok) HA.out ?_; intro gp w_ hA; (try simp only [List.cons_append, List.nil_append] at hA); replace HA := Aside0.mk hA; clear hA) | (refine fr_alloc rfl rfl HA.out ?_; intro gr w_ hA; (try simp only [List.cons_append, List.nil_append] at hA); replace HA := Aside0.mk hA; clear hA) | (refine fr_build0 rfl rfl ?_) | (refine fr_build1 rfl rfl rfl ?_) | (refine fr_build2 rfl rfl rfl rfl ?_) | (refine fr_slot rfl rfl rfl rfl [] HA.out HQ.out ?_; intro w_ hA; (try simp only [List.cons_append, List.nil_append] at hA); replace HA := Aside0.mk hA; clear hA) | (refine fr_slot rfl rfl rfl rfl [_] HA.out HQ.out ?_; intro w_ hA; (try simp only [List.cons_append, List.nil_append] at hA); replace HA := Aside0.mk hA; clear hA) | (refine fr_slot rfl rfl rfl rfl [_, _] HA.out HQ.out ?_; intro w_ hA; (try simp only [List.cons_append, List.nil_append] at hA); replace HA := Aside0.mk hA; clear hA) | (refine fr_high rfl rfl rfl rfl [] HA.out ?_; intro w_ hA; (try simp only [List.cons_append, List.nil_append] at hA); replace HA := Aside0.mk hA; clear hA) | (refine fr_high rfl rfl rfl rfl [_] HA.out ?_; intro w_ hA; (try simp only [List.cons_append, List.nil_append] at hA); replace HA := Aside0.mk hA; clear hA) | (refine fr_high rfl rfl rfl rfl [_, _] HA.out ?_; intro w_ hA; (try simp only [List.cons_append, List.nil_append] at hA); replace HA := Aside0.mk hA; clear hA) | (refine fr_loads rfl rfl rfl HA.out (by first | exact List.mem_cons_self | exact List.mem_cons_of_mem _ List.mem_cons_self | exact List.mem_cons_of_mem _ (List.mem_cons_of_mem _ List.mem_cons_self) | exact List.mem_cons_of_mem _ (List.mem_cons_of_mem _ (List.mem_cons_of_mem _ List.mem_cons_self))) HQ.out ?_))
    refine (api_Type_15.calls A1 c1 l1 p w5 (Kd.C_below HR1.out HA.out.below) HC1.out HP.out).mono ?_
    rintro e w6 ⟨v3, rfl, hR, hb⟩
    obtain ⟨A3, c3, rfl, hc3, _⟩ := Kd.R_reads hR
    have HC3 := Aside0.mk hc3
    have HPG := Aside0.mk (Kd.C_kept_own (S := fun k => k < b4) (Kd.R_bound hR) (fun k hk => by have := hk.2.1; have := HB45.out; omega))
    have HT5 := Aside0.mk (HT.out.below hb)
    clear HT
    have HT := Aside0.mk (Kept.refl w6 (fun k => k < b4))
    replace HA := Aside0.mk (HA.out.step hb)
    clear hb hR hc3
    go_wp2_with (first | (refine fr_neq_self rfl rfl rfl rfl (by first | exact HE.out | exact HRK.out | exact HF.out | exact Fr.zero_ok) ?_) | (refine fr_eql_self rfl rfl rfl rfl (by first | exact HE.out | exact HRK.out | exact HF.out | exact Fr.zero_ok) ?_) | (refine fr_guard rfl (by rfl) ?_; dsimp only) | (refine fr_load rfl rfl rfl HA.out (by first | exact List.mem_cons_self | exact List.mem_cons_of_mem _ List.mem_cons_self | exact List.mem_cons_of_mem _ (List.mem_cons_of_mem _ List.mem_cons_self) | exact List.mem_cons_of_mem _ (List.mem_cons_of_mem _ (List.mem_cons_of_mem _ List.mem_cons_self))) ?_) | (refine fr_load0 rfl rfl rfl HA.out (by first | exact List.mem_cons_self | exact List.mem_cons_of_mem _ List.mem_cons_self | exact List.mem_cons_of_mem _ (List.mem_cons_of_mem _ List.mem_cons_self) | exact List.mem_cons_of_mem _ (List.mem_cons_of_mem _ (List.mem_cons_of_mem _ List.mem_cons_self))) ?_) | (refine fr_load1 rfl rfl rfl HA.out (by first | exact List.mem_cons_self | exact List.mem_cons_of_mem _ List.mem_cons_self | exact List.mem_cons_of_mem _ (List.mem_cons_of_mem _ List.mem_cons_self) | exact List.mem_cons_of_mem _ (List.mem_cons_of_mem _ (List.mem_cons_of_mem _ List.mem_cons_self))) ?_) | (refine fr_store rfl rfl rfl rfl (by first | exact HE.out | exact HRK.out | exact HF.out | exact Fr.zero_ok) [] HA.out ?_; intro w_ hA; (try simp only [List.cons_append, List.nil_append] at hA); replace HA := Aside0.mk hA; clear hA) | (refine fr_store rfl rfl rfl rfl (by first | exact HE.out | exact HRK.out | exact HF.out | exact Fr.zero_ok) [_] HA.out ?_; intro w_ hA; (try simp only [List.cons_append, List.nil_append] at hA); replace HA := Aside0.mk hA; clear hA) | (refine fr_store rfl rfl rfl rfl (by first | exact HE.out | exact HRK.out | exact HF.out | exact Fr.zero_ok) [_, _] HA.out ?_; intro w_ hA; (try simp only [List.cons_append, List.nil_append] at hA); replace HA := Aside0.mk hA; clear hA) | (refine fr_store rfl rfl rfl rfl (by first | exact HE.out | exact HRK.out | exact HF.out | exact Fr.zero_ok) [_, _, _] HA.out ?_; intro w_ hA; (try simp only [List.cons_append, List.nil_append] at hA); replace HA := Aside0.mk hA; clear hA) | (refine fr_box rfl rfl rfl (by first | exact HE.out | exact HRK.out | exact HF.out | exact Fr.zero_ok) HA.out ?_; intro gp w_ hA; (try simp only [List.cons_append, List.nil_append] at hA); replace HA := Aside0.mk hA; clear hA) | (refine fr_alloc rfl rfl HA.out ?_; intro gr w_ hA; (try simp only [List.cons_append, List.nil_append] at hA); replace HA := Aside0.mk hA; clear hA) | (refine fr_build0 rfl rfl ?_) | (refine fr_build1 rfl rfl rfl ?_) | (refine fr_build2 rfl rfl rfl rfl ?_) | (refine fr_slot rfl rfl rfl rfl [] HA.out HQ.out ?_; intro w_ hA; (try simp only [List.cons_append, List.nil_append] at hA); replace HA := Aside0.mk hA; clear hA) | (refine fr_slot rfl rfl rfl rfl [_] HA.out HQ.out ?_; intro w_ hA; (try simp only [List.cons_append, List.nil_append] at hA); replace HA := Aside0.mk hA; clear hA) | (refine fr_slot rfl rfl rfl rfl [_, _] HA.out HQ.out ?_; intro w_ hA; (try simp only [List.cons_append, List.nil_append] at hA); replace HA := Aside0.mk hA; clear hA) | (refine fr_high rfl rfl rfl rfl [] HA.out ?_; intro w_ hA; (try simp only [List.cons_append, List.nil_append] at hA); replace HA := Aside0.mk hA; clear hA) | (refine fr_high rfl rfl rfl rfl [_] HA.out ?_; intro w_ hA; (try simp only [List.cons_append, List.nil_append] at hA); replace HA := Aside0.mk hA; clear hA) | (refine fr_high rfl rfl rfl rfl [_, _] HA.out ?_; intro w_ hA; (try simp only [List.cons_append, List.nil_append] at hA); replace HA := Aside0.mk hA; clear hA) | (refine fr_loads rfl rfl rfl HA.out (by first | exact List.mem_cons_self | exact List.mem_cons_of_mem _ List.mem_cons_self | exact List.mem_cons_of_mem _ (List.mem_cons_of_mem _ List.mem_cons_self) | exact List.mem_cons_of_mem _ (List.mem_cons_of_mem _ (List.mem_cons_of_mem _ List.mem_cons_self))) HQ.out ?_))
    refine (Start_calls A2 c2 l2 A3 c3 p a2 r1 w6 (HG.out _ HT5.out) HC2.out (HPG.out _ (Kept.refl _ _)) HC3.out HI.out).mono ?_
    rintro e w_ ⟨rfl, hb⟩
    replace HA := Aside0.mk (HA.out.step hb)
    have hT := HT.out.below hb
    clear HT
    have HT := Aside0.mk hT
    clear hb hT
    go_wp2_with (first | (refine fr_storeK rfl rfl rfl rfl (by first | exact HE.out | exact HRK.out | exact HF.out | exact Fr.zero_ok) [] HA.out ?_; intro w_ hA hK; (try simp only [List.cons_append, List.nil_append] at hA); replace HA := Aside0.mk hA; have hT := HT.out.then_ hK (fun k hk => .inl (by rw [hk]; exact HL.out.2)); clear hK HT; have HT := Aside0.mk hT; clear hT hA) | (refine fr_storeK rfl rfl rfl rfl (by first | exact HE.out | exact HRK.out | exact HF.out | exact Fr.zero_ok) [_] HA.out ?_; intro w_ hA hK; (try simp only [List.cons_append, List.nil_append] at hA); replace HA := Aside0.mk hA; have hT := HT.out.then_ hK (fun k hk => .inl (by rw [hk]; exact HL.out.1)); clear hK HT; have HT := Aside0.mk hT; clear hT hA) | (refine fr_neq_self rfl rfl rfl rfl (by first | exact HE.out | exact HRK.out | exact HF.out | exact Fr.zero_ok) ?_) | (refine fr_eql_self rfl rfl rfl rfl (by first | exact HE.out | exact HRK.out | exact HF.out | exact Fr.zero_ok) ?_) | (refine fr_guard rfl (by rfl) ?_; dsimp only) | (refine fr_load rfl rfl rfl HA.out (by first | exact List.mem_cons_self | exact List.mem_cons_of_mem _ List.mem_cons_self | exact List.mem_cons_of_mem _ (List.mem_cons_of_mem _ List.mem_cons_self) | exact List.mem_cons_of_mem _ (List.mem_cons_of_mem _ (List.mem_cons_of_mem _ List.mem_cons_self))) ?_) | (refine fr_load0 rfl rfl rfl HA.out (by first | exact List.mem_cons_self | exact List.mem_cons_of_mem _ List.mem_cons_self | exact List.mem_cons_of_mem _ (List.mem_cons_of_mem _ List.mem_cons_self) | exact List.mem_cons_of_mem _ (List.mem_cons_of_mem _ (List.mem_cons_of_mem _ List.mem_cons_self))) ?_) | (refine fr_load1 rfl rfl rfl HA.out (by first | exact List.mem_cons_self | exact List.mem_cons_of_mem _ List.mem_cons_self | exact List.mem_cons_of_mem _ (List.mem_cons_of_mem _ List.mem_cons_self) | exact List.mem_cons_of_mem _ (List.mem_cons_of_mem _ (List.mem_cons_of_mem _ List.mem_cons_self))) ?_) | (refine fr_store rfl rfl rfl rfl (by first | exact HE.out | exact HRK.out | exact HF.out | exact Fr.zero_ok) [] HA.out ?_; intro w_ hA; (try simp only [List.cons_append, List.nil_append] at hA); replace HA := Aside0.mk hA; clear hA) | (refine fr_store rfl rfl rfl rfl (by first | exact HE.out | exact HRK.out | exact HF.out | exact Fr.zero_ok) [_] HA.out ?_; intro w_ hA; (try simp only [List.cons_append, List.nil_append] at hA); replace HA := Aside0.mk hA; clear hA) | (refine fr_store rfl rfl rfl rfl (by first | exact HE.out | exact HRK.out | exact HF.out | exact Fr.zero_ok) [_, _] HA.out ?_; intro w_ hA; (try simp only [List.cons_append, List.nil_append] at hA); replace HA := Aside0.mk hA; clear hA) | (refine fr_store rfl rfl rfl rfl (by first | exact HE.out | exact HRK.out | exact HF.out | exact Fr.zero_ok) [_, _, _] HA.out ?_; intro w_ hA; (try simp only [List.cons_append, List.nil_append] at hA); replace HA := Aside0.mk hA; clear hA) | (refine fr_box rfl rfl rfl (by first | exact HE.out | exact HRK.out | exact HF.out | exact Fr.zero_ok) HA.out ?_; intro gp w_ hA; (try simp only [List.cons_append, List.nil_append] at hA); replace HA := Aside0.mk hA; clear hA) | (refine fr_alloc rfl rfl HA.out ?_; intro gr w_ hA; (try simp only [List.cons_append, List.nil_append] at hA); replace HA := Aside0.mk hA; clear hA) | (refine fr_build0 rfl rfl ?_) | (refine fr_build1 rfl rfl rfl ?_) | (refine fr_build2 rfl rfl rfl rfl ?_) | (refine fr_slot rfl rfl rfl rfl [] HA.out HQ.out ?_; intro w_ hA; (try simp only [List.cons_append, List.nil_append] at hA); replace HA := Aside0.mk hA; clear hA) | (refine fr_slot rfl rfl rfl rfl [_] HA.out HQ.out ?_; intro w_ hA; (try simp only [List.cons_append, List.nil_append] at hA); replace HA := Aside0.mk hA; clear hA) | (refine fr_slot rfl rfl rfl rfl [_, _] HA.out HQ.out ?_; intro w_ hA; (try simp only [List.cons_append, List.nil_append] at hA); replace HA := Aside0.mk hA; clear hA) | (refine fr_high rfl rfl rfl rfl [] HA.out ?_; intro w_ hA; (try simp only [List.cons_append, List.nil_append] at hA); replace HA := Aside0.mk hA; clear hA) | (refine fr_high rfl rfl rfl rfl [_] HA.out ?_; intro w_ hA; (try simp only [List.cons_append, List.nil_append] at hA); replace HA := Aside0.mk hA; clear hA) | (refine fr_high rfl rfl rfl rfl [_, _] HA.out ?_; intro w_ hA; (try simp only [List.cons_append, List.nil_append] at hA); replace HA := Aside0.mk hA; clear hA) | (refine fr_loads rfl rfl rfl HA.out (by first | exact List.mem_cons_self | exact List.mem_cons_of_mem _ List.mem_cons_self | exact List.mem_cons_of_mem _ (List.mem_cons_of_mem _ List.mem_cons_self) | exact List.mem_cons_of_mem _ (List.mem_cons_of_mem _ (List.mem_cons_of_mem _ List.mem_cons_self))) HQ.out ?_))
    refine (refStart_calls A0 c0 l0 A1 c1 l1 a2 r1 _ (Kd.C_below HR0.out HA.out.below) HC0.out (Kd.C_below HR1.out HA.out.below) HC1.out HJ.out).mono ?_
    rintro e w_ ⟨rfl, hb⟩
    replace HA := Aside0.mk (HA.out.step hb)
    have hT := HT.out.below hb
    clear HT
    have HT := Aside0.mk hT
    clear hb hT
    go_wp2_with (first | (refine fr_storeK rfl rfl rfl rfl (by first | exact HE.out | exact HRK.out | exact HF.out | exact Fr.zero_ok) [] HA.out ?_; intro w_ hA hK; (try simp only [List.cons_append, List.nil_append] at hA); replace HA := Aside0.mk hA; have hT := HT.out.then_ hK (fun k hk => .inl (by rw [hk]; exact HL.out.2)); clear hK HT; have HT := Aside0.mk hT; clear hT hA) | (refine fr_storeK rfl rfl rfl rfl (by first | exact HE.out | exact HRK.out | exact HF.out | exact Fr.zero_ok) [_] HA.out ?_; intro w_ hA hK; (try simp only [List.cons_append, List.nil_append] at hA); replace HA := Aside0.mk hA; have hT := HT.out.then_ hK (fun k hk => .inl (by rw [hk]; exact HL.out.1)); clear hK HT; have HT := Aside0.mk hT; clear hT hA) | (refine fr_neq_self rfl rfl rfl rfl (by first | exact HE.out | exact HRK.out | exact HF.out | exact Fr.zero_ok) ?_) | (refine fr_eql_self rfl rfl rfl rfl (by first | exact HE.out | exact HRK.out | exact HF.out | exact Fr.zero_ok) ?_) | (refine fr_guard rfl (by rfl) ?_; dsimp only) | (refine fr_load rfl rfl rfl HA.out (by first | exact List.mem_cons_self | exact List.mem_cons_of_mem _ List.mem_cons_self | exact List.mem_cons_of_mem _ (List.mem_cons_of_mem _ List.mem_cons_self) | exact List.mem_cons_of_mem _ (List.mem_cons_of_mem _ (List.mem_cons_of_mem _ List.mem_cons_self))) ?_) | (refine fr_load0 rfl rfl rfl HA.out (by first | exact List.mem_cons_self | exact List.mem_cons_of_mem _ List.mem_cons_self | exact List.mem_cons_of_mem _ (List.mem_cons_of_mem _ List.mem_cons_self) | exact List.mem_cons_of_mem _ (List.mem_cons_of_mem _ (List.mem_cons_of_mem _ List.mem_cons_self))) ?_) | (refine fr_load1 rfl rfl rfl HA.out (by first | exact List.mem_cons_self | exact List.mem_cons_of_mem _ List.mem_cons_self | exact List.mem_cons_of_mem _ (List.mem_cons_of_mem _ List.mem_cons_self) | exact List.mem_cons_of_mem _ (List.mem_cons_of_mem _ (List.mem_cons_of_mem _ List.mem_cons_self))) ?_) | (refine fr_store rfl rfl rfl rfl (by first | exact HE.out | exact HRK.out | exact HF.out | exact Fr.zero_ok) [] HA.out ?_; intro w_ hA; (try simp only [List.cons_append, List.nil_append] at hA); replace HA := Aside0.mk hA; clear hA) | (refine fr_store rfl rfl rfl rfl (by first | exact HE.out | exact HRK.out | exact HF.out | exact Fr.zero_ok) [_] HA.out ?_; intro w_ hA; (try simp only [List.cons_append, List.nil_append] at hA); replace HA := Aside0.mk hA; clear hA) | (refine fr_store rfl rfl rfl rfl (by first | exact HE.out | exact HRK.out | exact HF.out | exact Fr.zero_ok) [_, _] HA.out ?_; intro w_ hA; (try simp only [List.cons_append, List.nil_append] at hA); replace HA := Aside0.mk hA; clear hA) | (refine fr_store rfl rfl rfl rfl (by first | exact HE.out | exact HRK.out | exact HF.out | exact Fr.zero_ok) [_, _, _] HA.out ?_; intro w_ hA; (try simp only [List.cons_append, List.nil_append] at hA); replace HA := Aside0.mk hA; clear hA) | (refine fr_box rfl rfl rfl (by first | exact HE.out | exact HRK.out | exact HF.out | exact Fr.zero_ok) HA.out ?_; intro gp w_ hA; (try simp only [List.cons_append, List.nil_append] at hA); replace HA := Aside0.mk hA; clear hA) | (refine fr_alloc rfl rfl HA.out ?_; intro gr w_ hA; (try simp only [List.cons_append, List.nil_append] at hA); replace HA := Aside0.mk hA; clear hA) | (refine fr_build0 rfl rfl ?_) | (refine fr_build1 rfl rfl rfl ?_) | (refine fr_build2 rfl rfl rfl rfl ?_) | (refine fr_slot rfl rfl rfl rfl [] HA.out HQ.out ?_; intro w_ hA; (try simp only [List.cons_append, List.nil_append] at hA); replace HA := Aside0.mk hA; clear hA) | (refine fr_slot rfl rfl rfl rfl [_] HA.out HQ.out ?_; intro w_ hA; (try simp only [List.cons_append, List.nil_append] at hA); replace HA := Aside0.mk hA; clear hA) | (refine fr_slot rfl rfl rfl rfl [_, _] HA.out HQ.out ?_; intro w_ hA; (try simp only [List.cons_append, List.nil_append] at hA); replace HA := Aside0.mk hA; clear hA) | (refine fr_high rfl rfl rfl rfl [] HA.out ?_; intro w_ hA; (try simp only [List.cons_append, List.nil_append] at hA); replace HA := Aside0.mk hA; clear hA) | (refine fr_high rfl rfl rfl rfl [_] HA.out ?_; intro w_ hA; (try simp only [List.cons_append, List.nil_append] at hA); replace HA := Aside0.mk hA; clear hA) | (refine fr_high rfl rfl rfl rfl [_, _] HA.out ?_; intro w_ hA; (try simp only [List.cons_append, List.nil_append] at hA); replace HA := Aside0.mk hA; clear hA) | (refine fr_loads rfl rfl rfl HA.out (by first | exact List.mem_cons_self | exact List.mem_cons_of_mem _ List.mem_cons_self | exact List.mem_cons_of_mem _ (List.mem_cons_of_mem _ List.mem_cons_self) | exact List.mem_cons_of_mem _ (List.mem_cons_of_mem _ (List.mem_cons_of_mem _ List.mem_cons_self))) HQ.out ?_))
    refine (provisoplain_SameClasses.calls k A2 c2 l2 A0 c0 l0 true _ (HG.out _ (HT5.out.then_ HT.out (fun k hk => .inl hk))) HC2.out (Kd.C_below HR0.out HA.out.below) HC0.out HSB.out).mono ?_
    rintro e w_ ⟨rfl, hb⟩
    replace HA := Aside0.mk (HA.out.step hb)
    have hT := HT.out.below hb
    clear HT
    have HT := Aside0.mk hT
    clear hb hT
    go_wp2_with (first | (refine fr_neq_self rfl rfl rfl rfl (by first | exact HE.out | exact HRK.out | exact HF.out | exact Fr.zero_ok) ?_) | (refine fr_eql_self rfl rfl rfl rfl (by first | exact HE.out | exact HRK.out | exact HF.out | exact Fr.zero_ok) ?_) | (refine fr_guard rfl (by rfl) ?_; dsimp only) | (refine fr_load rfl rfl rfl HA.out (by first | exact List.mem_cons_self | exact List.mem_cons_of_mem _ List.mem_cons_self | exact List.mem_cons_of_mem _ (List.mem_cons_of_mem _ List.mem_cons_self) | exact List.mem_cons_of_mem _ (List.mem_cons_of_mem _ (List.mem_cons_of_mem _ List.mem_cons_self))) ?_) | (refine fr_load0 rfl rfl rfl HA.out (by first | exact List.mem_cons_self | exact List.mem_cons_of_mem _ List.mem_cons_self | exact List.mem_cons_of_mem _ (List.mem_cons_of_mem _ List.mem_cons_self) | exact List.mem_cons_of_mem _ (List.mem_cons_of_mem _ (List.mem_cons_of_mem _ List.mem_cons_self))) ?_) | (refine fr_load1 rfl rfl rfl HA.out (by first | exact List.mem_cons_self | exact List.mem_cons_of_mem _ List.mem_cons_self | exact List.mem_cons_of_mem _ (List.mem_cons_of_mem _ List.mem_cons_self) | exact List.mem_cons_of_mem _ (List.mem_cons_of_mem _ (List.mem_cons_of_mem _ List.mem_cons_self))) ?_) | (refine fr_store rfl rfl rfl rfl (by first | exact HE.out | exact HRK.out | exact HF.out | exact Fr.zero_ok) [] HA.out ?_; intro w_ hA; (try simp only [List.cons_append, List.nil_append] at hA); replace HA := Aside0.mk hA; clear hA) | (refine fr_store rfl rfl rfl rfl (by first | exact HE.out | exact HRK.out | exact HF.out | exact Fr.zero_ok) [_] HA.out ?_; intro w_ hA; (try simp only [List.cons_append, List.nil_append] at hA); replace HA := Aside0.mk hA; clear hA) | (refine fr_store rfl rfl rfl rfl (by first | exact HE.out | exact HRK.out | exact HF.out | exact Fr.zero_ok) [_, _] HA.out ?_; intro w_ hA; (try simp only [List.cons_append, List.nil_append] at hA); replace HA := Aside0.mk hA; clear hA) | (refine fr_store rfl rfl rfl rfl (by first | exact HE.out | exact HRK.out | exact HF.out | exact Fr.zero_ok) [_, _, _] HA.out ?_; intro w_ hA; (try simp only [List.cons_append, List.nil_append] at hA); replace HA := Aside0.mk hA; clear hA) | (refine fr_box rfl rfl rfl (by first | exact HE.out | exact HRK.out | exact HF.out | exact Fr.zero_ok) HA.out ?_; intro gp w_ hA; (try simp only [List.cons_append, List.nil_append] at hA); replace HA := Aside0.mk hA; clear hA) | (refine fr_alloc rfl rfl HA.out ?_; intro gr w_ hA; (try simp only [List.cons_append, List.nil_append] at hA); replace HA := Aside0.mk hA; clear hA) | (refine fr_build0 rfl rfl ?_) | (refine fr_build1 rfl rfl rfl ?_) | (refine fr_build2 rfl rfl rfl rfl ?_) | (refine fr_slot rfl rfl rfl rfl [] HA.out HQ.out ?_; intro w_ hA; (try simp only [List.cons_append, List.nil_append] at hA); replace HA := Aside0.mk hA; clear hA) | (refine fr_slot rfl rfl rfl rfl [_] HA.out HQ.out ?_; intro w_ hA; (try simp only [List.cons_append, List.nil_append] at hA); replace HA := Aside0.mk hA; clear hA) | (refine fr_slot rfl rfl rfl rfl [_, _] HA.out HQ.out ?_; intro w_ hA; (try simp only [List.cons_append, List.nil_append] at hA); replace HA := Aside0.mk hA; clear hA) | (refine fr_high rfl rfl rfl rfl [] HA.out ?_; intro w_ hA; (try simp only [List.cons_append, List.nil_append] at hA); replace HA := Aside0.mk hA; clear hA) | (refine fr_high rfl rfl rfl rfl [_] HA.out ?_; intro w_ hA; (try simp only [List.cons_append, List.nil_append] at hA); replace HA := Aside0.mk hA; clear hA) | (refine fr_high rfl rfl rfl rfl [_, _] HA.out ?_; intro w_ hA; (try simp only [List.cons_append, List.nil_append] at hA); replace HA := Aside0.mk hA; clear hA) | (refine fr_loads rfl rfl rfl HA.out (by first | exact List.mem_cons_self | exact List.mem_cons_of_mem _ List.mem_cons_self | exact List.mem_cons_of_mem _ (List.mem_cons_of_mem _ List.mem_cons_self) | exact List.mem_cons_of_mem _ (List.mem_cons_of_mem _ (List.mem_cons_of_mem _ List.mem_cons_self))) HQ.out ?_))
    refine (api_Type_19.calls k A3 c3 p A1 c1 l1 true _ (HPG.out _ HT.out) HC3.out (Kd.C_below HR1.out HA.out.below) HC1.out HEB.out).mono ?_
    rintro e w_ ⟨rfl, m, rfl⟩
    replace HA := Aside0.mk (HA.out.drewN m)
    go_wp2_with (first | (refine fr_neq_self rfl rfl rfl rfl (by first | exact HE.out | exact HRK.out | exact HF.out | exact Fr.zero_ok) ?_) | (refine fr_eql_self rfl rfl rfl rfl (by first | exact HE.out | exact HRK.out | exact HF.out | exact Fr.zero_ok) ?_) | (refine fr_guard rfl (by rfl) ?_; dsimp only) | (refine fr_load rfl rfl rfl HA.out (by first | exact List.mem_cons_self | exact List.mem_cons_of_mem _ List.mem_cons_self | exact List.mem_cons_of_mem _ (List.mem_cons_of_mem _ List.mem_cons_self) | exact List.mem_cons_of_mem _ (List.mem_cons_of_mem _ (List.mem_cons_of_mem _ List.mem_cons_self))) ?_) | (refine fr_load0 rfl rfl rfl HA.out (by first | exact List.mem_cons_self | exact List.mem_cons_of_mem _ List.mem_cons_self | exact List.mem_cons_of_mem _ (List.mem_cons_of_mem _ List.mem_cons_self) | exact List.mem_cons_of_mem _ (List.mem_cons_of_mem _ (List.mem_cons_of_mem _ List.mem_cons_self))) ?_) | (refine fr_load1 rfl rfl rfl HA.out (by first | exact List.mem_cons_self | exact List.mem_cons_of_mem _ List.mem_cons_self | exact List.mem_cons_of_mem _ (List.mem_cons_of_mem _ List.mem_cons_self) | exact List.mem_cons_of_mem _ (List.mem_cons_of_mem _ (List.mem_cons_of_mem _ List.mem_cons_self))) ?_) | (refine fr_store rfl rfl rfl rfl (by first | exact HE.out | exact HRK.out | exact HF.out | exact Fr.zero_ok) [] HA.out ?_; intro w_ hA; (try simp only [List.cons_append, List.nil_append] at hA); replace HA := Aside0.mk hA; clear hA) | (refine fr_store rfl rfl rfl rfl (by first | exact HE.out | exact HRK.out | exact HF.out | exact Fr.zero_ok) [_] HA.out ?_; intro w_ hA; (try simp only [List.cons_append, List.nil_append] at hA); replace HA := Aside0.mk hA; clear hA) | (refine fr_store rfl rfl rfl rfl (by first | exact HE.out | exact HRK.out | exact HF.out | exact Fr.zero_ok) [_, _] HA.out ?_; intro w_ hA; (try simp only [List.cons_append, List.nil_append] at hA); replace HA := Aside0.mk hA; clear hA) | (refine fr_store rfl rfl rfl rfl (by first | exact HE.out | exact HRK.out | exact HF.out | exact Fr.zero_ok) [_, _, _] HA.out ?_; intro w_ hA; (try simp only [List.cons_append, List.nil_append] at hA); replace HA := Aside0.mk hA; clear hA) | (refine fr_box rfl rfl rfl (by first | exact HE.out | exact HRK.out | exact HF.out | exact Fr.zero_ok) HA.out ?_; intro gp w_ hA; (try simp only [List.cons_append, List.nil_append] at hA); replace HA := Aside0.mk hA; clear hA) | (refine fr_alloc rfl rfl HA.out ?_; intro gr w_ hA; (try simp only [List.cons_append, List.nil_append] at hA); replace HA := Aside0.mk hA; clear hA) | (refine fr_build0 rfl rfl ?_) | (refine fr_build1 rfl rfl rfl ?_) | (refine fr_build2 rfl rfl rfl rfl ?_) | (refine fr_slot rfl rfl rfl rfl [] HA.out HQ.out ?_; intro w_ hA; (try simp only [List.cons_append, List.nil_append] at hA); replace HA := Aside0.mk hA; clear hA) | (refine fr_slot rfl rfl rfl rfl [_] HA.out HQ.out ?_; intro w_ hA; (try simp only [List.cons_append, List.nil_append] at hA); replace HA := Aside0.mk hA; clear hA) | (refine fr_slot rfl rfl rfl rfl [_, _] HA.out HQ.out ?_; intro w_ hA; (try simp only [List.cons_append, List.nil_append] at hA); replace HA := Aside0.mk hA; clear hA) | (refine fr_high rfl rfl rfl rfl [] HA.out ?_; intro w_ hA; (try simp only [List.cons_append, List.nil_append] at hA); replace HA := Aside0.mk hA; clear hA) | (refine fr_high rfl rfl rfl rfl [_] HA.out ?_; intro w_ hA; (try simp only [List.cons_append, List.nil_append] at hA); replace HA := Aside0.mk hA; clear hA) | (refine fr_high rfl rfl rfl rfl [_, _] HA.out ?_; intro w_ hA; (try simp only [List.cons_append, List.nil_append] at hA); replace HA := Aside0.mk hA; clear hA) | (refine fr_loads rfl rfl rfl HA.out (by first | exact List.mem_cons_self | exact List.mem_cons_of_mem _ List.mem_cons_self | exact List.mem_cons_of_mem _ (List.mem_cons_of_mem _ List.mem_cons_self) | exact List.mem_cons_of_mem _ (List.mem_cons_of_mem _ (List.mem_cons_of_mem _ List.mem_cons_self))) HQ.out ?_))
    go_ret
    exact ⟨rfl, HA.out.below⟩















end Go.Proofs.Ytgjnmpgmbhbbhaa.P

end

section
namespace Go.Proofs.Ytgjnmpgmbhbbhaa.P
open Go.RowKit Go.Proofs.YtgjnmpgmbhbbhaaW.PrintWords
def provisolaw03_FramesStarts.Pure : Prop := ∀ (l0 : List (S59)) (l1 : List (Int)) (a2 : Int), (fun l : List (S59) => l.length ≤ 9223372036854775807 ∧ l.length * 48 ≤ 140737488351232 ∧ ∀ x ∈ l, Ok59 x) l0 → (fun l : List (Int) => l.length ≤ 9223372036854775807 ∧ l.length * 1 ≤ 140737488351232 ∧ ∀ x ∈ l, (fun n : Int => (Lit.int .u8 n).wf = true) x) l1 → (fun n : Int => (Lit.int .i64 n).wf = true) a2 → ∃ k, provisolaw03_FramesStarts.f k l0 l1 a2 = some true
end Go.Proofs.Ytgjnmpgmbhbbhaa.P

end

section
namespace Go.Proofs.Ytgjnmpgmbhbbhaa.P
open Go.RowKit Go.Proofs.YtgjnmpgmbhbbhaaW.PrintWords Go.Proofs.YtgjnmpgmbhbbhaaW.PrintLast Go.Proofs.YtgjnmpgmbhbbhaaW.PrintMore
attribute [local go_sem] max2_int min2_int max_two min_two max_three min_three max_four min_four   -- for this text's walks alone
set_option linter.unusedVariables false
set_option linter.unusedSimpArgs false

def climbF (l : List S59) : Nat → Int → List Int
  | 0, _ => []
  | f + 1, c => if 0 ≤ c ∧ c < (l.length : Int) then c :: (if (rd_T59 l c).f1 ≥ c then [] else climbF l f (rd_T59 l c).f1) else []
def climbL (l : List S59) (c : Int) : List Int := climbF l (c.toNat + 1) c
theorem climbF_le (l : List S59) : ∀ (f g : Nat) (c : Int), c.toNat < f → f ≤ g → climbF l g c = climbF l f c
  | 0, _, _, h, _ => by omega
  | f + 1, 0, _, _, h => by omega
  | f + 1, g + 1, c, h, hg => by
    simp only [climbF]
    split
    · split
      · rfl
      · rename_i h1 h2
        by_cases h3 : 0 ≤ (rd_T59 l c).f1
        · rw [climbF_le l f g _ (by omega) (by omega)]
        · have e : ∀ k, climbF l k (rd_T59 l c).f1 = [] := by
            intro k
            cases k with
            | zero => rfl
            | succ k => simp only [climbF]; rw [if_neg (by omega)]
          rw [e, e]
    · rfl
theorem climbL_in (l : List S59) (c : Int) (h0 : 0 ≤ c) (h1 : c < (l.length : Int)) (h2 : (rd_T59 l c).f1 < c) : climbL l c = c :: climbL l (rd_T59 l c).f1 := by
  unfold climbL
  rw [climbF, if_pos ⟨h0, h1⟩, if_neg (by omega)]
  by_cases h3 : 0 ≤ (rd_T59 l c).f1
  · rw [climbF_le l _ c.toNat _ (Nat.lt_succ_self _) (by omega)]
  · have e : ∀ k, climbF l k (rd_T59 l c).f1 = [] := by
      intro k
      cases k with
      | zero => rfl
      | succ k => simp only [climbF]; rw [if_neg (by omega)]
    rw [e, e]
theorem climbL_out (l : List S59) (c : Int) (h : ¬ (0 ≤ c ∧ c < (l.length : Int))) : climbL l c = [] := by
  unfold climbL
  rw [climbF, if_neg h]

theorem climbF_length (l : List S59) : ∀ (f : Nat) (c : Int), (climbF l f c).length ≤ f
  | 0, _ => Nat.le_refl _
  | f + 1, c => by
    simp only [climbF]
    split
    · split
      · simp
      · simpa using climbF_length l f _
    · simp
theorem climbL_length (l : List S59) (c : Int) : (climbL l c).length ≤ l.length := by
  by_cases h : 0 ≤ c ∧ c < (l.length : Int)
  · exact Nat.le_trans (climbF_length l _ c) (by omega)
  · rw [climbL_out l c h]; simp
theorem climbL_mem (l : List S59) (c : Int) : ∀ x ∈ climbL l c, 0 ≤ x ∧ x < (l.length : Int) := by
  have h : ∀ (f : Nat) (c : Int), ∀ x ∈ climbF l f c, 0 ≤ x ∧ x < (l.length : Int) := by
    intro f
    induction f with
    | zero => intro c x hx; cases hx
    | succ f ih =>
      intro c x hx
      simp only [climbF] at hx
      split at hx
      · rename_i h1
        rcases List.mem_cons.1 hx with rfl | h2
        · exact h1
        · split at h2
          · cases h2
          · exact ih _ x h2
      · cases hx
  exact h _ c

end Go.Proofs.Ytgjnmpgmbhbbhaa.P

end

section
namespace Go.Proofs.Ytgjnmpgmbhbbhaa.P
open Go.RowKit Go.Proofs.YtgjnmpgmbhbbhaaW.PrintWords Go.Proofs.YtgjnmpgmbhbbhaaW.PrintLast Go.Proofs.YtgjnmpgmbhbbhaaW.PrintMore
set_option linter.unusedVariables false
set_option linter.unusedSimpArgs false

theorem w_next {i : Int} {n : Nat} (h0 : 0 ≤ i) (h : i < (n : Int)) (hn : n ≤ 9223372036854775807) : wrap64 (i + 1) = i + 1 := by
  unfold wrap64
  omega

def sign (i c : Int) : Bool :=
  (decide (97 ≤ c) && decide (c ≤ 122)) || (decide (65 ≤ c) && decide (c ≤ 90)) || (decide (0 < i) && ((decide (48 ≤ c) && decide (c ≤ 57)) || decide (c = 95)))
def tailOk (s : ByteArray) : Nat → Bool
  | 0 => true
  | d + 1 => sign ((s.size : Int) - (d + 1)) (bt s ((s.size : Int) - (d + 1))) && tailOk s d
def nameOk (s : ByteArray) : Bool := decide (1 ≤ s.size) && decide (s.size ≤ 24) && tailOk s s.size
theorem ref_name_tail (s : ByteArray) (hn : s.size ≤ 140737488351232) (d : Nat) : ∀ (i : Int), 0 ≤ i → i ≤ s.size → (s.size : Int) - i = d → Ev (fun k => provisoref02_IsName.l0 k s i) (tailOk s d) := by
  induction d with
  | zero =>
    intro i h0 h1 hd
    exact Ev.step (f := fun _ => some true) (fun k => by simp only [provisoref02_IsName.l0]; rw [if_neg (by omega)]) (Ev.now _)
  | succ d ih =>
    intro i h0 h1 hd
    have hlt : i < (s.size : Int) := by omega
    have hi : (s.size : Int) - (d + 1) = i := by omega
    have h := ih (i + 1) (by omega) (by omega) (by omega)
    cases hs : sign i (bt s i) with
    | true =>
      refine Ev.step (fun k => ?_) (show Ev _ (tailOk s (d + 1)) from by simp only [tailOk, hi, hs, Bool.true_and]; exact h)
      simp only [provisoref02_IsName.l0]
      rw [if_pos hlt, if_pos h0, w_next h0 hlt (by omega)]
      revert hs
      generalize bt s i = c
      intro hs
      by_cases a1 : 97 ≤ c <;> by_cases a2 : c ≤ 122 <;> by_cases a3 : 65 ≤ c <;> by_cases a4 : c ≤ 90 <;> by_cases a5 : i = 0 <;> by_cases a6 : c < 48 <;> by_cases a7 : 57 < c <;> by_cases a8 : c = 95 <;> (try omega) <;> (have a9 : 0 < i ∨ i = 0 := by omega) <;> simp [sign, a1, a2, a3, a4, a5, a6, a7, a8] at hs ⊢ <;> omega
    | false =>
      refine Ev.step (f := fun _ => some false) (fun k => ?_) (show Ev _ (tailOk s (d + 1)) from by simp only [tailOk, hi, hs, Bool.false_and]; exact Ev.now _)
      simp only [provisoref02_IsName.l0]
      rw [if_pos hlt, if_pos h0, w_next h0 hlt (by omega)]
      revert hs
      generalize bt s i = c
      intro hs
      by_cases a1 : 97 ≤ c <;> by_cases a2 : c ≤ 122 <;> by_cases a3 : 65 ≤ c <;> by_cases a4 : c ≤ 90 <;> by_cases a5 : i = 0 <;> by_cases a6 : c < 48 <;> by_cases a7 : 57 < c <;> by_cases a8 : c = 95 <;> (try omega) <;> (have a9 : 0 < i ∨ i = 0 := by omega) <;> simp [sign, a1, a2, a3, a4, a5, a6, a7, a8] at hs ⊢ <;> omega
theorem ref_name (s : ByteArray) (hn : s.size ≤ 140737488351232) : Ev (fun k => provisoref02_IsName.f k s) (nameOk s) := by
  have h := ref_name_tail s hn s.size 0 (by omega) (by omega) (by omega)
  by_cases a1 : (s.size : Int) < 1
  · have e : nameOk s = false := by unfold nameOk; rw [decide_eq_false (by omega)]; simp
    rw [e]
    refine Ev.congr (f := fun k => provisoref02_IsName.j0 k s true) (fun k => by unfold provisoref02_IsName.f; rw [if_pos a1]) ?_
    exact Ev.step (f := fun _ => some false) (fun k => by simp only [provisoref02_IsName.j0]; rfl) (Ev.now _)
  · refine Ev.congr (f := fun k => provisoref02_IsName.j0 k s (decide ((s.size : Int) > 24))) (fun k => by unfold provisoref02_IsName.f; rw [if_neg a1]) ?_
    by_cases a2 : (s.size : Int) > 24
    · have e : nameOk s = false := by unfold nameOk; rw [decide_eq_false (p := s.size ≤ 24) (by omega)]; simp
      rw [e]
      exact Ev.step (f := fun _ => some false) (fun k => by simp only [provisoref02_IsName.j0]; simp [a2]) (Ev.now _)
    · have e : nameOk s = tailOk s s.size := by unfold nameOk; rw [decide_eq_true (p := s.size ≤ 24) (by omega), decide_eq_true (p := 1 ≤ s.size) (by omega)]; simp
      rw [e]
      exact Ev.step (fun k => by simp only [provisoref02_IsName.j0]; simp [a2]) h

theorem str_eq (a b : ByteArray) : a.toList = b.toList ↔ a = b :=
  ⟨fun h => by rw [ByteArray.toList_eq, ByteArray.toList_eq] at h; exact Go.WideShapes.bytes_inj h, fun h => by rw [h]⟩
def words6 : List ByteArray := [⟨#[116, 111, 112]⟩, ⟨#[105, 110, 116]⟩, ⟨#[98, 111, 111, 108]⟩, ⟨#[110, 117, 108, 108]⟩, ⟨#[105, 110, 116, 115]⟩, ⟨#[97, 110, 121]⟩]
def isWordB (s : ByteArray) : Bool := words6.any fun t => decide (t = s)
theorem ref_word (s : ByteArray) : Ev (fun k => provisoref02_isWord.f k s) (isWordB s) := by
  have step : ∀ (x : Int) (t : ByteArray) (r : Bool), 0 ≤ x → x ≤ 5 → provisoref02_word.f x = some t → Ev (fun k => provisoref02_isWord.l0 k s (x + 1)) r → Ev (fun k => provisoref02_isWord.l0 k s x) (decide (t = s) || r) := by
    intro x t r h0 h5 ht h
    by_cases e : t = s
    · rw [decide_eq_true e, Bool.true_or]
      exact Ev.step (f := fun _ => some true) (fun k => by simp only [provisoref02_isWord.l0]; rw [if_pos (by omega), ht]; simp [e]) (Ev.now _)
    · rw [decide_eq_false e, Bool.false_or]
      refine Ev.step (fun k => ?_) h
      simp only [provisoref02_isWord.l0]
      rw [if_pos (by omega), ht]
      simp only [Option.bind_some, str_eq]
      rw [if_neg e, show (x + 1) % 256 = x + 1 from by omega]
  have h6 : Ev (fun k => provisoref02_isWord.l0 k s 6) false := Ev.step (f := fun _ => some false) (fun k => by simp only [provisoref02_isWord.l0]; rw [if_neg (by omega)]) (Ev.now _)
  have h := step 0 _ _ (by omega) (by omega) rfl (step 1 _ _ (by omega) (by omega) rfl (step 2 _ _ (by omega) (by omega) rfl (step 3 _ _ (by omega) (by omega) rfl (step 4 _ _ (by omega) (by omega) rfl (step 5 _ _ (by omega) (by omega) rfl h6)))))
  exact h

abbrev Tbl := List S59
def par (l : Tbl) (c : Int) : Int := (rd_T59 l c).f1
def nam (l : Tbl) (c : Int) : ByteArray := (rd_T59 l c).f0
def own (l : Tbl) (c : Int) : List S62 := (rd_T59 l c).f2
def Dec (l : Tbl) (n : Int) : Prop := ∀ i : Int, 0 ≤ i → i < n → par l i < i
def fieldsOf (l : Tbl) (c : Int) : List S62 := (climbL l c).reverse.flatMap fun i => own l i
theorem line_tells (l : Tbl) (n : Int) (hn : n ≤ l.length) (hl : l.length * 48 ≤ 140737488351232) (hd : Dec l n) : ∀ (d : Nat) (c : Int) (acc : List Int), c < n → (c + 1).toNat ≤ d → (acc.length : Int) + c < l.length → acc.length ≤ l.length →
    Ev (fun k => provisoref02_Line.l0 k l c acc) (acc ++ climbL l c)
  | 0, c, acc, _, h, _, _ => by
    rw [climbL_out l c (by omega), List.append_nil]
    exact Ev.step (f := fun _ => some acc) (fun k => by simp only [provisoref02_Line.l0]; rw [if_neg (by omega)]) (Ev.now _)
  | d + 1, c, acc, hc, hcd, ha, ha2 => by
    by_cases h0 : 0 ≤ c
    · have hp := hd c h0 hc
      have hcl : c < (l.length : Int) := by omega
      rw [climbL_in l c h0 hcl hp]
      have hx := line_tells l n hn hl hd d (par l c) (acc ++ [c]) (by omega) (by omega) (by simp; omega) (by simp; omega)
      rw [List.append_assoc] at hx
      refine Ev.step (fun k => ?_) hx
      simp only [provisoref02_Line.l0]
      rw [if_pos h0, if_pos hcl, if_pos (by omega), if_pos (by omega), if_pos h0]
      rfl
    · rw [climbL_out l c (by omega), List.append_nil]
      exact Ev.step (f := fun _ => some acc) (fun k => by simp only [provisoref02_Line.l0]; rw [if_neg (by omega)]) (Ev.now _)
theorem ref_line (l : Tbl) (n : Int) (hn : n ≤ l.length) (hl : l.length * 48 ≤ 140737488351232) (hd : Dec l n) (c : Int) (hc : c < n) : Ev (fun k => provisoref02_Line.f k l c) (climbL l c) := by
  by_cases h0 : l.length = 0
  · rw [climbL_out l c (by omega)]
    refine Ev.congr (f := fun k => provisoref02_Line.l0 k l c []) (fun k => rfl) ?_
    exact Ev.step (f := fun _ => some []) (fun k => by simp only [provisoref02_Line.l0]; rw [if_neg (by omega)]) (Ev.now _)
  · have := line_tells l n hn hl hd (c + 1).toNat c [] hc (Nat.le_refl _) (by simp; omega) (by simp)
    rw [List.nil_append] at this
    exact this
theorem fields_tells (l : Tbl) (line : List Int) (hm : ∀ x ∈ line, 0 ≤ x ∧ x < (l.length : Int)) (hl : l.length * 48 ≤ 140737488351232) (hll : line.length ≤ l.length) (hlim : (line.reverse.flatMap fun i => own l i).length < 5864062014805) : ∀ (d : Nat), d ≤ line.length →
    Ev (fun k => provisoref02_Fields.l0 k l line ((line.drop d).reverse.flatMap fun i => own l i) ((d : Int) - 1)) (line.reverse.flatMap fun i => own l i)
  | 0, _ => by
    rw [List.drop_zero]
    exact Ev.step (f := fun _ => some _) (fun k => by simp only [provisoref02_Fields.l0]; rw [if_neg (by omega)]) (Ev.now _)
  | d + 1, hd => by
    have ih := fields_tells l line hm hl hll hlim d (by omega)
    have hrd : rd line ((d : Nat) : Int) = line[d]'(by omega) := by simp [rd, List.getD_eq_getElem?_getD, show d < line.length by omega]
    have hmd := hm (line[d]'(by omega)) (List.getElem_mem _)
    have e1 : ((line.drop d).reverse.flatMap fun i => own l i) = ((line.drop (d + 1)).reverse.flatMap fun i => own l i) ++ own l (line[d]'(by omega)) := by
      rw [List.drop_eq_getElem_cons (by omega), List.reverse_cons, List.flatMap_append]
      simp
    have hle : ((line.drop d).reverse.flatMap fun i => own l i).length ≤ (line.reverse.flatMap fun i => own l i).length := by
      have : line = line.take d ++ line.drop d := by simp
      conv => rhs; rw [this, List.reverse_append, List.flatMap_append, List.length_append]
      omega
    rw [e1] at ih hle
    rw [List.length_append] at hle
    refine Ev.step (fun k => ?_) ih
    simp only [provisoref02_Fields.l0]
    rw [show ((d + 1 : Nat) : Int) - 1 = (d : Int) by omega, hrd, if_pos (by omega), if_pos (by omega), if_pos (by omega), if_pos hmd.1, if_pos hmd.2]
    rw [if_pos (by unfold own at hle hlim ⊢; omega), show wrap64 ((d : Int) - 1) = (d : Int) - 1 by unfold wrap64; omega]
    rfl
theorem ref_fields (l : Tbl) (n : Int) (hn : n ≤ l.length) (hl : l.length * 48 ≤ 140737488351232) (hd : Dec l n) (c : Int) (hc : c < n) (hlim : (fieldsOf l c).length < 5864062014805) : Ev (fun k => provisoref02_Fields.f k l c) (fieldsOf l c) := by
  have hll := climbL_length l c
  have h := fields_tells l (climbL l c) (climbL_mem l c) hl hll hlim (climbL l c).length (Nat.le_refl _)
  rw [List.drop_length, List.reverse_nil, List.flatMap_nil] at h
  refine Ev.congr (fun k => rfl) (Ev.bind (ref_line l n hn hl hd c hc) (f := fun k t => provisoref02_Fields.l0 k l t [] (wrap64 ((t.length : Int) - 1))) ?_)
  rw [show wrap64 (((climbL l c).length : Int) - 1) = ((climbL l c).length : Int) - 1 by unfold wrap64; omega]
  exact h

def hasB (fs : List S62) (s : ByteArray) : Bool := fs.any fun f => decide (f.f0 = s)
theorem has_tells (fs : List S62) (s : ByteArray) (hl : fs.length ≤ 9223372036854775807) : ∀ (d i : Nat), fs.length - i = d → i ≤ fs.length → Ev (fun k => provisoref02_has.l0 k fs s (i : Int)) (hasB (fs.drop i) s)
  | 0, i, hd, hi => by
    rw [List.drop_of_length_le (by omega)]
    exact Ev.step (f := fun _ => some false) (fun k => by simp only [provisoref02_has.l0]; rw [if_neg (by omega)]) (Ev.now _)
  | d + 1, i, hd, hi => by
    have ih := has_tells fs s hl d (i + 1) (by omega) (by omega)
    have hlt : i < fs.length := by omega
    have hrd : rd_T62 fs ((i : Nat) : Int) = fs[i] := by simp [rd_T62, List.getD_eq_getElem?_getD, hlt]
    rw [List.drop_eq_getElem_cons hlt]
    by_cases e : fs[i].f0 = s
    · have e2 : hasB (fs[i] :: fs.drop (i + 1)) s = true := by unfold hasB; rw [List.any_cons, decide_eq_true e, Bool.true_or]
      rw [e2]
      exact Ev.step (f := fun _ => some true) (fun k => by simp only [provisoref02_has.l0]; rw [if_pos (by omega), if_pos (by omega), hrd]; simp [e]) (Ev.now _)
    · have e2 : hasB (fs[i] :: fs.drop (i + 1)) s = hasB (fs.drop (i + 1)) s := by unfold hasB; rw [List.any_cons, decide_eq_false e, Bool.false_or]
      rw [e2]
      refine Ev.step (fun k => ?_) ih
      simp only [provisoref02_has.l0]
      rw [if_pos (by omega), if_pos (by omega), hrd, if_neg (by rw [str_eq]; exact e), w_next (n := fs.length) (by omega) (by omega) hl]
      rfl
theorem ref_has (fs : List S62) (s : ByteArray) (hl : fs.length ≤ 9223372036854775807) : Ev (fun k => provisoref02_has.f k fs s) (hasB fs s) := by
  have := has_tells fs s hl fs.length 0 (by omega) (by omega)
  rw [List.drop_zero] at this
  exact this
def validB (l : Tbl) (a : Int) : Bool := decide (a ≤ 5) || (decide (16 ≤ a) && decide (a - 16 < (l.length : Int)))
theorem ref_valid (l : Tbl) (a : Int) (ha : 0 ≤ a ∧ a ≤ 255) : provisoref02_Valid.f l a = some (validB l a) := by
  unfold provisoref02_Valid.f validB
  by_cases h1 : a ≤ 5
  · simp [h1]
  · by_cases h2 : a ≥ 16
    · rw [if_neg h1, if_pos h2, show (a - 16) % 256 = a - 16 by omega]
      simp [h1, h2]
    · rw [if_neg h1, if_neg h2]
      simp [h1, h2]
def storedB (l : Tbl) (a : Int) : Bool := validB l a && decide (a ≠ 0) && decide (a ≠ 3)
theorem ref_stored (l : Tbl) (a : Int) (ha : 0 ≤ a ∧ a ≤ 255) : provisoref02_Stored.f l a = some (storedB l a) := by
  unfold provisoref02_Stored.f storedB
  rw [ref_valid l a ha]
  simp only [Option.bind_some]
  cases validB l a <;> by_cases h0 : a = 0 <;> by_cases h3 : a = 3 <;> simp [h0, h3]
end Go.Proofs.Ytgjnmpgmbhbbhaa.P


end

section
namespace Go.Proofs.Ytgjnmpgmbhbbhaa.P
open Go.RowKit Go.Proofs.YtgjnmpgmbhbbhaaW.PrintWords Go.Proofs.YtgjnmpgmbhbbhaaW.PrintLast Go.Proofs.YtgjnmpgmbhbbhaaW.PrintMore
set_option linter.unusedVariables false
set_option linter.unusedSimpArgs false

def Sane (l : Tbl) : Prop := l.length ≤ 9223372036854775807 ∧ l.length * 48 ≤ 140737488351232 ∧ ∀ x ∈ l, Ok59 x
theorem rd_mem (l : Tbl) (c : Int) (h0 : 0 ≤ c) (h1 : c < (l.length : Int)) : rd_T59 l c ∈ l := by
  have h : c.toNat < l.length := by omega
  simp [rd_T59, List.getD_eq_getElem?_getD, h]
theorem Sane.size {l : Tbl} (h : Sane l) : l.length ≤ 2932031007320 := by have := h.2.1; omega
theorem Sane.nam {l : Tbl} (h : Sane l) {c : Int} (h0 : 0 ≤ c) (h1 : c < (l.length : Int)) : (nam l c).size ≤ 140737488351232 := (h.2.2 _ (rd_mem l c h0 h1)).1
theorem Sane.par {l : Tbl} (h : Sane l) {c : Int} (h0 : 0 ≤ c) (h1 : c < (l.length : Int)) : -9223372036854775808 ≤ par l c ∧ par l c ≤ 9223372036854775807 := by
  have := (h.2.2 _ (rd_mem l c h0 h1)).2.1
  simp [Lit.wf, IntKind.min, IntKind.max, IntKind.signed, IntKind.bits] at this
  exact this
theorem Sane.own {l : Tbl} (h : Sane l) {c : Int} (h0 : 0 ≤ c) (h1 : c < (l.length : Int)) : (own l c).length * 24 ≤ 140737488351232 ∧ ∀ x ∈ own l c, x.f0.size ≤ 140737488351232 ∧ (0 ≤ x.f1 ∧ x.f1 ≤ 255) := by
  obtain ⟨_, h2, h3⟩ := (h.2.2 _ (rd_mem l c h0 h1)).2.2
  refine ⟨h2, fun x hx => ⟨(h3 x hx).1, ?_⟩⟩
  have := (h3 x hx).2
  simp [Lit.wf, IntKind.min, IntKind.max, IntKind.signed, IntKind.bits] at this
  exact this

theorem nam_eq (l : Tbl) (i : Int) (s : ByteArray) : (rd_T59 l i).f0.toList = s.toList ↔ nam l i = s := str_eq _ _

def fieldFaultFrom (l : Tbl) (all fs : List S62) : Nat → Nat → Int
  | 0, _ => if (fs.length : Int) > 32 - (all.length : Int) then 4 else 0
  | d + 1, i => if nameOk (rd_T62 fs i).f0 = true then (if hasB all (rd_T62 fs i).f0 = true then 20 else if hasB (fs.take i) (rd_T62 fs i).f0 = true then 20 else if storedB l (rd_T62 fs i).f1 = true then fieldFaultFrom l all fs d (i + 1) else 22) else 6
def fieldFault (l : Tbl) (all fs : List S62) : Int := fieldFaultFrom l all fs fs.length 0
def aheadFrom (l : Tbl) (c : Int) : Nat → Bool
  | 0 => false
  | d + 1 => decide (nam l (c - (d + 1)) = nam l c) || aheadFrom l c d
def aheadB (l : Tbl) (c : Int) : Bool := aheadFrom l c c.toNat
def parFault (l : Tbl) (c : Int) : Int := if par l c < -1 then 21 else if par l c ≥ c then 21 else fieldFault l (fieldsOf l (par l c)) (own l c)
def faultB (l : Tbl) (c : Int) : Int :=
  if c ≥ 32 then 4 else if nameOk (nam l c) = true then (if isWordB (nam l c) = true then 6 else if aheadB l c = true then 20 else parFault l c) else 6

theorem fields_fault (l : Tbl) (all fs : List S62) (h1 : all.length ≤ 5864062014805) (h2 : fs.length * 24 ≤ 140737488351232) (h3 : ∀ x ∈ fs, x.f0.size ≤ 140737488351232 ∧ (0 ≤ x.f1 ∧ x.f1 ≤ 255)) (nm : ByteArray) (pr : Int) : ∀ (d i : Nat), fs.length - i = d → i ≤ fs.length →
    Ev (fun k => provisoref02_fault.l1 k l all (i : Int) nm pr fs) (fieldFaultFrom l all fs d i)
  | 0, i, hd, hi => by
    unfold fieldFaultFrom
    refine Ev.step (f := fun _ => some _) (fun k => ?_) (Ev.now _)
    simp only [provisoref02_fault.l1]
    rw [if_neg (by omega), show wrap64 (32 - (all.length : Int)) = 32 - (all.length : Int) by unfold wrap64; omega]
    split <;> rfl
  | d + 1, i, hd, hi => by
    have hlt : i < fs.length := by omega
    have hrd : rd_T62 fs ((i : Nat) : Int) = fs[i] := by simp [rd_T62, List.getD_eq_getElem?_getD, hlt]
    obtain ⟨hs, ht⟩ := h3 fs[i] (List.getElem_mem _)
    have ih := fields_fault l all fs h1 h2 h3 nm pr d (i + 1) (by omega) (by omega)
    unfold fieldFaultFrom
    rw [hrd]
    refine Ev.step (fun k => by simp only [provisoref02_fault.l1]; rw [if_pos (by omega), if_pos (by omega), hrd]) ?_
    refine Ev.bind (f := fun k t => if t = true then _ else _) (ref_name _ hs) ?_
    cases nameOk fs[i].f0 with
    | false => exact Ev.now _
    | true =>
      refine Ev.bind (f := fun k t => if t = true then _ else _) (ref_has all _ (by omega)) ?_
      cases hasB all fs[i].f0 with
      | true => exact Ev.now _
      | false =>
        refine Ev.congr (f := fun k => (provisoref02_has.f k (fs.take i) fs[i].f0).bind _) (fun k => by
          show (if (i : Int) ≤ (fs.length : Int) then _ else _) = _
          rw [if_pos (by omega), Int.toNat_natCast]) ?_
        refine Ev.bind (f := fun k t => if t = true then _ else _) (ref_has (fs.take i) _ (by simp; omega)) ?_
        cases hasB (fs.take i) fs[i].f0 with
        | true => exact Ev.now _
        | false =>
          refine Ev.congr (f := fun k => if storedB l fs[i].f1 = true then _ else _) (fun k => by
            show (provisoref02_Stored.f l fs[i].f1).bind _ = _
            rw [ref_stored l _ ht]
            rfl) ?_
          cases storedB l fs[i].f1 with
          | false => exact Ev.now _
          | true =>
            refine Ev.congr (fun k => ?_) ih
            show provisoref02_fault.l1 k l all (wrap64 ((i : Int) + 1)) nm pr fs = _
            rw [w_next (n := fs.length) (by omega) (by omega) (by omega)]
            rfl
theorem par_fault (l : Tbl) (hs : Sane l) (c : Int) (h0 : 0 ≤ c) (h1 : c < (l.length : Int)) (hd : Dec l c) (hlim : ∀ p : Int, -1 ≤ p → p < c → (fieldsOf l p).length ≤ 32) :
    Ev (fun k => provisoref02_fault.l0 k l c c (nam l c) (par l c) (own l c)) (parFault l c) := by
  unfold parFault
  have hj : Ev (fun k => provisoref02_fault.j2 k l true (nam l c) (par l c) (own l c)) 21 := Ev.step (f := fun _ => some 21) (fun k => by simp only [provisoref02_fault.j2]; rfl) (Ev.now _)
  by_cases p1 : par l c < -1
  · rw [if_pos p1]
    exact Ev.step (fun k => by simp only [provisoref02_fault.l0]; rw [if_neg (by omega), if_pos p1]) hj
  · rw [if_neg p1]
    by_cases p2 : par l c ≥ c
    · rw [if_pos p2]
      exact Ev.step (fun k => by simp only [provisoref02_fault.l0]; rw [if_neg (by omega), if_neg p1, decide_eq_true p2]) hj
    · rw [if_neg p2]
      refine Ev.step (f := fun k => provisoref02_fault.j2 k l false (nam l c) (par l c) (own l c)) (fun k => by simp only [provisoref02_fault.l0]; rw [if_neg (by omega), if_neg p1, decide_eq_false p2]) ?_
      have hlp := hlim (par l c) (by omega) (by omega)
      refine Ev.step (f := fun k => (provisoref02_Fields.f k l (par l c)).bind fun t => provisoref02_fault.l1 k l t 0 (nam l c) (par l c) (own l c)) (fun k => by simp only [provisoref02_fault.j2]; rfl) ?_
      refine Ev.bind (f := fun k t => provisoref02_fault.l1 k l t 0 (nam l c) (par l c) (own l c)) (ref_fields l c (by omega) hs.2.1 hd (par l c) (by omega) (by omega)) ?_
      exact fields_fault l _ (own l c) (by omega) (hs.own h0 h1).1 (hs.own h0 h1).2 _ _ _ 0 (by omega) (by omega)
theorem ahead_fault (l : Tbl) (hs : Sane l) (c : Int) (h0 : 0 ≤ c) (h1 : c < (l.length : Int)) (hd : Dec l c) (hlim : ∀ p : Int, -1 ≤ p → p < c → (fieldsOf l p).length ≤ 32) : ∀ (d : Nat), (d : Int) ≤ c →
    Ev (fun k => provisoref02_fault.l0 k l c (c - d) (nam l c) (par l c) (own l c)) (if aheadFrom l c d = true then 20 else parFault l c)
  | 0, _ => by
    have := par_fault l hs c h0 h1 hd hlim
    simpa [aheadFrom] using this
  | d + 1, hdc => by
    have ih := ahead_fault l hs c h0 h1 hd hlim d (by omega)
    have hsz := hs.size
    have e1 : c - ((d : Int) + 1) + 1 = c - d := by omega
    by_cases e : nam l (c - ((d : Int) + 1)) = nam l c
    · have e2 : aheadFrom l c (d + 1) = true := by unfold aheadFrom; rw [decide_eq_true e, Bool.true_or]
      rw [e2, if_pos rfl]
      refine Ev.step (f := fun _ => some 20) (fun k => ?_) (Ev.now _)
      show provisoref02_fault.l0 (k + 1) l c (c - ((d : Int) + 1)) (nam l c) (par l c) (own l c) = _
      simp only [provisoref02_fault.l0]
      rw [if_pos (by omega), if_pos (by omega), if_pos (by omega), if_pos ((nam_eq l _ _).mpr e)]
    · have e2 : aheadFrom l c (d + 1) = aheadFrom l c d := by conv => lhs; unfold aheadFrom
                                                              rw [decide_eq_false e, Bool.false_or]
      rw [e2]
      refine Ev.step (fun k => ?_) ih
      show provisoref02_fault.l0 (k + 1) l c (c - ((d : Int) + 1)) (nam l c) (par l c) (own l c) = _
      simp only [provisoref02_fault.l0]
      rw [if_pos (by omega), if_pos (by omega), if_pos (by omega), if_neg (fun h9 => e ((nam_eq l _ _).mp h9)), show wrap64 (c - ((d : Int) + 1) + 1) = c - d by rw [e1]; unfold wrap64; omega]
theorem ref_fault (l : Tbl) (hs : Sane l) (c : Int) (h0 : 0 ≤ c) (h1 : c < (l.length : Int)) (hd : Dec l c) (hlim : ∀ p : Int, -1 ≤ p → p < c → (fieldsOf l p).length ≤ 32) : Ev (fun k => provisoref02_fault.f k l c) (faultB l c) := by
  unfold faultB
  have ha := ahead_fault l hs c h0 h1 hd hlim c.toNat (by omega)
  rw [show c - (c.toNat : Int) = 0 by omega] at ha
  have hj : ∀ b : Bool, Ev (fun k => provisoref02_fault.j0 k l c b (nam l c) (par l c) (own l c)) (if b = true then 6 else if aheadB l c = true then 20 else parFault l c) := by
    intro b
    cases b with
    | true => exact Ev.step (f := fun _ => some 6) (fun k => by simp only [provisoref02_fault.j0]; rfl) (Ev.now _)
    | false => exact Ev.step (fun k => by simp only [provisoref02_fault.j0]; rfl) ha
  by_cases h32 : c ≥ 32
  · rw [if_pos h32]
    exact Ev.congr (f := fun _ => some 4) (fun k => by unfold provisoref02_fault.f; rw [if_pos h0, if_pos h1, if_pos h32]) (Ev.now _)
  · rw [if_neg h32]
    refine Ev.congr (fun k => by unfold provisoref02_fault.f; rw [if_pos h0, if_pos h1, if_neg h32]; rfl) (Ev.bind (f := fun k t => if t = true then ((provisoref02_isWord.f k (nam l c)).bind fun t119 => provisoref02_fault.j0 k l c t119 (nam l c) (par l c) (own l c)) else provisoref02_fault.j0 k l c true (nam l c) (par l c) (own l c)) (ref_name _ (hs.nam h0 h1)) ?_)
    have hjt := hj true
    cases nameOk (nam l c) with
    | false => exact hjt
    | true => exact Ev.bind (f := fun k t => provisoref02_fault.j0 k l c t (nam l c) (par l c) (own l c)) (ref_word _) (hj _)

def GoodTo (l : Tbl) (n : Int) : Prop := ∀ c : Int, 0 ≤ c → c < n → faultB l c = 0
theorem field_fault_long (l : Tbl) (all fs : List S62) : ∀ (d i : Nat), fieldFaultFrom l all fs d i = 0 → (fs.length : Int) ≤ 32 - all.length
  | 0, i, h => by
    unfold fieldFaultFrom at h
    split at h <;> omega
  | d + 1, i, h => by
    unfold fieldFaultFrom at h
    split at h
    · split at h
      · omega
      · split at h
        · omega
        · split at h
          · exact field_fault_long l all fs d (i + 1) h
          · omega
    · omega
theorem fault_zero {l : Tbl} {c : Int} (h : faultB l c = 0) : c < 32 ∧ nameOk (nam l c) = true ∧ isWordB (nam l c) = false ∧ aheadB l c = false ∧ -1 ≤ par l c ∧ par l c < c ∧ fieldFault l (fieldsOf l (par l c)) (own l c) = 0 := by
  unfold faultB parFault at h
  split at h
  · omega
  · split at h
    · split at h
      · omega
      · split at h
        · omega
        · split at h
          · omega
          · split at h
            · omega
            · rename_i h1 h2 h3 h4 h5 h6
              exact ⟨by omega, h2, by simpa using h3, by simpa using h4, by omega, by omega, h⟩
    · omega
theorem GoodTo.dec {l : Tbl} {n : Int} (h : GoodTo l n) : Dec l n := fun i h0 h1 => (fault_zero (h i h0 h1)).2.2.2.2.2.1
theorem fieldsOf_in (l : Tbl) (c : Int) (h0 : 0 ≤ c) (h1 : c < (l.length : Int)) (h2 : par l c < c) : fieldsOf l c = fieldsOf l (par l c) ++ own l c := by
  unfold fieldsOf
  rw [climbL_in l c h0 h1 h2, List.reverse_cons, List.flatMap_append]
  simp [par]
theorem fieldsOf_out (l : Tbl) (c : Int) (h : ¬ (0 ≤ c ∧ c < (l.length : Int))) : fieldsOf l c = [] := by
  unfold fieldsOf
  rw [climbL_out l c h]
  rfl
theorem GoodTo.fields {l : Tbl} {n : Int} (hn : n ≤ l.length) (h : GoodTo l n) (c : Int) (hc : c < n) : (fieldsOf l c).length ≤ 32 := by
  by_cases h0 : 0 ≤ c
  · obtain ⟨_, _, _, _, h5, h6, h7⟩ := fault_zero (h c h0 hc)
    have := field_fault_long l _ _ _ _ h7
    rw [fieldsOf_in l c h0 (by omega) h6, List.length_append]
    omega
  · rw [fieldsOf_out l c (by omega)]
    simp
def checkFrom (l : Tbl) : Nat → Int → Int × Int
  | 0, _ => (0, 0)
  | d + 1, c => if faultB l c = 0 then checkFrom l d (c + 1) else (c, faultB l c)
def checkB (l : Tbl) : Int × Int := checkFrom l l.length 0
theorem check_tells (l : Tbl) (hs : Sane l) : ∀ (d : Nat) (c : Int), 0 ≤ c → (l.length : Int) - c = d → GoodTo l c → Ev (fun k => provisoref02_Check.l0 k l c) (checkFrom l d c)
  | 0, c, h0, hd, hg => by
    unfold checkFrom
    exact Ev.step (f := fun _ => some _) (fun k => by simp only [provisoref02_Check.l0]; rw [if_neg (by omega)]) (Ev.now _)
  | d + 1, c, h0, hd, hg => by
    have hf := ref_fault l hs c h0 (by omega) hg.dec (fun p hp1 hp2 => hg.fields (by omega) p hp2)
    unfold checkFrom
    refine Ev.step (fun k => by simp only [provisoref02_Check.l0]; rw [if_pos (by omega)]) (Ev.bind (f := fun k t => if t = 0 then _ else _) hf ?_)
    by_cases e : faultB l c = 0
    · rw [if_pos e]
      have hsz := hs.size
      refine Ev.congr (fun k => ?_) (check_tells l hs d (c + 1) (by omega) (by omega) (fun i hi0 hi1 => if hi : i < c then hg i hi0 hi else by rw [show i = c by omega]; exact e))
      rw [if_pos e, show wrap64 (c + 1) = c + 1 by unfold wrap64; omega]
    · rw [if_neg e]
      exact Ev.congr (f := fun _ => some _) (fun k => by rw [if_neg e]) (Ev.now _)
theorem ref_check (l : Tbl) (hs : Sane l) : Ev (fun k => provisoref02_Check.f k l) (checkB l) :=
  check_tells l hs l.length 0 (by omega) (by omega) (fun i h0 h1 => by omega)
def Good (l : Tbl) : Prop := GoodTo l l.length
theorem Good.dec {l : Tbl} (h : Good l) : Dec l l.length := GoodTo.dec h
end Go.Proofs.Ytgjnmpgmbhbbhaa.P


end

section
namespace Go.Proofs.Ytgjnmpgmbhbbhaa.P
open Go.RowKit Go.Proofs.YtgjnmpgmbhbbhaaW.PrintWords Go.Proofs.YtgjnmpgmbhbbhaaW.PrintLast Go.Proofs.YtgjnmpgmbhbbhaaW.PrintMore
set_option linter.unusedVariables false
set_option linter.unusedSimpArgs false

theorem u8_of {a : Int} (h : (Lit.int .u8 a).wf = true) : 0 ≤ a ∧ a ≤ 255 := by
  simp [Lit.wf, IntKind.min, IntKind.max, IntKind.signed, IntKind.bits] at h
  exact h
theorem Good.nameOk {l : Tbl} (h : Good l) {c : Int} (h0 : 0 ≤ c) (h1 : c < (l.length : Int)) : nameOk (nam l c) = true ∧ isWordB (nam l c) = false :=
  ⟨(fault_zero (h c h0 h1)).2.1, (fault_zero (h c h0 h1)).2.2.1⟩
end Go.Proofs.Ytgjnmpgmbhbbhaa.P


end

section
namespace Go.Proofs.Ytgjnmpgmbhbbhaa.P
open Go.RowKit Go.Proofs.YtgjnmpgmbhbbhaaW.PrintWords Go.Proofs.YtgjnmpgmbhbbhaaW.PrintLast Go.Proofs.YtgjnmpgmbhbbhaaW.PrintMore
attribute [local go_sem] max2_int min2_int max_two min_two max_three min_three max_four min_four   -- for this text's walks alone
set_option linter.unusedVariables false
set_option linter.unusedSimpArgs false

def classOf (l : List S59) (a : Int) : Int := if a < 16 then -1 else if (a - 16) % 256 ≥ (l.length : Int) then -1 else (a - 16) % 256
theorem class_is (l : List S59) (a : Int) : types_class.f l a = some (classOf l a) := by
  unfold types_class.f classOf
  split
  · rfl
  · split <;> rfl
structure MergeHeld (W0 : World) (Bo : Nat) (A0 : Option Addr) (c0 : Nat) (l : List S59) (W : World) : Prop where
  reads : Kd.C k59 W A0 l.length l
  below : Below W0.heap.size W0 W
  lies : W.heap[W0.heap.size]? = some (.cells #[.slice A0 l.length c0] 22 (0, 0))
  out : W.heap[Bo]? = some (.cells #[.int .u8 5] 24 (0, 0))
theorem MergeHeld.drew {W0 : World} {Bo : Nat} {A0 : Option Addr} {c0 : Nat} {l : List S59} {W : World} (h : MergeHeld W0 Bo A0 c0 l W) : MergeHeld W0 Bo A0 c0 l W.drew := ⟨Kd.C_drew h.reads, below_drew1 h.below, blk_drew h.lies, blk_drew h.out⟩
theorem MergeHeld.drewN {W0 : World} {Bo : Nat} {A0 : Option Addr} {c0 : Nat} {l : List S59} {W : World} (h : MergeHeld W0 Bo A0 c0 l W) (m : Nat) : MergeHeld W0 Bo A0 c0 l (W.drewN m) := ⟨Kd.C_drewN h.reads m, pw_below_drewN h.below m, blk_drewN h.lies m, blk_drewN h.out m⟩
theorem MergeHeld.alloc {W0 : World} {Bo : Nat} {A0 : Option Addr} {c0 : Nat} {l : List S59} {W : World} (h : MergeHeld W0 Bo A0 c0 l W) (o : Obj) : MergeHeld W0 Bo A0 c0 l (W.alloc o) := ⟨Kd.C_alloc h.reads o, below_alloc h.below o, blk_alloc h.lies o, blk_alloc h.out o⟩
end Go.Proofs.Ytgjnmpgmbhbbhaa.P

end

section
namespace Go.Proofs.Ytgjnmpgmbhbbhaa.P
open Go.RowKit Go.Proofs.YtgjnmpgmbhbbhaaW.PrintWords Go.Proofs.YtgjnmpgmbhbbhaaW.PrintLast Go.Proofs.YtgjnmpgmbhbbhaaW.PrintMore
set_option linter.unusedVariables false
set_option linter.unusedSimpArgs false

theorem class_valid (l : Tbl) (a : Int) (ha : 0 ≤ a ∧ a ≤ 255) : classOf l a = if 16 ≤ a ∧ a - 16 < (l.length : Int) then a - 16 else -1 := by
  unfold classOf
  by_cases h1 : a < 16
  · rw [if_pos h1, if_neg (by omega)]
  · rw [if_neg h1, show (a - 16) % 256 = a - 16 by omega]
    by_cases h2 : a - 16 ≥ (l.length : Int)
    · rw [if_pos h2, if_neg (by omega)]
    · rw [if_neg h2, if_pos (by omega)]
theorem impl_valid (l : Tbl) (a : Int) (ha : 0 ≤ a ∧ a ≤ 255) : types_Valid.f l a = some (validB l a) := by
  unfold types_Valid.f validB
  by_cases h1 : a ≤ 5
  · simp [h1]
  · rw [if_neg h1, class_is, class_valid l a ha]
    by_cases h2 : 16 ≤ a ∧ a - 16 < (l.length : Int)
    · rw [if_pos h2]
      simp [h1, h2.1, h2.2]
    · rw [if_neg h2]
      simp [h1]
      omega
end Go.Proofs.Ytgjnmpgmbhbbhaa.P


end

section
namespace Go.Proofs.Ytgjnmpgmbhbbhaa.P
open Go.RowKit Go.Proofs.YtgjnmpgmbhbbhaaW.PrintWords Go.Proofs.YtgjnmpgmbhbbhaaW.PrintLast Go.Proofs.YtgjnmpgmbhbbhaaW.PrintMore
set_option linter.unusedVariables false
set_option linter.unusedSimpArgs false

theorem rd_class (l : Tbl) (i : Nat) (h : i < l.length) : rd_T59 l (i : Int) = l[i] := by simp [rd_T59, List.getD_eq_getElem?_getD, h]
theorem classes_tells (l : Tbl) (hs : Sane l) : ∀ (d i : Nat), l.length - i = d → i ≤ l.length → Ev (fun k => provisoplain_Classes.l0 k (l.take i) l (l.length : Int) (i : Int)) l
  | 0, i, hd, hi => by
    have e : l.take i = l := List.take_of_length_le (by omega)
    rw [e]
    exact Ev.step (f := fun _ => some l) (fun k => by simp only [provisoplain_Classes.l0]; rw [if_neg (by omega)]) (Ev.now _)
  | d + 1, i, hd, hi => by
    have hlt : i < l.length := by omega
    have ih := classes_tells l hs d (i + 1) (by omega) (by omega)
    have hsz := hs.size
    have ho := (hs.own (c := (i : Int)) (by omega) (by omega)).1
    unfold own at ho
    refine Ev.step (fun k => ?_) ih
    simp only [provisoplain_Classes.l0]
    rw [if_pos (by omega), if_pos (by omega), if_pos (by omega)]
    unfold api_Field_41.f
    rw [if_pos (by omega)]
    simp only [Option.bind_some]
    rw [if_pos (by rw [List.length_take]; omega), rd_class l i hlt, show wrap64 ((i : Int) + 1) = ((i + 1 : Nat) : Int) by unfold wrap64; omega, List.take_succ_eq_append_getElem hlt]
theorem impl_classes (l : Tbl) (hs : Sane l) : Ev (fun k => provisoplain_Classes.f k l) l := by
  have := classes_tells l hs l.length 0 (by omega) (by omega)
  rw [List.take_zero] at this
  exact this
theorem equal_fields_self (xs : List S62) (hl : xs.length ≤ 9223372036854775807) : ∀ (d i : Nat), xs.length - i = d → i ≤ xs.length → Ev (fun k => api_Field_44.l0 k xs xs (xs.length : Int) (i : Int)) true
  | 0, i, hd, hi => Ev.step (f := fun _ => some true) (fun k => by simp only [api_Field_44.l0]; rw [if_neg (by omega)]) (Ev.now _)
  | d + 1, i, hd, hi => by
    refine Ev.step (fun k => ?_) (equal_fields_self xs hl d (i + 1) (by omega) (by omega))
    simp only [api_Field_44.l0]
    rw [if_pos (by omega), if_pos (by omega), if_pos (by omega), if_pos (by omega), if_neg (by simp), show wrap64 ((i : Int) + 1) = ((i + 1 : Nat) : Int) by unfold wrap64; omega]
theorem impl_equal_fields_self (xs : List S62) (hl : xs.length ≤ 9223372036854775807) : Ev (fun k => api_Field_44.f k xs xs) true :=
  Ev.congr (fun k => by unfold api_Field_44.f; rw [if_pos rfl]; rfl) (equal_fields_self xs hl xs.length 0 (by omega) (by omega))
theorem same_classes_self (l : Tbl) (hs : Sane l) : ∀ (d i : Nat), l.length - i = d → i ≤ l.length → Ev (fun k => provisoplain_SameClasses.l0 k l l (l.length : Int) (i : Int)) true
  | 0, i, hd, hi => Ev.step (f := fun _ => some true) (fun k => by simp only [provisoplain_SameClasses.l0]; rw [if_neg (by omega)]) (Ev.now _)
  | d + 1, i, hd, hi => by
    have hsz := hs.size
    have ho := (hs.own (c := (i : Int)) (by omega) (by omega)).1
    unfold own at ho
    refine Ev.step (fun k => by
      simp only [provisoplain_SameClasses.l0]
      rw [if_pos (by omega), if_pos (by omega), if_pos (by omega), if_pos (by omega)]
      simp only [if_true]) (Ev.bind (f := fun k t => if t = true then provisoplain_SameClasses.l0 k l l (l.length : Int) (wrap64 ((i : Int) + 1)) else some false) (impl_equal_fields_self (rd_T59 l (i : Int)).f2 (by omega)) ?_)
    refine Ev.congr (fun k => ?_) (same_classes_self l hs d (i + 1) (by omega) (by omega))
    rw [if_pos rfl, show wrap64 ((i : Int) + 1) = ((i + 1 : Nat) : Int) by unfold wrap64; omega]
theorem impl_same_classes (l : Tbl) (hs : Sane l) : Ev (fun k => provisoplain_SameClasses.f k l l) true :=
  Ev.congr (fun k => by unfold provisoplain_SameClasses.f; rw [if_pos rfl]; rfl) (same_classes_self l hs l.length 0 (by omega) (by omega))

end Go.Proofs.Ytgjnmpgmbhbbhaa.P


end

section
namespace Go.Proofs.Ytgjnmpgmbhbbhaa.Pure
open Go.RowKit Go.Proofs.Ytgjnmpgmbhbbhaa.P Go.Proofs.YtgjnmpgmbhbbhaaW.PrintWords
set_option linter.unusedSimpArgs false
theorem equal_types_self (xs : List Int) (hl : xs.length ≤ 9223372036854775807) : ∀ (d i k : Nat), i + d = xs.length → d < k → api_Type_19.l0 k xs xs (xs.length : Int) (i : Int) = some true
  | 0, i, k, hd, hk => by
    obtain ⟨k, rfl⟩ : ∃ m, k = m + 1 := ⟨k - 1, by omega⟩
    simp only [api_Type_19.l0]
    rw [if_neg (by omega)]
  | d + 1, i, k, hd, hk => by
    obtain ⟨k, rfl⟩ : ∃ m, k = m + 1 := ⟨k - 1, by omega⟩
    have hw : wrap64 ((i : Int) + 1) = ((i + 1 : Nat) : Int) := by unfold wrap64; omega
    have ih := equal_types_self xs hl d (i + 1) k (by omega) (by omega)
    simp only [api_Type_19.l0]
    rw [if_pos (by omega), if_pos (by omega), if_pos (by omega), if_pos (by omega), if_pos trivial, hw]
    exact ih
theorem equal_types_is (xs : List Int) (hl : xs.length ≤ 9223372036854775807) (k : Nat) (hk : xs.length < k) : api_Type_19.f k xs xs = some true := by
  unfold api_Type_19.f
  rw [if_pos rfl]
  exact equal_types_self xs hl xs.length 0 k (by omega) hk
theorem startFrom_same (ok1 ok2 : Int → Option Bool) : ∀ (p : List Int) (i : Nat) (f : Fr), (∀ t ∈ p, ok1 t = ok2 t ∧ ∃ b, ok1 t = some b) → ∃ r, startFrom ok1 p i f = some r ∧ startFrom ok2 p i f = some r
  | [], i, f, _ => ⟨(f, 0), rfl, rfl⟩
  | t :: ts, i, f, h => by
    obtain ⟨h1, b, h2⟩ := h t List.mem_cons_self
    have h3 : ok2 t = some b := by rw [← h1]; exact h2
    obtain ⟨r, h4, h5⟩ := startFrom_same ok1 ok2 ts (i + 1) ⟨f.loc, f.hgt, f.sl.set i t⟩ (fun x hx => h x (List.mem_cons_of_mem _ hx))
    simp only [startFrom, h2, h3, Option.bind_some]
    cases b with
    | true => exact ⟨r, by simpa using h4, by simpa using h5⟩
    | false => exact ⟨(Fr.zero, 1), by simp, by simp⟩
theorem FramesStarts : provisolaw03_FramesStarts.Pure := by
  intro l0 l1 a2 hl hl1 _
  have hs : Sane l0 := hl
  obtain ⟨K1, h1⟩ := ref_check l0 hs
  obtain ⟨K2, h2⟩ := impl_classes l0 hs
  obtain ⟨K3, h3⟩ := impl_same_classes l0 hs
  refine ⟨K1 + K2 + K3 + l1.length + 1, ?_⟩
  generalize hk : K1 + K2 + K3 + l1.length + 1 = k
  have h1 : provisoref02_Check.f k l0 = some (checkB l0) := h1 k (by omega)
  have h2 : provisoplain_Classes.f k l0 = some l0 := h2 k (by omega)
  have h3 : provisoplain_SameClasses.f k l0 l0 = some true := h3 k (by omega)
  unfold provisolaw03_FramesStarts.f provisolaw03_table.f
  rw [h1]
  simp only [Option.bind_some]
  cases hm : ((checkB l0).2 == 0) with
  | false => simp
  | true =>
    have hclone : api_Type_15.f l1 = some l1 := by
      unfold api_Type_15.f
      rw [if_pos (by have := hl1.2.1; omega)]
    have hst : ∃ r, startS (okI l0) l1 a2 = some r ∧ startS (provisoref03_stored.f l0) l1 a2 = some r := by
      unfold startS
      by_cases c : (emptyS a2).2 ≠ 0 ∨ l1.length > 8 ∨ (l1.length : Int) > a2
      · exact ⟨(Fr.zero, 1), by rw [if_pos c], by rw [if_pos c]⟩
      · rw [if_neg c, if_neg c]
        refine startFrom_same _ _ l1 0 _ (fun t ht => ?_)
        have htr : 0 ≤ t ∧ t ≤ 255 := u8_of (hl1.2.2 t ht)
        have e1 : okI l0 t = some (validB l0 t && !(t == 0) && !(t == 3)) := by
          unfold okI
          rw [impl_valid l0 t htr]
          rfl
        refine ⟨?_, _, e1⟩
        rw [e1]
        unfold provisoref03_stored.f
        rw [ref_valid l0 t htr]
        simp only [Option.bind_some]
        cases validB l0 t with
        | false => simp
        | true =>
          by_cases t0 : t = 0
          · simp [t0]
          · have t0b : (t == 0) = false := by rw [beq_eq_false_iff_ne]; exact t0
            simp [t0, t0b, bne]
    obtain ⟨r, hr1, hr2⟩ := hst
    rw [if_pos rfl, h2]
    simp only [Option.bind_some]
    rw [hclone]
    simp only [Option.bind_some]
    rw [hr1]
    simp only [Option.bind_some]
    rw [hr2]
    simp only [Option.bind_some]
    rw [if_pos (by rw [frEq_self]; simp), h3]
    simp only [Option.bind_some]
    rw [equal_types_is l1 hl1.1 k (by omega)]
    simp
end Go.Proofs.Ytgjnmpgmbhbbhaa.Pure

end

section
namespace Go.Proofs.Ytgjnmpgmbhbbhaa.framesStarts
open Go.ChangeShapes Go.WideShapes Go.ChangeAt Go.RowKit Go.Proofs.YtgjnmpgmbhbbhaaW.PrintWords Go.Proofs.Ytgjnmpgmbhbbhaa.Sees Go.Proofs.Ytgjnmpgmbhbbhaa.P
open Go.ChangeMaps (open_string shut_string)
set_option linter.unusedVariables false
set_option linter.unusedSimpArgs false
theorem own : ownKnob Try.prog.godebug = none := by kernel_rfl
theorem laidOut : laidOutB Try.prog = true := by kernel_rfl
set_option maxRecDepth 100000 in
theorem lifted (os : Os) (started : os.Started) (H : Type) (enc : TypeId × Value → H) :
    ReturnsInHanded {} Try.checked os 3 .any (Rows.framesStartsSpec.pre6 enc Try.prog Try.f3 Rows.framesStartsRow.domain false) (Rows.framesStartsSpec.post enc Try.prog Try.f3 false true false false) := by
  refine returnsInHanded_of_change_sized (C := Try.checked) own started (by kernel_rfl) Try.func3
    (ChangeSpec.witness6 (enc := enc) (C := Try.checked) false ⟨#[], #[.slice none 0 0, .slice none 0 0, .int .i64 0], []⟩ 8 (by kernel_rfl) (by kernel_rfl) (by kernel_rfl) (by kernel_rfl)) ?_
  intro W base args ds gs before hval0 hW hcnd hsz0 _
  have hsz : (DataW.weightsEach Try.prog (Try.f3.params.toList ++ Rows.framesStartsSpec.plain.varTypes Try.prog) (ds ++ gs)).all (· ≤ reachBytes) = true := hsz0
  have hval : ∀ (j : Nat) t v, Try.f3.params[j]? = some t → args[j]? = some v → Value.okWide Try.prog W .any base t v := hval0
  have hW' := hW
  obtain ⟨p, q, hA0, hV, rfl, hfz, hnd⟩ := hW
  have hA : DataW.TrodAll enc Try.prog W 0 (fun _ => true) true Try.f3.params.toList args.toList ds p := hA0
  rw [Try.params3] at hA hval hsz
  obtain ⟨v0, vs0, d0, ds0, p0, q0, hargs, rfl, rfl, h0, r0⟩ := trodAll_cons hA
  obtain ⟨v1, vs1, d1, ds1, p1, q1, rfl, rfl, rfl, h1, r1⟩ := trodAll_cons r0
  obtain ⟨v2, vs2, d2, ds2, p2, q2, rfl, rfl, rfl, h2, r2⟩ := trodAll_cons r1
  obtain ⟨rfl, rfl, rfl⟩ := trodAll_nil r2
  obtain rfl : args = #[v0, v1, v2] := by cases args; simp_all
  obtain ⟨rfl, rfl⟩ := trodVars_none hV
  have k0 := h0
  have lt0 : ∀ x ∈ p0, x.block < W.heap.size := by obtain ⟨m, hm⟩ := k0; exact DataW.trod_lt m _ _ _ hm
  obtain ⟨y0, hy0, oy0⟩ := see_arg (j := 0) (t := 22) (sees_slice (B := 48) Try.underlying22 (by kernel_rfl) (by kernel_rfl) sees59) hsz rfl rfl h0
  obtain ⟨a0, len0, cap0, rfl⟩ := okWide_slice Try.underlying22 (hval 0 22 v0 rfl rfl)
  obtain ⟨rfl, hc0, hr0⟩ := see_slice rfl hy0
  have k1 := h1
  have lt1 : ∀ x ∈ p1, x.block < W.heap.size := by obtain ⟨m, hm⟩ := k1; exact DataW.trod_lt m _ _ _ hm
  obtain ⟨y1, hy1, oy1⟩ := see_arg (j := 1) (t := 23) (sees_slice (B := 1) Try.underlying23 (by kernel_rfl) (by kernel_rfl) (sees_int Try.underlying24)) hsz rfl rfl h1
  obtain ⟨a1, len1, cap1, rfl⟩ := okWide_slice Try.underlying23 (hval 1 23 v1 rfl rfl)
  obtain ⟨rfl, hc1, hr1⟩ := see_slice rfl hy1
  have k2 := h2
  have lt2 : ∀ x ∈ p2, x.block < W.heap.size := by obtain ⟨m, hm⟩ := k2; exact DataW.trod_lt m _ _ _ hm
  obtain ⟨y2, hy2, oy2⟩ := see_arg (j := 2) (t := 3) (sees_int Try.underlying3) hsz rfl rfl h2
  obtain ⟨z2, rfl, rfl, rfl, _⟩ := open_int Try.underlying3 (hval 2 3 v2 rfl rfl) h2
  obtain rfl : z2 = y2 := by have e_ := hy2; simp [Kd.int, Kd.bool, Kd.string, Kd.scalar, Value.cells] at e_; exact e_
  clear hA0 hval0 hsz0 hsz
  obtain ⟨k, hk⟩ := Pure.FramesStarts y0 y1 z2 oy0 oy1 oy2
  refine (provisolaw03_FramesStarts.calls k _ _ y0 _ _ y1 z2 true W hr0 hc0 hr1 hc1 hk).mono ?_
  rintro e W' ⟨rfl, bel0⟩
  have bel : Below W.heap.size W W' := bel0
  exact ⟨_, rfl, _, _, _, [], _, [], hW', trodAll_mk1 (shut_bool Try.underlying4 _), (trodAll_cons_mk (Below.trod laidOut (by kernel_rfl) (of_decide_eq_true (by kernel_rfl)) k0 bel lt0) (trodAll_cons_mk (Below.trod laidOut (by kernel_rfl) (of_decide_eq_true (by kernel_rfl)) k1 bel lt1) (trodAll_cons_mk (Below.trod laidOut (by kernel_rfl) (of_decide_eq_true (by kernel_rfl)) k2 bel lt2) trodAll_mk0))), rfl, bel.frame _, fun h => by cases h⟩
theorem over : Rows.framesStartsRow.holds Try.pinned (OpenSpec.ofChange Rows.framesStartsSpec) :=
  OpenClaim.holds_of_wide 3 Try.f3 rfl rfl rfl rfl rfl rfl rfl ⟨rfl, rfl, rfl, rfl, rfl⟩ rfl rfl rfl rfl rfl (by kernel_rfl) Try.func3 (by kernel_rfl)
    (of_decide_eq_true (by kernel_rfl)) (by unfold Func.isWrapper; first | (rw [if_pos (by decide +kernel)]; kernel_rfl) | (rw [if_neg (by decide +kernel)]; exact ⟨rfl, rfl⟩))
    (fun os started H enc _ => lifted os started H enc)
theorem proved : Rows.FramesStartsSaid := over
end Go.Proofs.Ytgjnmpgmbhbbhaa.framesStarts
namespace Go.Proofs.Ytgjnmpgmbhbbhaa
theorem framesStarts_holds : Rows.FramesStartsSaid := framesStarts.proved
end Go.Proofs.Ytgjnmpgmbhbbhaa

end

