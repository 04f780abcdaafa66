/- Proved: the law ModuleChecks holds for every input that the row lets in. No condition of ours. -/
import Derived.Test.YtdlmcjchnoeebaaBModuleChecksf
section
namespace Go.Proofs.Ytdlmcjchnoeebaa.P
open Go.RowKit Go.Proofs.YtdlmcjchnoeebaaW.PrintWords Go.Proofs.YtdlmcjchnoeebaaW.PrintLast Go.Proofs.YtdlmcjchnoeebaaW.PrintMore
attribute [local go_sem] max2_int min2_int max_two min_two max_three min_three max_four min_four   -- for this text's walks alone
set_option linter.unusedVariables false
set_option linter.unusedSimpArgs false

set_option maxHeartbeats 8000000 in
set_option maxRecDepth 100000 in
theorem provisoref02_fault.calls (k : Nat) (A0 : Option Addr) (c0 : Nat) (l0 : List (S64)) (a1 : Int) (r : Int) (w : World) (hr0 : Kd.C k64 w A0 l0.length l0) (hc0 : l0.length ≤ c0) (h : provisoref02_fault.f k l0 a1 = some r) :
    Calls Try.prog 74 #[.slice A0 l0.length c0, .int .i64 a1] w fun e w' => e = .returned (.int .i64 r) ∧ Below w.heap.size w w' := by
  have hu64 := Try.underlying64
  have hu99 := Try.underlying99
  have HR0 := amk hr0
  have HC0 := amk hc0
  clear hr0 hc0
  have HB := amk (Below.refl w.heap.size w)
  have H : (if 0 ≤ a1 then (if a1 < (l0.length : Int) then (if a1 ≥ 32 then (some 4) else ((provisoref02_IsName.f k ((rd_T64 l0 a1).f0)).bind fun t219 => (if t219 = true then ((provisoref02_isWord.f k ((rd_T64 l0 a1).f0)).bind fun t220 => (provisoref02_fault.j0 k l0 a1 t220 ((rd_T64 l0 a1).f0) ((rd_T64 l0 a1).f1) ((rd_T64 l0 a1).f2))) else (provisoref02_fault.j0 k l0 a1 true ((rd_T64 l0 a1).f0) ((rd_T64 l0 a1).f1) ((rd_T64 l0 a1).f2))))) else (none)) else (none)) = some r := h
  clear h
  by_cases c3 : 0 ≤ a1
  · rw [if_pos c3] at H
    have c3b0 : decide (0 ≤ a1) = true := decide_eq_true c3
    clear c3
    by_cases c4 : a1 < (l0.length : Int)
    · rw [if_pos c4] at H
      have c4b0 : decide (a1 < (l0.length : Int)) = true := decide_eq_true c4
      clear c4
      by_cases c5 : a1 ≥ 32
      · rw [if_pos c5] at H
        have c5b0 : decide (32 ≤ a1) = true := decide_eq_true c5
        clear c5
        obtain rfl := Option.some.inj H
        have p217 : 0 ≤ (a1 : Int) := of_decide_eq_true (by first | (with_reducible assumption) | assumption)
        have q217 : a1 < (l0.length : Int) := of_decide_eq_true (by first | (with_reducible assumption) | assumption)
        obtain ⟨ad217, A217_2, c217_2, e217, hx217_0, hx217_1, hx217_2, hl217_2, hi217_2⟩ := at_T64 HR0.out a1 p217 q217
        cases e217
        have HR217_2 := amk hi217_2
        have HC217_2 := amk hl217_2
        clear hi217_2 hl217_2
        replace p217 := eq_true p217
        replace q217 := eq_true q217
        go_enter Try.func74, Try.ntmps74
        go_wp2_with (first | ((with_reducible refine gate_dst (N := 5) rfl ?_); refine box_event ?hg (N := 5) ?hd (cs := #[.string (⟨#[]⟩ : ByteArray), .int .i64 0, .slice none 0 0]) (t := 64) ?hr ?_; (case hd => rfl); (case hg => rfl); (case hr => first | (go_simp; done) | (go_simp; rfl)); intro gb218 hg w6 hbox hb; have n0_ := amk (below_step (by repeat (first | (with_reducible first | exact HB.out | apply bal | apply pbd | apply bdr) | exact HB.out)) hb); have n1_ := amk (hbox); have n2_ := amk ((by rw [hg]; exact (below_size (by repeat (first | (with_reducible first | exact HB.out | apply bal | apply pbd | apply bdr) | exact HB.out))) : w.heap.size ≤ gb218)); have n3_ := amk ((by rw [hg]; exact (below_size (by repeat (first | (with_reducible first | exact HB.out | apply bal | apply pbd | apply bdr) | exact HB.out))) : w.heap.size ≤ gb218)); clear HB; have HB := n0_; have BK218 := n1_; have GW218 := n2_; have GE218 := n3_; clear n0_ n1_ n2_ n3_; clear hb hbox hg; have hcz7_0 : w6.cell? ⟨gb218, 0, none⟩ = some (.string (⟨#[]⟩ : ByteArray)) := (blk_cell BK218.out 0).trans rfl; have hcz7_1 : w6.cell? ⟨gb218, 1, none⟩ = some (.int .i64 0) := (blk_cell BK218.out 1).trans rfl; have hcz7_2 : w6.cell? ⟨gb218, 2, none⟩ = some (.slice none 0 0) := (blk_cell BK218.out 2).trans rfl; have hfz7_0 := bkf BK218.out 0; have hfz7_1 := bkf BK218.out 1; have hfz7_2 := bkf BK218.out 2))
        repeat (go_quiet (first | ((with_reducible refine gate_dst (N := 5) rfl ?_); refine box_event ?hg (N := 5) ?hd (cs := #[.string (⟨#[]⟩ : ByteArray), .int .i64 0, .slice none 0 0]) (t := 64) ?hr ?_; (case hd => rfl); (case hg => rfl); (case hr => first | (go_simp; done) | (go_simp; rfl)); intro gb218 hg w6 hbox hb; have n0_ := amk (below_step (by repeat (first | (with_reducible first | exact HB.out | apply bal | apply pbd | apply bdr) | exact HB.out)) hb); have n1_ := amk (hbox); have n2_ := amk ((by rw [hg]; exact (below_size (by repeat (first | (with_reducible first | exact HB.out | apply bal | apply pbd | apply bdr) | exact HB.out))) : w.heap.size ≤ gb218)); have n3_ := amk ((by rw [hg]; exact (below_size (by repeat (first | (with_reducible first | exact HB.out | apply bal | apply pbd | apply bdr) | exact HB.out))) : w.heap.size ≤ gb218)); clear HB; have HB := n0_; have BK218 := n1_; have GW218 := n2_; have GE218 := n3_; clear n0_ n1_ n2_ n3_; clear hb hbox hg; have hcz7_0 : w6.cell? ⟨gb218, 0, none⟩ = some (.string (⟨#[]⟩ : ByteArray)) := (blk_cell BK218.out 0).trans rfl; have hcz7_1 : w6.cell? ⟨gb218, 1, none⟩ = some (.int .i64 0) := (blk_cell BK218.out 1).trans rfl; have hcz7_2 : w6.cell? ⟨gb218, 2, none⟩ = some (.slice none 0 0) := (blk_cell BK218.out 2).trans rfl; have hfz7_0 := bkf BK218.out 0; have hfz7_1 := bkf BK218.out 1; have hfz7_2 := bkf BK218.out 2)); try go_wp2_with (first | ((with_reducible refine gate_dst (N := 5) rfl ?_); refine box_event ?hg (N := 5) ?hd (cs := #[.string (⟨#[]⟩ : ByteArray), .int .i64 0, .slice none 0 0]) (t := 64) ?hr ?_; (case hd => rfl); (case hg => rfl); (case hr => first | (go_simp; done) | (go_simp; rfl)); intro gb218 hg w6 hbox hb; have n0_ := amk (below_step (by repeat (first | (with_reducible first | exact HB.out | apply bal | apply pbd | apply bdr) | exact HB.out)) hb); have n1_ := amk (hbox); have n2_ := amk ((by rw [hg]; exact (below_size (by repeat (first | (with_reducible first | exact HB.out | apply bal | apply pbd | apply bdr) | exact HB.out))) : w.heap.size ≤ gb218)); have n3_ := amk ((by rw [hg]; exact (below_size (by repeat (first | (with_reducible first | exact HB.out | apply bal | apply pbd | apply bdr) | exact HB.out))) : w.heap.size ≤ gb218)); clear HB; have HB := n0_; have BK218 := n1_; have GW218 := n2_; have GE218 := n3_; clear n0_ n1_ n2_ n3_; clear hb hbox hg; have hcz7_0 : w6.cell? ⟨gb218, 0, none⟩ = some (.string (⟨#[]⟩ : ByteArray)) := (blk_cell BK218.out 0).trans rfl; have hcz7_1 : w6.cell? ⟨gb218, 1, none⟩ = some (.int .i64 0) := (blk_cell BK218.out 1).trans rfl; have hcz7_2 : w6.cell? ⟨gb218, 2, none⟩ = some (.slice none 0 0) := (blk_cell BK218.out 2).trans rfl; have hfz7_0 := bkf BK218.out 0; have hfz7_1 := bkf BK218.out 1; have hfz7_2 := bkf BK218.out 2)))
        go_ret
        exact ⟨by first | rfl | (simp [errW_none, errW_some] <;> rfl) | (simp [*, errW_none, errW_some] <;> rfl), by repeat (first | (with_reducible first | exact HB.out | apply bal | apply pbd | apply bdr | refine below_set ?_ GE218.out) | exact HB.out)⟩
      · rw [if_neg c5] at H
        have c5b0 : decide (32 ≤ a1) = false := decide_eq_false c5
        clear c5
        have HC8 := amk H
        clear H
        have p217 : 0 ≤ (a1 : Int) := of_decide_eq_true (by first | (with_reducible assumption) | assumption)
        have q217 : a1 < (l0.length : Int) := of_decide_eq_true (by first | (with_reducible assumption) | assumption)
        obtain ⟨ad217, A217_2, c217_2, e217, hx217_0, hx217_1, hx217_2, hl217_2, hi217_2⟩ := at_T64 HR0.out a1 p217 q217
        cases e217
        have HR217_2 := amk hi217_2
        have HC217_2 := amk hl217_2
        clear hi217_2 hl217_2
        replace p217 := eq_true p217
        replace q217 := eq_true q217
        go_enter Try.func74, Try.ntmps74
        go_upto_region 4 with (first | ((with_reducible refine gate_dst (N := 5) rfl ?_); refine box_event ?hg (N := 5) ?hd (cs := #[.string (⟨#[]⟩ : ByteArray), .int .i64 0, .slice none 0 0]) (t := 64) ?hr ?_; (case hd => rfl); (case hg => rfl); (case hr => first | (go_simp; done) | (go_simp; rfl)); intro gb218 hg w9 hbox hb; have n0_ := amk (below_step (by repeat (first | (with_reducible first | exact HB.out | apply bal | apply pbd | apply bdr) | exact HB.out)) hb); have n1_ := amk (hbox); have n2_ := amk ((by rw [hg]; exact (below_size (by repeat (first | (with_reducible first | exact HB.out | apply bal | apply pbd | apply bdr) | exact HB.out))) : w.heap.size ≤ gb218)); have n3_ := amk ((by rw [hg]; exact (below_size (by repeat (first | (with_reducible first | exact HB.out | apply bal | apply pbd | apply bdr) | exact HB.out))) : w.heap.size ≤ gb218)); clear HB; have HB := n0_; have BK218 := n1_; have GW218 := n2_; have GE218 := n3_; clear n0_ n1_ n2_ n3_; clear hb hbox hg; have hcz10_0 : w9.cell? ⟨gb218, 0, none⟩ = some (.string (⟨#[]⟩ : ByteArray)) := (blk_cell BK218.out 0).trans rfl; have hcz10_1 : w9.cell? ⟨gb218, 1, none⟩ = some (.int .i64 0) := (blk_cell BK218.out 1).trans rfl; have hcz10_2 : w9.cell? ⟨gb218, 2, none⟩ = some (.slice none 0 0) := (blk_cell BK218.out 2).trans rfl; have hfz10_0 := bkf BK218.out 0; have hfz10_1 := bkf BK218.out 1; have hfz10_2 := bkf BK218.out 2))
        repeat (go_quiet (first | ((with_reducible refine gate_dst (N := 5) rfl ?_); refine box_event ?hg (N := 5) ?hd (cs := #[.string (⟨#[]⟩ : ByteArray), .int .i64 0, .slice none 0 0]) (t := 64) ?hr ?_; (case hd => rfl); (case hg => rfl); (case hr => first | (go_simp; done) | (go_simp; rfl)); intro gb218 hg w9 hbox hb; have n0_ := amk (below_step (by repeat (first | (with_reducible first | exact HB.out | apply bal | apply pbd | apply bdr) | exact HB.out)) hb); have n1_ := amk (hbox); have n2_ := amk ((by rw [hg]; exact (below_size (by repeat (first | (with_reducible first | exact HB.out | apply bal | apply pbd | apply bdr) | exact HB.out))) : w.heap.size ≤ gb218)); have n3_ := amk ((by rw [hg]; exact (below_size (by repeat (first | (with_reducible first | exact HB.out | apply bal | apply pbd | apply bdr) | exact HB.out))) : w.heap.size ≤ gb218)); clear HB; have HB := n0_; have BK218 := n1_; have GW218 := n2_; have GE218 := n3_; clear n0_ n1_ n2_ n3_; clear hb hbox hg; have hcz10_0 : w9.cell? ⟨gb218, 0, none⟩ = some (.string (⟨#[]⟩ : ByteArray)) := (blk_cell BK218.out 0).trans rfl; have hcz10_1 : w9.cell? ⟨gb218, 1, none⟩ = some (.int .i64 0) := (blk_cell BK218.out 1).trans rfl; have hcz10_2 : w9.cell? ⟨gb218, 2, none⟩ = some (.slice none 0 0) := (blk_cell BK218.out 2).trans rfl; have hfz10_0 := bkf BK218.out 0; have hfz10_1 := bkf BK218.out 1; have hfz10_2 := bkf BK218.out 2)); go_upto_region 4 with (first | ((with_reducible refine gate_dst (N := 5) rfl ?_); refine box_event ?hg (N := 5) ?hd (cs := #[.string (⟨#[]⟩ : ByteArray), .int .i64 0, .slice none 0 0]) (t := 64) ?hr ?_; (case hd => rfl); (case hg => rfl); (case hr => first | (go_simp; done) | (go_simp; rfl)); intro gb218 hg w9 hbox hb; have n0_ := amk (below_step (by repeat (first | (with_reducible first | exact HB.out | apply bal | apply pbd | apply bdr) | exact HB.out)) hb); have n1_ := amk (hbox); have n2_ := amk ((by rw [hg]; exact (below_size (by repeat (first | (with_reducible first | exact HB.out | apply bal | apply pbd | apply bdr) | exact HB.out))) : w.heap.size ≤ gb218)); have n3_ := amk ((by rw [hg]; exact (below_size (by repeat (first | (with_reducible first | exact HB.out | apply bal | apply pbd | apply bdr) | exact HB.out))) : w.heap.size ≤ gb218)); clear HB; have HB := n0_; have BK218 := n1_; have GW218 := n2_; have GE218 := n3_; clear n0_ n1_ n2_ n3_; clear hb hbox hg; have hcz10_0 : w9.cell? ⟨gb218, 0, none⟩ = some (.string (⟨#[]⟩ : ByteArray)) := (blk_cell BK218.out 0).trans rfl; have hcz10_1 : w9.cell? ⟨gb218, 1, none⟩ = some (.int .i64 0) := (blk_cell BK218.out 1).trans rfl; have hcz10_2 : w9.cell? ⟨gb218, 2, none⟩ = some (.slice none 0 0) := (blk_cell BK218.out 2).trans rfl; have hfz10_0 := bkf BK218.out 0; have hfz10_1 := bkf BK218.out 1; have hfz10_2 := bkf BK218.out 2)))
        (try simp only [Act.put, sia, scz, scs])
        go_cut [24] (fun v24 wc => ∃ (kq : Nat) (x24_7 : Bool), v24 = .bool x24_7 ∧ Aside0 (provisoref02_fault.j0 kq l0 a1 x24_7 ((rd_T64 l0 a1).f0) ((rd_T64 l0 a1).f1) ((rd_T64 l0 a1).f2) = some r) ∧ Aside0 (kq ≤ k) ∧ Aside0 (wc.heap[gb218]? = some (.cells #[.string ((rd_T64 l0 a1).f0), .int .i64 ((rd_T64 l0 a1).f1), (.slice A217_2 ((rd_T64 l0 a1).f2).length c217_2)] 64 (0, 0))) ∧ Aside0 (Below w.heap.size w wc))
        case first =>
          have H := HC8.out
          clear HC8
          replace H := Option.bind_eq_some_iff.mp H
          obtain ⟨t219, A110, H⟩ := H
          replace H : (if t219 = true then ((provisoref02_isWord.f k ((rd_T64 l0 a1).f0)).bind fun t220 => (provisoref02_fault.j0 k l0 a1 t220 ((rd_T64 l0 a1).f0) ((rd_T64 l0 a1).f1) ((rd_T64 l0 a1).f2))) else (provisoref02_fault.j0 k l0 a1 true ((rd_T64 l0 a1).f0) ((rd_T64 l0 a1).f1) ((rd_T64 l0 a1).f2))) = some r := H
          have A11 := amk A110
          clear A110
          by_cases c12 : t219 = true
          · subst c12
            have H1 : ((provisoref02_isWord.f k ((rd_T64 l0 a1).f0)).bind fun t220 => (provisoref02_fault.j0 k l0 a1 t220 ((rd_T64 l0 a1).f0) ((rd_T64 l0 a1).f1) ((rd_T64 l0 a1).f2))) = some r := by rw [if_pos rfl] at H; exact H
            clear H
            have H := H1
            clear H1
            replace H := Option.bind_eq_some_iff.mp H
            obtain ⟨t220, A130, H⟩ := H
            replace H : (provisoref02_fault.j0 k l0 a1 t220 ((rd_T64 l0 a1).f0) ((rd_T64 l0 a1).f1) ((rd_T64 l0 a1).f2)) = some r := H
            have A13 := amk A130
            clear A130
            have H' := amk H
            clear H
            have hcz14_0 : w9.cell? ⟨gb218, 0, none⟩ = some (.string (⟨#[]⟩ : ByteArray)) := (blk_cell BK218.out 0).trans rfl
            have hcz14_1 : w9.cell? ⟨gb218, 1, none⟩ = some (.int .i64 0) := (blk_cell BK218.out 1).trans rfl
            have hcz14_2 : w9.cell? ⟨gb218, 2, none⟩ = some (.slice none 0 0) := (blk_cell BK218.out 2).trans rfl
            have hfz14_0 := bkf BK218.out 0
            have hfz14_1 := bkf BK218.out 1
            have hfz14_2 := bkf BK218.out 2
            go_wp2_with (first | (go_at_call 40; (with_reducible refine (provisoref02_IsName.calls k ((rd_T64 l0 a1).f0) true _ A11.out).mono ?_); rintro e w' ⟨rfl, ⟨nd, rfl⟩⟩; (try first | exact ⟨rfl, _, World.drewN_drewN _ _ _⟩ | exact ⟨rfl, _, Eq.trans (World.drewN_drewN _ _ _) (congrArg (World.drewN _) (Nat.add_assoc _ _ _))⟩)) | (go_at_call 112; (with_reducible refine (provisoref02_isWord.calls k ((rd_T64 l0 a1).f0) t220 _ A13.out).mono ?_); rintro e w' ⟨rfl, ⟨nd, rfl⟩⟩; (try first | exact ⟨rfl, _, World.drewN_drewN _ _ _⟩ | exact ⟨rfl, _, Eq.trans (World.drewN_drewN _ _ _) (congrArg (World.drewN _) (Nat.add_assoc _ _ _))⟩)))
            repeat (go_quiet (first | (go_at_call 40; (with_reducible refine (provisoref02_IsName.calls k ((rd_T64 l0 a1).f0) true _ A11.out).mono ?_); rintro e w' ⟨rfl, ⟨nd, rfl⟩⟩; (try first | exact ⟨rfl, _, World.drewN_drewN _ _ _⟩ | exact ⟨rfl, _, Eq.trans (World.drewN_drewN _ _ _) (congrArg (World.drewN _) (Nat.add_assoc _ _ _))⟩)) | (go_at_call 112; (with_reducible refine (provisoref02_isWord.calls k ((rd_T64 l0 a1).f0) t220 _ A13.out).mono ?_); rintro e w' ⟨rfl, ⟨nd, rfl⟩⟩; (try first | exact ⟨rfl, _, World.drewN_drewN _ _ _⟩ | exact ⟨rfl, _, Eq.trans (World.drewN_drewN _ _ _) (congrArg (World.drewN _) (Nat.add_assoc _ _ _))⟩))); try go_wp2_with (first | (go_at_call 40; (with_reducible refine (provisoref02_IsName.calls k ((rd_T64 l0 a1).f0) true _ A11.out).mono ?_); rintro e w' ⟨rfl, ⟨nd, rfl⟩⟩; (try first | exact ⟨rfl, _, World.drewN_drewN _ _ _⟩ | exact ⟨rfl, _, Eq.trans (World.drewN_drewN _ _ _) (congrArg (World.drewN _) (Nat.add_assoc _ _ _))⟩)) | (go_at_call 112; (with_reducible refine (provisoref02_isWord.calls k ((rd_T64 l0 a1).f0) t220 _ A13.out).mono ?_); rintro e w' ⟨rfl, ⟨nd, rfl⟩⟩; (try first | exact ⟨rfl, _, World.drewN_drewN _ _ _⟩ | exact ⟨rfl, _, Eq.trans (World.drewN_drewN _ _ _) (congrArg (World.drewN _) (Nat.add_assoc _ _ _))⟩))))
            go_meet
            case rel => exact ⟨_, (t220), (by first | rfl | (simp; done) | (simp [*]; done)), H', ⟨by first | omega | exact Nat.le_refl _⟩, ⟨by (with_reducible repeat (first | refine bkd ?_ _ | refine blk_drew ?_ | refine bka ?_ _)); refine blk_put (cs := #[.string ((rd_T64 l0 a1).f0), .int .i64 ((rd_T64 l0 a1).f1), .slice none 0 0]) ?_ 2 _ rfl; (with_reducible repeat (first | refine bkd ?_ _ | refine blk_drew ?_ | refine bka ?_ _)); refine blk_put (cs := #[.string ((rd_T64 l0 a1).f0), .int .i64 0, .slice none 0 0]) ?_ 1 _ rfl; (with_reducible repeat (first | refine bkd ?_ _ | refine blk_drew ?_ | refine bka ?_ _)); refine blk_put (cs := #[.string (⟨#[]⟩ : ByteArray), .int .i64 0, .slice none 0 0]) ?_ 0 _ rfl; (with_reducible repeat (first | refine bkd ?_ _ | refine blk_drew ?_ | refine bka ?_ _)); exact BK218.out⟩, ⟨by repeat (first | (with_reducible first | exact HB.out | apply bal | apply pbd | apply bdr | refine below_set ?_ GE218.out) | exact HB.out)⟩⟩
          · replace c12 := Bool.eq_false_iff.mpr c12
            subst c12
            have H1 : (provisoref02_fault.j0 k l0 a1 true ((rd_T64 l0 a1).f0) ((rd_T64 l0 a1).f1) ((rd_T64 l0 a1).f2)) = some r := by rw [if_neg (show ¬ (false = true) by decide)] at H; exact H
            clear H
            have H := H1
            clear H1
            have H' := amk H
            clear H
            have hcz15_0 : w9.cell? ⟨gb218, 0, none⟩ = some (.string (⟨#[]⟩ : ByteArray)) := (blk_cell BK218.out 0).trans rfl
            have hcz15_1 : w9.cell? ⟨gb218, 1, none⟩ = some (.int .i64 0) := (blk_cell BK218.out 1).trans rfl
            have hcz15_2 : w9.cell? ⟨gb218, 2, none⟩ = some (.slice none 0 0) := (blk_cell BK218.out 2).trans rfl
            have hfz15_0 := bkf BK218.out 0
            have hfz15_1 := bkf BK218.out 1
            have hfz15_2 := bkf BK218.out 2
            go_wp2_with (first | (go_at_call 40; (with_reducible refine (provisoref02_IsName.calls k ((rd_T64 l0 a1).f0) false _ A11.out).mono ?_); rintro e w' ⟨rfl, ⟨nd, rfl⟩⟩; (try first | exact ⟨rfl, _, World.drewN_drewN _ _ _⟩ | exact ⟨rfl, _, Eq.trans (World.drewN_drewN _ _ _) (congrArg (World.drewN _) (Nat.add_assoc _ _ _))⟩)))
            repeat (go_quiet (first | (go_at_call 40; (with_reducible refine (provisoref02_IsName.calls k ((rd_T64 l0 a1).f0) false _ A11.out).mono ?_); rintro e w' ⟨rfl, ⟨nd, rfl⟩⟩; (try first | exact ⟨rfl, _, World.drewN_drewN _ _ _⟩ | exact ⟨rfl, _, Eq.trans (World.drewN_drewN _ _ _) (congrArg (World.drewN _) (Nat.add_assoc _ _ _))⟩))); try go_wp2_with (first | (go_at_call 40; (with_reducible refine (provisoref02_IsName.calls k ((rd_T64 l0 a1).f0) false _ A11.out).mono ?_); rintro e w' ⟨rfl, ⟨nd, rfl⟩⟩; (try first | exact ⟨rfl, _, World.drewN_drewN _ _ _⟩ | exact ⟨rfl, _, Eq.trans (World.drewN_drewN _ _ _) (congrArg (World.drewN _) (Nat.add_assoc _ _ _))⟩))))
            go_meet
            case rel => exact ⟨_, (true), (by first | rfl | (simp; done) | (simp [*]; done)), H', ⟨by first | omega | exact Nat.le_refl _⟩, ⟨by (with_reducible repeat (first | refine bkd ?_ _ | refine blk_drew ?_ | refine bka ?_ _)); refine blk_put (cs := #[.string ((rd_T64 l0 a1).f0), .int .i64 ((rd_T64 l0 a1).f1), .slice none 0 0]) ?_ 2 _ rfl; (with_reducible repeat (first | refine bkd ?_ _ | refine blk_drew ?_ | refine bka ?_ _)); refine blk_put (cs := #[.string ((rd_T64 l0 a1).f0), .int .i64 0, .slice none 0 0]) ?_ 1 _ rfl; (with_reducible repeat (first | refine bkd ?_ _ | refine blk_drew ?_ | refine bka ?_ _)); refine blk_put (cs := #[.string (⟨#[]⟩ : ByteArray), .int .i64 0, .slice none 0 0]) ?_ 0 _ rfl; (with_reducible repeat (first | refine bkd ?_ _ | refine blk_drew ?_ | refine bka ?_ _)); exact BK218.out⟩, ⟨by repeat (first | (with_reducible first | exact HB.out | apply bal | apply pbd | apply bdr | refine below_set ?_ GE218.out) | exact HB.out)⟩⟩
        case rest =>
          clear HC8
          try clear c1
          try clear c2
          try clear p2
          try clear q2
          try clear hx2
          try clear c3
          try clear c3b0
          try clear c4
          try clear c4b0
          try clear c5
          try clear c5b0
          try clear c7
          try clear c12
          try clear hcz10_0
          try clear hcz10_1
          try clear hcz10_2
          try clear hcz14_0
          try clear hcz14_1
          try clear hcz14_2
          try clear hcz15_0
          try clear hcz15_1
          try clear hcz15_2
          try clear hcz7_0
          try clear hcz7_1
          try clear hcz7_2
          try clear hfz10_0
          try clear hfz10_1
          try clear hfz10_2
          try clear hfz14_0
          try clear hfz14_1
          try clear hfz14_2
          try clear hfz15_0
          try clear hfz15_1
          try clear hfz15_2
          try clear hfz7_0
          try clear hfz7_1
          try clear hfz7_2
          try clear hx217_0
          try clear hx217_1
          try clear hx217_2
          try clear p217
          try clear q217
          obtain ⟨kq, x24_7, rfl, HA, HJ7, BK218, HB⟩ := hcut
          cases kq with
          | zero => exact absurd HA.out (by simp [provisoref02_fault.j0])
          | succ kj7 =>
            have H := HA.out
            clear HA
            simp only [provisoref02_fault.j0] at H
            by_cases c16 : x24_7 = true
            · subst c16
              have H1 : (some 6) = some r := by rw [if_pos rfl] at H; exact H
              clear H
              have H := H1
              clear H1
              obtain rfl := Option.some.inj H
              go_wp2
              repeat (go_quiet (fail); try go_wp2)
              go_ret
              exact ⟨by first | rfl | (simp [errW_none, errW_some] <;> rfl) | (simp [*, errW_none, errW_some] <;> rfl), by repeat (first | (with_reducible first | exact HB.out | apply bal | apply pbd | apply bdr | refine below_set ?_ GE218.out) | exact HB.out)⟩
            · replace c16 := Bool.eq_false_iff.mpr c16
              subst c16
              have H1 : (provisoref02_fault.l0 kj7 l0 a1 0 ((rd_T64 l0 a1).f0) ((rd_T64 l0 a1).f1) ((rd_T64 l0 a1).f2)) = some r := by rw [if_neg (show ¬ (false = true) by decide)] at H; exact H
              clear H
              have H := H1
              clear H1
              have H' := amk H
              clear H
              go_wp2
              repeat (go_quiet (fail); try go_wp2)
              go_loopg [6] kj7 (fun kq v6 w' => ∃ (x6_2 : Int), v6 = .int .i64 x6_2 ∧ Aside0 (provisoref02_fault.l0 kq l0 a1 x6_2 ((rd_T64 l0 a1).f0) ((rd_T64 l0 a1).f1) ((rd_T64 l0 a1).f2) = some r) ∧ Aside0 (kq ≤ kj7) ∧ Aside0 (w'.heap[gb218]? = some (.cells #[.string ((rd_T64 l0 a1).f0), .int .i64 ((rd_T64 l0 a1).f1), (.slice A217_2 ((rd_T64 l0 a1).f2).length c217_2)] 64 (0, 0))) ∧ Aside0 (Below w.heap.size w w'))
              case atStart => exact ⟨(0), (by first | rfl | (simp; done) | (simp [*]; done)), H', ⟨Nat.le_refl _⟩, ⟨by (with_reducible repeat (first | refine bkd ?_ _ | refine blk_drew ?_ | refine bka ?_ _)); exact BK218.out⟩, ⟨by repeat (first | (with_reducible first | exact HB.out | apply bal | apply pbd | apply bdr | refine below_set ?_ GE218.out) | exact HB.out)⟩⟩
              case round =>
                clear H'
                try clear c1
                try clear c2
                try clear p2
                try clear q2
                try clear hx2
                try clear c3
                try clear c3b0
                try clear c4
                try clear c4b0
                try clear c5
                try clear c5b0
                try clear c7
                try clear c12
                try clear c16
                try clear hcz10_0
                try clear hcz10_1
                try clear hcz10_2
                try clear hcz14_0
                try clear hcz14_1
                try clear hcz14_2
                try clear hcz15_0
                try clear hcz15_1
                try clear hcz15_2
                try clear hcz7_0
                try clear hcz7_1
                try clear hcz7_2
                try clear hfz10_0
                try clear hfz10_1
                try clear hfz10_2
                try clear hfz14_0
                try clear hfz14_1
                try clear hfz14_2
                try clear hfz15_0
                try clear hfz15_1
                try clear hfz15_2
                try clear hfz7_0
                try clear hfz7_1
                try clear hfz7_2
                try clear hx217_0
                try clear hx217_1
                try clear hx217_2
                try clear p2
                try clear p217
                try clear q2
                try clear q217
                obtain ⟨x6_2, rfl, HA, HK2, BK218, HB⟩ := hrel
                cases gk with
                | zero => exact absurd HA.out (by simp [provisoref02_fault.l0])
                | succ k2 =>
                  have H := HA.out
                  clear HA
                  simp only [provisoref02_fault.l0] at H
                  by_cases c17 : x6_2 < a1
                  · rw [if_pos c17] at H
                    have c17b0 : decide (x6_2 < a1) = true := decide_eq_true c17
                    clear c17
                    by_cases c18 : 0 ≤ x6_2
                    · rw [if_pos c18] at H
                      have c18b0 : decide (0 ≤ x6_2) = true := decide_eq_true c18
                      clear c18
                      by_cases c19 : x6_2 < (l0.length : Int)
                      · rw [if_pos c19] at H
                        have c19b0 : decide (x6_2 < (l0.length : Int)) = true := decide_eq_true c19
                        clear c19
                        by_cases c20 : ((rd_T64 l0 x6_2).f0).toList = ((rd_T64 l0 a1).f0).toList
                        · rw [if_pos c20] at H
                          have c20b0 : (((rd_T64 l0 x6_2).f0).toList == ((rd_T64 l0 a1).f0).toList) = true := beq_iff_eq.mpr c20
                          have c20b1 : (((rd_T64 l0 x6_2).f0).toList != ((rd_T64 l0 a1).f0).toList) = false := bne_eq_false_iff_eq.mpr c20
                          clear c20
                          obtain rfl := Option.some.inj H
                          have p221 : 0 ≤ (x6_2 : Int) := of_decide_eq_true (by first | (with_reducible assumption) | assumption)
                          have q221 : x6_2 < (l0.length : Int) := of_decide_eq_true (by first | (with_reducible assumption) | assumption)
                          obtain ⟨ad221, A221_2, c221_2, e221, hx221_0, hx221_1, hx221_2, hl221_2, hi221_2⟩ := at_T64 HR0.out x6_2 p221 q221
                          obtain rfl : ad217 = ad221 := (by injection e221)
                          replace hx221_0 := (HB.out.cell (blc w _ hx221_0)).trans hx221_0
                          replace hx221_1 := (HB.out.cell (blc w _ hx221_1)).trans hx221_1
                          replace hx221_2 := (HB.out.cell (blc w _ hx221_2)).trans hx221_2
                          have HR221_2 := amk hi221_2
                          have HC221_2 := amk hl221_2
                          clear hi221_2 hl221_2
                          replace p221 := eq_true p221
                          replace q221 := eq_true q221
                          have hcz21_0 : wr.cell? ⟨gb218, 0, none⟩ = some (.string ((rd_T64 l0 a1).f0)) := (blk_cell BK218.out 0).trans rfl
                          have hcz21_1 : wr.cell? ⟨gb218, 1, none⟩ = some (.int .i64 ((rd_T64 l0 a1).f1)) := (blk_cell BK218.out 1).trans rfl
                          have hcz21_2 : wr.cell? ⟨gb218, 2, none⟩ = some (.slice A217_2 ((rd_T64 l0 a1).f2).length c217_2) := (blk_cell BK218.out 2).trans rfl
                          have hfz21_0 := bkf BK218.out 0
                          have hfz21_1 := bkf BK218.out 1
                          have hfz21_2 := bkf BK218.out 2
                          go_wp2
                          repeat (go_quiet (fail); try go_wp2)
                          go_ret
                          exact ⟨by first | rfl | (simp [errW_none, errW_some] <;> rfl) | (simp [*, errW_none, errW_some] <;> rfl), by repeat (first | (with_reducible first | exact HB.out | apply bal | apply pbd | apply bdr | refine below_set ?_ GE218.out) | exact HB.out)⟩
                        · rw [if_neg c20] at H
                          have c20b0 : (((rd_T64 l0 x6_2).f0).toList == ((rd_T64 l0 a1).f0).toList) = false := beq_eq_false_iff_ne.mpr c20
                          have c20b1 : (((rd_T64 l0 x6_2).f0).toList != ((rd_T64 l0 a1).f0).toList) = true := bne_iff_ne.mpr c20
                          have H' := amk H
                          clear H
                          have p221 : 0 ≤ (x6_2 : Int) := of_decide_eq_true (by first | (with_reducible assumption) | assumption)
                          have q221 : x6_2 < (l0.length : Int) := of_decide_eq_true (by first | (with_reducible assumption) | assumption)
                          obtain ⟨ad221, A221_2, c221_2, e221, hx221_0, hx221_1, hx221_2, hl221_2, hi221_2⟩ := at_T64 HR0.out x6_2 p221 q221
                          obtain rfl : ad217 = ad221 := (by injection e221)
                          replace hx221_0 := (HB.out.cell (blc w _ hx221_0)).trans hx221_0
                          replace hx221_1 := (HB.out.cell (blc w _ hx221_1)).trans hx221_1
                          replace hx221_2 := (HB.out.cell (blc w _ hx221_2)).trans hx221_2
                          have HR221_2 := amk hi221_2
                          have HC221_2 := amk hl221_2
                          clear hi221_2 hl221_2
                          replace p221 := eq_true p221
                          replace q221 := eq_true q221
                          have hcz22_0 : wr.cell? ⟨gb218, 0, none⟩ = some (.string ((rd_T64 l0 a1).f0)) := (blk_cell BK218.out 0).trans rfl
                          have hcz22_1 : wr.cell? ⟨gb218, 1, none⟩ = some (.int .i64 ((rd_T64 l0 a1).f1)) := (blk_cell BK218.out 1).trans rfl
                          have hcz22_2 : wr.cell? ⟨gb218, 2, none⟩ = some (.slice A217_2 ((rd_T64 l0 a1).f2).length c217_2) := (blk_cell BK218.out 2).trans rfl
                          have hfz22_0 := bkf BK218.out 0
                          have hfz22_1 := bkf BK218.out 1
                          have hfz22_2 := bkf BK218.out 2
                          go_wp2
                          repeat (go_quiet (fail); try go_wp2)
                          go_roundg k2
                          case measure => have := HJ7.out; have := HK2.out; omega
                          case rel => exact ⟨(wrap64 (x6_2 + 1)), (by first | rfl | (simp; done) | (simp [*]; done)), H', ⟨by have := HJ7.out; have := HK2.out; omega⟩, ⟨by (with_reducible repeat (first | refine bkd ?_ _ | refine blk_drew ?_ | refine bka ?_ _)); exact BK218.out⟩, ⟨by repeat (first | (with_reducible first | exact HB.out | apply bal | apply pbd | apply bdr | refine below_set ?_ GE218.out) | exact HB.out)⟩⟩
                      · rw [if_neg c19] at H
                        exact absurd H (by simp)
                    · rw [if_neg c18] at H
                      exact absurd H (by simp)
                  · rw [if_neg c17] at H
                    have c17b0 : decide (x6_2 < a1) = false := decide_eq_false c17
                    clear c17
                    have HC23 := amk H
                    clear H
                    go_upto_region 11 with (fail)
                    repeat (go_quiet (fail); go_upto_region 11 with (fail))
                    go_cut [46] (fun v46 wc => ∃ (kq : Nat) (x46_22 : Bool), v46 = .bool x46_22 ∧ Aside0 (provisoref02_fault.j2 kq l0 x46_22 ((rd_T64 l0 a1).f0) ((rd_T64 l0 a1).f1) ((rd_T64 l0 a1).f2) = some r) ∧ Aside0 (kq ≤ k2) ∧ Aside0 (wc.heap[gb218]? = some (.cells #[.string ((rd_T64 l0 a1).f0), .int .i64 ((rd_T64 l0 a1).f1), (.slice A217_2 ((rd_T64 l0 a1).f2).length c217_2)] 64 (0, 0))) ∧ Aside0 (Below w.heap.size w wc))
                    case first =>
                      have H := HC23.out
                      clear HC23
                      by_cases c24 : ((rd_T64 l0 a1).f1) < (-1)
                      · rw [if_pos c24] at H
                        have c24b0 : decide (((rd_T64 l0 a1).f1) < (-1)) = true := decide_eq_true c24
                        clear c24
                        (first | rw [c24b0] | (simp only [i64_w, i32_w]; rw [c24b0]) | skip)
                        have H' := amk H
                        clear H
                        have hcz25_0 : wr.cell? ⟨gb218, 0, none⟩ = some (.string ((rd_T64 l0 a1).f0)) := (blk_cell BK218.out 0).trans rfl
                        have hcz25_1 : wr.cell? ⟨gb218, 1, none⟩ = some (.int .i64 ((rd_T64 l0 a1).f1)) := (blk_cell BK218.out 1).trans rfl
                        have hcz25_2 : wr.cell? ⟨gb218, 2, none⟩ = some (.slice A217_2 ((rd_T64 l0 a1).f2).length c217_2) := (blk_cell BK218.out 2).trans rfl
                        have hfz25_0 := bkf BK218.out 0
                        have hfz25_1 := bkf BK218.out 1
                        have hfz25_2 := bkf BK218.out 2
                        go_wp2
                        repeat (go_quiet (fail); try go_wp2)
                        go_meet
                        case rel => exact ⟨_, (true), (by first | rfl | (simp; done) | (simp [*]; done)), H', ⟨by have := HJ7.out; have := HK2.out; first | omega | exact Nat.le_refl _⟩, ⟨by (with_reducible repeat (first | refine bkd ?_ _ | refine blk_drew ?_ | refine bka ?_ _)); exact BK218.out⟩, ⟨by repeat (first | (with_reducible first | exact HB.out | apply bal | apply pbd | apply bdr | refine below_set ?_ GE218.out) | exact HB.out)⟩⟩
                      · rw [if_neg c24] at H
                        have c24b0 : decide (((rd_T64 l0 a1).f1) < (-1)) = false := decide_eq_false c24
                        clear c24
                        (first | rw [c24b0] | (simp only [i64_w, i32_w]; rw [c24b0]) | skip)
                        have H' := amk H
                        clear H
                        have hcz26_0 : wr.cell? ⟨gb218, 0, none⟩ = some (.string ((rd_T64 l0 a1).f0)) := (blk_cell BK218.out 0).trans rfl
                        have hcz26_1 : wr.cell? ⟨gb218, 1, none⟩ = some (.int .i64 ((rd_T64 l0 a1).f1)) := (blk_cell BK218.out 1).trans rfl
                        have hcz26_2 : wr.cell? ⟨gb218, 2, none⟩ = some (.slice A217_2 ((rd_T64 l0 a1).f2).length c217_2) := (blk_cell BK218.out 2).trans rfl
                        have hfz26_0 := bkf BK218.out 0
                        have hfz26_1 := bkf BK218.out 1
                        have hfz26_2 := bkf BK218.out 2
                        go_wp2
                        repeat (go_quiet (fail); try go_wp2)
                        go_meet
                        case rel => exact ⟨_, (decide (((rd_T64 l0 a1).f1) ≥ a1)), (by first | rfl | (simp; done) | (simp [*]; done)), H', ⟨by have := HJ7.out; have := HK2.out; first | omega | exact Nat.le_refl _⟩, ⟨by (with_reducible repeat (first | refine bkd ?_ _ | refine blk_drew ?_ | refine bka ?_ _)); exact BK218.out⟩, ⟨by repeat (first | (with_reducible first | exact HB.out | apply bal | apply pbd | apply bdr | refine below_set ?_ GE218.out) | exact HB.out)⟩⟩
                    case rest =>
                      clear HC23
                      try clear c1
                      try clear c2
                      try clear p2
                      try clear q2
                      try clear hx2
                      try clear c3
                      try clear c3b0
                      try clear c4
                      try clear c4b0
                      try clear c5
                      try clear c5b0
                      try clear p6
                      try clear c7
                      try clear c12
                      try clear c16
                      try clear c17
                      try clear c17b0
                      try clear c18
                      try clear c18b0
                      try clear c19
                      try clear c19b0
                      try clear c20
                      try clear c20b0
                      try clear c20b1
                      try clear c21
                      try clear p21
                      try clear q21
                      try clear hx21
                      try clear c22
                      try clear p22
                      try clear q22
                      try clear hx22
                      try clear c24
                      try clear c24b0
                      try clear hcz10_0
                      try clear hcz10_1
                      try clear hcz10_2
                      try clear hcz14_0
                      try clear hcz14_1
                      try clear hcz14_2
                      try clear hcz15_0
                      try clear hcz15_1
                      try clear hcz15_2
                      try clear hcz21_0
                      try clear hcz21_1
                      try clear hcz21_2
                      try clear hcz22_0
                      try clear hcz22_1
                      try clear hcz22_2
                      try clear hcz25_0
                      try clear hcz25_1
                      try clear hcz25_2
                      try clear hcz26_0
                      try clear hcz26_1
                      try clear hcz26_2
                      try clear hcz7_0
                      try clear hcz7_1
                      try clear hcz7_2
                      try clear hfz10_0
                      try clear hfz10_1
                      try clear hfz10_2
                      try clear hfz14_0
                      try clear hfz14_1
                      try clear hfz14_2
                      try clear hfz15_0
                      try clear hfz15_1
                      try clear hfz15_2
                      try clear hfz21_0
                      try clear hfz21_1
                      try clear hfz21_2
                      try clear hfz22_0
                      try clear hfz22_1
                      try clear hfz22_2
                      try clear hfz25_0
                      try clear hfz25_1
                      try clear hfz25_2
                      try clear hfz26_0
                      try clear hfz26_1
                      try clear hfz26_2
                      try clear hfz7_0
                      try clear hfz7_1
                      try clear hfz7_2
                      try clear hx217_0
                      try clear hx217_1
                      try clear hx217_2
                      try clear hx221_0
                      try clear hx221_1
                      try clear hx221_2
                      try clear p2
                      try clear p217
                      try clear p221
                      try clear q2
                      try clear q217
                      try clear q221
                      obtain ⟨kq, x46_22, rfl, HA, HJ22, BK218, HB⟩ := hcut
                      cases kq with
                      | zero => exact absurd HA.out (by simp [provisoref02_fault.j2])
                      | succ kj22 =>
                        have H := HA.out
                        clear HA
                        simp only [provisoref02_fault.j2] at H
                        by_cases c27 : x46_22 = true
                        · subst c27
                          have H1 : (some 21) = some r := by rw [if_pos rfl] at H; exact H
                          clear H
                          have H := H1
                          clear H1
                          obtain rfl := Option.some.inj H
                          go_wp2
                          repeat (go_quiet (fail); try go_wp2)
                          go_ret
                          exact ⟨by first | rfl | (simp [errW_none, errW_some] <;> rfl) | (simp [*, errW_none, errW_some] <;> rfl), by repeat (first | (with_reducible first | exact HB.out | apply bal | apply pbd | apply bdr | refine below_set ?_ GE218.out) | exact HB.out)⟩
                        · replace c27 := Bool.eq_false_iff.mpr c27
                          subst c27
                          have H1 : ((provisoref02_Fields.f kj22 l0 ((rd_T64 l0 a1).f1)).bind fun t222 => (provisoref02_fault.l1 kj22 l0 t222 0 ((rd_T64 l0 a1).f0) ((rd_T64 l0 a1).f1) ((rd_T64 l0 a1).f2))) = some r := by rw [if_neg (show ¬ (false = true) by decide)] at H; exact H
                          clear H
                          have H := H1
                          clear H1
                          replace H := Option.bind_eq_some_iff.mp H
                          obtain ⟨t222, A280, H⟩ := H
                          replace H : (provisoref02_fault.l1 kj22 l0 t222 0 ((rd_T64 l0 a1).f0) ((rd_T64 l0 a1).f1) ((rd_T64 l0 a1).f2)) = some r := H
                          have A28 := amk A280
                          clear A280
                          have H' := amk H
                          clear H
                          have hcz29_0 : wc.cell? ⟨gb218, 0, none⟩ = some (.string ((rd_T64 l0 a1).f0)) := (blk_cell BK218.out 0).trans rfl
                          have hcz29_1 : wc.cell? ⟨gb218, 1, none⟩ = some (.int .i64 ((rd_T64 l0 a1).f1)) := (blk_cell BK218.out 1).trans rfl
                          have hcz29_2 : wc.cell? ⟨gb218, 2, none⟩ = some (.slice A217_2 ((rd_T64 l0 a1).f2).length c217_2) := (blk_cell BK218.out 2).trans rfl
                          have hfz29_0 := bkf BK218.out 0
                          have hfz29_1 := bkf BK218.out 1
                          have hfz29_2 := bkf BK218.out 2
                          go_wp2_with (first | (go_at_call 113; (with_reducible refine (provisoref02_Fields.calls kj22 _ _ l0 ((rd_T64 l0 a1).f1) t222 _ ?side1 ?side2 A28.out).mono ?_); (case side1 => repeat (first | exact (Kd.C_below HR0.out HB.out) | (with_reducible refine Kd.C_alloc ?_ _) | (with_reducible refine Kd.C_drewN ?_ _) | (with_reducible refine Kd.C_drew ?_))); (case side2 => exact HC0.out); rintro e w30 ⟨v223, rfl, ho0, hb⟩; have n0_ := amk (Kd.R_lower ho0 (below_size (by repeat (first | (with_reducible first | exact HB.out | apply bal | apply pbd | apply bdr | refine below_set ?_ GE218.out) | exact HB.out)))); have n1_ := amk (blk_below (g := gb218) (o := .cells #[.string ((rd_T64 l0 a1).f0), .int .i64 ((rd_T64 l0 a1).f1), .slice A217_2 ((rd_T64 l0 a1).f2).length c217_2] 64 (0, 0)) (by (with_reducible repeat (first | refine bkd ?_ _ | refine blk_drew ?_ | refine bka ?_ _)); exact BK218.out) hb); have n2_ := amk (below_step (by repeat (first | (with_reducible first | exact HB.out | apply bal | apply pbd | apply bdr | refine below_set ?_ GE218.out) | exact HB.out)) hb); clear BK218; clear HB; have HO224 := n0_; have BK218 := n1_; have HB := n2_; clear n0_ n1_ n2_; (try clear hb); (try clear hb2); (try clear hk); (try clear hi); (try clear ho0)))
                          repeat (go_quiet (first | (go_at_call 113; (with_reducible refine (provisoref02_Fields.calls kj22 _ _ l0 ((rd_T64 l0 a1).f1) t222 _ ?side1 ?side2 A28.out).mono ?_); (case side1 => repeat (first | exact (Kd.C_below HR0.out HB.out) | (with_reducible refine Kd.C_alloc ?_ _) | (with_reducible refine Kd.C_drewN ?_ _) | (with_reducible refine Kd.C_drew ?_))); (case side2 => exact HC0.out); rintro e w30 ⟨v223, rfl, ho0, hb⟩; have n0_ := amk (Kd.R_lower ho0 (below_size (by repeat (first | (with_reducible first | exact HB.out | apply bal | apply pbd | apply bdr | refine below_set ?_ GE218.out) | exact HB.out)))); have n1_ := amk (blk_below (g := gb218) (o := .cells #[.string ((rd_T64 l0 a1).f0), .int .i64 ((rd_T64 l0 a1).f1), .slice A217_2 ((rd_T64 l0 a1).f2).length c217_2] 64 (0, 0)) (by (with_reducible repeat (first | refine bkd ?_ _ | refine blk_drew ?_ | refine bka ?_ _)); exact BK218.out) hb); have n2_ := amk (below_step (by repeat (first | (with_reducible first | exact HB.out | apply bal | apply pbd | apply bdr | refine below_set ?_ GE218.out) | exact HB.out)) hb); clear BK218; clear HB; have HO224 := n0_; have BK218 := n1_; have HB := n2_; clear n0_ n1_ n2_; (try clear hb); (try clear hb2); (try clear hk); (try clear hi); (try clear ho0))); try go_wp2_with (first | (go_at_call 113; (with_reducible refine (provisoref02_Fields.calls kj22 _ _ l0 ((rd_T64 l0 a1).f1) t222 _ ?side1 ?side2 A28.out).mono ?_); (case side1 => repeat (first | exact (Kd.C_below HR0.out HB.out) | (with_reducible refine Kd.C_alloc ?_ _) | (with_reducible refine Kd.C_drewN ?_ _) | (with_reducible refine Kd.C_drew ?_))); (case side2 => exact HC0.out); rintro e w30 ⟨v223, rfl, ho0, hb⟩; have n0_ := amk (Kd.R_lower ho0 (below_size (by repeat (first | (with_reducible first | exact HB.out | apply bal | apply pbd | apply bdr | refine below_set ?_ GE218.out) | exact HB.out)))); have n1_ := amk (blk_below (g := gb218) (o := .cells #[.string ((rd_T64 l0 a1).f0), .int .i64 ((rd_T64 l0 a1).f1), .slice A217_2 ((rd_T64 l0 a1).f2).length c217_2] 64 (0, 0)) (by (with_reducible repeat (first | refine bkd ?_ _ | refine blk_drew ?_ | refine bka ?_ _)); exact BK218.out) hb); have n2_ := amk (below_step (by repeat (first | (with_reducible first | exact HB.out | apply bal | apply pbd | apply bdr | refine below_set ?_ GE218.out) | exact HB.out)) hb); clear BK218; clear HB; have HO224 := n0_; have BK218 := n1_; have HB := n2_; clear n0_ n1_ n2_; (try clear hb); (try clear hb2); (try clear hk); (try clear hi); (try clear ho0))))
                          go_loopg [8] kj22 (fun kq v8 w' => ∃ (x8_4 : Int), v8 = .int .i64 x8_4 ∧ Aside0 (provisoref02_fault.l1 kq l0 t222 x8_4 ((rd_T64 l0 a1).f0) ((rd_T64 l0 a1).f1) ((rd_T64 l0 a1).f2) = some r) ∧ Aside0 (kq ≤ kj22) ∧ Aside0 (Kd.R k99 99 w' w.heap.size (fun _ => True) v223 t222) ∧ Aside0 (w'.heap[gb218]? = some (.cells #[.string ((rd_T64 l0 a1).f0), .int .i64 ((rd_T64 l0 a1).f1), (.slice A217_2 ((rd_T64 l0 a1).f2).length c217_2)] 64 (0, 0))) ∧ Aside0 (Below w.heap.size w w'))
                          case atStart => exact ⟨(0), (by first | rfl | (simp; done) | (simp [*]; done)), H', ⟨Nat.le_refl _⟩, ⟨by (with_reducible repeat (first | apply Kd.R_alloc | apply Kd.R_drewN | apply Kd.R_drew)); exact HO224.out⟩, ⟨by (with_reducible repeat (first | refine bkd ?_ _ | refine blk_drew ?_ | refine bka ?_ _)); exact BK218.out⟩, ⟨by repeat (first | (with_reducible first | exact HB.out | apply bal | apply pbd | apply bdr | refine below_set ?_ GE218.out) | exact HB.out)⟩⟩
                          case round =>
                            clear H'
                            try clear c1
                            try clear c2
                            try clear p2
                            try clear q2
                            try clear hx2
                            try clear c3
                            try clear c3b0
                            try clear c4
                            try clear c4b0
                            try clear c5
                            try clear c5b0
                            try clear p6
                            try clear c7
                            try clear c12
                            try clear c16
                            try clear c17
                            try clear c17b0
                            try clear c18
                            try clear c18b0
                            try clear c19
                            try clear c19b0
                            try clear c20
                            try clear c20b0
                            try clear c20b1
                            try clear c21
                            try clear p21
                            try clear q21
                            try clear hx21
                            try clear c22
                            try clear p22
                            try clear q22
                            try clear hx22
                            try clear c24
                            try clear c24b0
                            try clear c27
                            try clear hcz10_0
                            try clear hcz10_1
                            try clear hcz10_2
                            try clear hcz14_0
                            try clear hcz14_1
                            try clear hcz14_2
                            try clear hcz15_0
                            try clear hcz15_1
                            try clear hcz15_2
                            try clear hcz21_0
                            try clear hcz21_1
                            try clear hcz21_2
                            try clear hcz22_0
                            try clear hcz22_1
                            try clear hcz22_2
                            try clear hcz25_0
                            try clear hcz25_1
                            try clear hcz25_2
                            try clear hcz26_0
                            try clear hcz26_1
                            try clear hcz26_2
                            try clear hcz29_0
                            try clear hcz29_1
                            try clear hcz29_2
                            try clear hcz7_0
                            try clear hcz7_1
                            try clear hcz7_2
                            try clear hfz10_0
                            try clear hfz10_1
                            try clear hfz10_2
                            try clear hfz14_0
                            try clear hfz14_1
                            try clear hfz14_2
                            try clear hfz15_0
                            try clear hfz15_1
                            try clear hfz15_2
                            try clear hfz21_0
                            try clear hfz21_1
                            try clear hfz21_2
                            try clear hfz22_0
                            try clear hfz22_1
                            try clear hfz22_2
                            try clear hfz25_0
                            try clear hfz25_1
                            try clear hfz25_2
                            try clear hfz26_0
                            try clear hfz26_1
                            try clear hfz26_2
                            try clear hfz29_0
                            try clear hfz29_1
                            try clear hfz29_2
                            try clear hfz7_0
                            try clear hfz7_1
                            try clear hfz7_2
                            try clear hx217_0
                            try clear hx217_1
                            try clear hx217_2
                            try clear hx221_0
                            try clear hx221_1
                            try clear hx221_2
                            try clear p2
                            try clear p21
                            try clear p217
                            try clear p22
                            try clear p221
                            try clear p6
                            try clear q2
                            try clear q21
                            try clear q217
                            try clear q22
                            try clear q221
                            obtain ⟨x8_4, rfl, HA, HK4, HO_7, BK218, HB⟩ := hrel
                            cases gk with
                            | zero => exact absurd HA.out (by simp [provisoref02_fault.l1])
                            | succ k4 =>
                              have H := HA.out
                              clear HA
                              simp only [provisoref02_fault.l1] at H
                              by_cases c31 : x8_4 < (((rd_T64 l0 a1).f2).length : Int)
                              · rw [if_pos c31] at H
                                have c31b0 : decide (x8_4 < (((rd_T64 l0 a1).f2).length : Int)) = true := decide_eq_true c31
                                clear c31
                                by_cases c32 : 0 ≤ x8_4
                                · rw [if_pos c32] at H
                                  have c32b0 : decide (0 ≤ x8_4) = true := decide_eq_true c32
                                  clear c32
                                  replace H := Option.bind_eq_some_iff.mp H
                                  obtain ⟨t227, A330, H⟩ := H
                                  replace H : (if t227 = true then ((provisoref02_has.f k4 t222 ((rd_T99 ((rd_T64 l0 a1).f2) x8_4).f0)).bind fun t228 => (if t228 = true then (some 20) else (if x8_4 ≤ (((rd_T64 l0 a1).f2).length : Int) then ((provisoref02_has.f k4 (((rd_T64 l0 a1).f2).take (x8_4 : Int).toNat) ((rd_T99 ((rd_T64 l0 a1).f2) x8_4).f0)).bind fun t233 => (if t233 = true then (some 20) else ((provisoref02_Stored.f l0 ((rd_T99 ((rd_T64 l0 a1).f2) x8_4).f1)).bind fun t234 => (if t234 = true then (provisoref02_fault.l1 k4 l0 t222 (wrap64 (x8_4 + 1)) ((rd_T64 l0 a1).f0) ((rd_T64 l0 a1).f1) ((rd_T64 l0 a1).f2)) else (some 22))))) else (none)))) else (some 6)) = some r := H
                                  have A33 := amk A330
                                  clear A330
                                  by_cases c34 : t227 = true
                                  · subst c34
                                    have H1 : ((provisoref02_has.f k4 t222 ((rd_T99 ((rd_T64 l0 a1).f2) x8_4).f0)).bind fun t228 => (if t228 = true then (some 20) else (if x8_4 ≤ (((rd_T64 l0 a1).f2).length : Int) then ((provisoref02_has.f k4 (((rd_T64 l0 a1).f2).take (x8_4 : Int).toNat) ((rd_T99 ((rd_T64 l0 a1).f2) x8_4).f0)).bind fun t233 => (if t233 = true then (some 20) else ((provisoref02_Stored.f l0 ((rd_T99 ((rd_T64 l0 a1).f2) x8_4).f1)).bind fun t234 => (if t234 = true then (provisoref02_fault.l1 k4 l0 t222 (wrap64 (x8_4 + 1)) ((rd_T64 l0 a1).f0) ((rd_T64 l0 a1).f1) ((rd_T64 l0 a1).f2)) else (some 22))))) else (none)))) = some r := by rw [if_pos rfl] at H; exact H
                                    clear H
                                    have H := H1
                                    clear H1
                                    replace H := Option.bind_eq_some_iff.mp H
                                    obtain ⟨t228, A350, H⟩ := H
                                    replace H : (if t228 = true then (some 20) else (if x8_4 ≤ (((rd_T64 l0 a1).f2).length : Int) then ((provisoref02_has.f k4 (((rd_T64 l0 a1).f2).take (x8_4 : Int).toNat) ((rd_T99 ((rd_T64 l0 a1).f2) x8_4).f0)).bind fun t233 => (if t233 = true then (some 20) else ((provisoref02_Stored.f l0 ((rd_T99 ((rd_T64 l0 a1).f2) x8_4).f1)).bind fun t234 => (if t234 = true then (provisoref02_fault.l1 k4 l0 t222 (wrap64 (x8_4 + 1)) ((rd_T64 l0 a1).f0) ((rd_T64 l0 a1).f1) ((rd_T64 l0 a1).f2)) else (some 22))))) else (none))) = some r := H
                                    have A35 := amk A350
                                    clear A350
                                    by_cases c36 : t228 = true
                                    · subst c36
                                      have H1 : (some 20) = some r := by rw [if_pos rfl] at H; exact H
                                      clear H
                                      have H := H1
                                      clear H1
                                      obtain rfl := Option.some.inj H
                                      have hcz37_0 : wr.cell? ⟨gb218, 0, none⟩ = some (.string ((rd_T64 l0 a1).f0)) := (blk_cell BK218.out 0).trans rfl
                                      have hcz37_1 : wr.cell? ⟨gb218, 1, none⟩ = some (.int .i64 ((rd_T64 l0 a1).f1)) := (blk_cell BK218.out 1).trans rfl
                                      have hcz37_2 : wr.cell? ⟨gb218, 2, none⟩ = some (.slice A217_2 ((rd_T64 l0 a1).f2).length c217_2) := (blk_cell BK218.out 2).trans rfl
                                      have hfz37_0 := bkf BK218.out 0
                                      have hfz37_1 := bkf BK218.out 1
                                      have hfz37_2 := bkf BK218.out 2
                                      have p225 : 0 ≤ (x8_4 : Int) := of_decide_eq_true (by first | (with_reducible assumption) | assumption)
                                      have q225 : x8_4 < (((rd_T64 l0 a1).f2).length : Int) := of_decide_eq_true (by first | (with_reducible assumption) | assumption)
                                      obtain ⟨ad225, e225, hx225_0, hx225_1⟩ := at_T99 HR217_2.out x8_4 p225 q225
                                      cases e225
                                      replace hx225_0 := (HB.out.cell (blc w _ hx225_0)).trans hx225_0
                                      replace hx225_1 := (HB.out.cell (blc w _ hx225_1)).trans hx225_1
                                      replace p225 := eq_true p225
                                      replace q225 := eq_true q225
                                      go_wp2_with (first | ((with_reducible refine gate_dst (N := 9) rfl ?_); refine box_event ?hg (N := 9) ?hd (cs := #[.string (⟨#[]⟩ : ByteArray), .int .u8 0]) (t := 99) ?hr ?_; (case hd => rfl); (case hg => rfl); (case hr => first | (go_simp; done) | (go_simp; rfl)); intro gb226 hg w38 hbox hb; have n0_ := amk (Kd.R_below (Kd.R_elderB (by (with_reducible repeat (first | apply Kd.R_alloc | apply Kd.R_drewN | apply Kd.R_drew)); exact HO_7.out) gb226 (Nat.le_of_eq hg.symm)) hb); have n1_ := amk (blk_below (g := gb218) (o := .cells #[.string ((rd_T64 l0 a1).f0), .int .i64 ((rd_T64 l0 a1).f1), .slice (some ad225) ((rd_T64 l0 a1).f2).length c217_2] 64 (0, 0)) (by (with_reducible repeat (first | refine bkd ?_ _ | refine blk_drew ?_ | refine bka ?_ _)); exact BK218.out) hb); have n2_ := amk (below_step (by repeat (first | (with_reducible first | exact HB.out | apply bal | apply pbd | apply bdr | refine below_set ?_ GE218.out) | exact HB.out)) hb); have n3_ := amk (hbox); have n4_ := amk ((by rw [hg]; exact (below_size (by repeat (first | (with_reducible first | exact HB.out | apply bal | apply pbd | apply bdr | refine below_set ?_ GE218.out) | exact HB.out))) : w.heap.size ≤ gb226)); have n5_ := amk ((by rw [hg]; exact (below_size (by repeat (first | (with_reducible first | exact HB.out | apply bal | apply pbd | apply bdr | refine below_set ?_ GE218.out) | exact HB.out))) : w.heap.size ≤ gb226)); have n6_ := amk ((by rw [hg]; exact Nat.ne_of_lt (blk_lt (g := gb218) (o := .cells #[.string ((rd_T64 l0 a1).f0), .int .i64 ((rd_T64 l0 a1).f1), .slice (some ad225) ((rd_T64 l0 a1).f2).length c217_2] 64 (0, 0)) (by (with_reducible repeat (first | refine bkd ?_ _ | refine blk_drew ?_ | refine bka ?_ _)); exact BK218.out)) : gb218 ≠ gb226)); have n7_ := amk ((by rw [hg]; exact Nat.ne_of_gt (blk_lt (g := gb218) (o := .cells #[.string ((rd_T64 l0 a1).f0), .int .i64 ((rd_T64 l0 a1).f1), .slice (some ad225) ((rd_T64 l0 a1).f2).length c217_2] 64 (0, 0)) (by (with_reducible repeat (first | refine bkd ?_ _ | refine blk_drew ?_ | refine bka ?_ _)); exact BK218.out)) : gb226 ≠ gb218)); clear HO_7; clear BK218; clear HB; have HO_7 := n0_; have BK218 := n1_; have HB := n2_; have BK226 := n3_; have GW226 := n4_; have GE226 := n5_; have NB218_226 := n6_; have NB226_218 := n7_; clear n0_ n1_ n2_ n3_ n4_ n5_ n6_ n7_; clear hb hbox hg; have hnb39 := NB226_218.out; have hnc39 := NB218_226.out; have hcz40_0 : w38.cell? ⟨gb226, 0, none⟩ = some (.string (⟨#[]⟩ : ByteArray)) := (blk_cell BK226.out 0).trans rfl; have hcz40_1 : w38.cell? ⟨gb226, 1, none⟩ = some (.int .u8 0) := (blk_cell BK226.out 1).trans rfl; have hfz40_0 := bkf BK226.out 0; have hfz40_1 := bkf BK226.out 1) | (go_at_call 40; (with_reducible refine (provisoref02_IsName.calls k4 ((rd_T99 ((rd_T64 l0 a1).f2) x8_4).f0) true _ A33.out).mono ?_); rintro e w' ⟨rfl, ⟨nd, rfl⟩⟩; (try first | exact ⟨rfl, _, World.drewN_drewN _ _ _⟩ | exact ⟨rfl, _, Eq.trans (World.drewN_drewN _ _ _) (congrArg (World.drewN _) (Nat.add_assoc _ _ _))⟩); obtain ⟨Ao41, co41, eo41⟩ := Kd.R_slice HO_7.out; subst eo41) | (go_at_call 114; (with_reducible refine (provisoref02_has.calls k4 _ _ t222 ((rd_T99 ((rd_T64 l0 a1).f2) x8_4).f0) true _ ?side1 ?side2 A35.out).mono ?_); (case side1 => refine (Kd.R_reads' (e := 99) (base := w.heap.size) (ok := fun k_ => (True ∧ k_ ≠ gb226)) (n := t222.length) (c := co41) ?_).2.2; exact (by (with_reducible repeat (first | apply Kd.R_alloc | apply Kd.R_drewN | apply Kd.R_drew)); exact (Kd.R_mono (Kd.R_far (p := ⟨gb226, 1, none⟩) (Kd.R_far (p := ⟨gb226, 0, none⟩) (Kd.R_mono HO_7.out (fun k_ hk => (⟨hk, hk.2⟩ : _ ∧ k_ ≠ gb226))) (fun _ hk => hk.2) (.string ((rd_T99 ((rd_T64 l0 a1).f2) x8_4).f0))) (fun _ hk => hk.2) (.int .u8 ((rd_T99 ((rd_T64 l0 a1).f2) x8_4).f1))) (fun _ h_ => h_.1)))); (case side2 => exact (Kd.R_reads' HO_7.out).2.1); rintro e w' ⟨rfl, ⟨nd, rfl⟩⟩; (try first | exact ⟨rfl, _, World.drewN_drewN _ _ _⟩ | exact ⟨rfl, _, Eq.trans (World.drewN_drewN _ _ _) (congrArg (World.drewN _) (Nat.add_assoc _ _ _))⟩)))
                                      repeat (go_quiet (first | ((with_reducible refine gate_dst (N := 9) rfl ?_); refine box_event ?hg (N := 9) ?hd (cs := #[.string (⟨#[]⟩ : ByteArray), .int .u8 0]) (t := 99) ?hr ?_; (case hd => rfl); (case hg => rfl); (case hr => first | (go_simp; done) | (go_simp; rfl)); intro gb226 hg w38 hbox hb; have n0_ := amk (Kd.R_below (Kd.R_elderB (by (with_reducible repeat (first | apply Kd.R_alloc | apply Kd.R_drewN | apply Kd.R_drew)); exact HO_7.out) gb226 (Nat.le_of_eq hg.symm)) hb); have n1_ := amk (blk_below (g := gb218) (o := .cells #[.string ((rd_T64 l0 a1).f0), .int .i64 ((rd_T64 l0 a1).f1), .slice (some ad225) ((rd_T64 l0 a1).f2).length c217_2] 64 (0, 0)) (by (with_reducible repeat (first | refine bkd ?_ _ | refine blk_drew ?_ | refine bka ?_ _)); exact BK218.out) hb); have n2_ := amk (below_step (by repeat (first | (with_reducible first | exact HB.out | apply bal | apply pbd | apply bdr | refine below_set ?_ GE218.out) | exact HB.out)) hb); have n3_ := amk (hbox); have n4_ := amk ((by rw [hg]; exact (below_size (by repeat (first | (with_reducible first | exact HB.out | apply bal | apply pbd | apply bdr | refine below_set ?_ GE218.out) | exact HB.out))) : w.heap.size ≤ gb226)); have n5_ := amk ((by rw [hg]; exact (below_size (by repeat (first | (with_reducible first | exact HB.out | apply bal | apply pbd | apply bdr | refine below_set ?_ GE218.out) | exact HB.out))) : w.heap.size ≤ gb226)); have n6_ := amk ((by rw [hg]; exact Nat.ne_of_lt (blk_lt (g := gb218) (o := .cells #[.string ((rd_T64 l0 a1).f0), .int .i64 ((rd_T64 l0 a1).f1), .slice (some ad225) ((rd_T64 l0 a1).f2).length c217_2] 64 (0, 0)) (by (with_reducible repeat (first | refine bkd ?_ _ | refine blk_drew ?_ | refine bka ?_ _)); exact BK218.out)) : gb218 ≠ gb226)); have n7_ := amk ((by rw [hg]; exact Nat.ne_of_gt (blk_lt (g := gb218) (o := .cells #[.string ((rd_T64 l0 a1).f0), .int .i64 ((rd_T64 l0 a1).f1), .slice (some ad225) ((rd_T64 l0 a1).f2).length c217_2] 64 (0, 0)) (by (with_reducible repeat (first | refine bkd ?_ _ | refine blk_drew ?_ | refine bka ?_ _)); exact BK218.out)) : gb226 ≠ gb218)); clear HO_7; clear BK218; clear HB; have HO_7 := n0_; have BK218 := n1_; have HB := n2_; have BK226 := n3_; have GW226 := n4_; have GE226 := n5_; have NB218_226 := n6_; have NB226_218 := n7_; clear n0_ n1_ n2_ n3_ n4_ n5_ n6_ n7_; clear hb hbox hg; have hnb39 := NB226_218.out; have hnc39 := NB218_226.out; have hcz40_0 : w38.cell? ⟨gb226, 0, none⟩ = some (.string (⟨#[]⟩ : ByteArray)) := (blk_cell BK226.out 0).trans rfl; have hcz40_1 : w38.cell? ⟨gb226, 1, none⟩ = some (.int .u8 0) := (blk_cell BK226.out 1).trans rfl; have hfz40_0 := bkf BK226.out 0; have hfz40_1 := bkf BK226.out 1) | (go_at_call 40; (with_reducible refine (provisoref02_IsName.calls k4 ((rd_T99 ((rd_T64 l0 a1).f2) x8_4).f0) true _ A33.out).mono ?_); rintro e w' ⟨rfl, ⟨nd, rfl⟩⟩; (try first | exact ⟨rfl, _, World.drewN_drewN _ _ _⟩ | exact ⟨rfl, _, Eq.trans (World.drewN_drewN _ _ _) (congrArg (World.drewN _) (Nat.add_assoc _ _ _))⟩); obtain ⟨Ao41, co41, eo41⟩ := Kd.R_slice HO_7.out; subst eo41) | (go_at_call 114; (with_reducible refine (provisoref02_has.calls k4 _ _ t222 ((rd_T99 ((rd_T64 l0 a1).f2) x8_4).f0) true _ ?side1 ?side2 A35.out).mono ?_); (case side1 => refine (Kd.R_reads' (e := 99) (base := w.heap.size) (ok := fun k_ => (True ∧ k_ ≠ gb226)) (n := t222.length) (c := co41) ?_).2.2; exact (by (with_reducible repeat (first | apply Kd.R_alloc | apply Kd.R_drewN | apply Kd.R_drew)); exact (Kd.R_mono (Kd.R_far (p := ⟨gb226, 1, none⟩) (Kd.R_far (p := ⟨gb226, 0, none⟩) (Kd.R_mono HO_7.out (fun k_ hk => (⟨hk, hk.2⟩ : _ ∧ k_ ≠ gb226))) (fun _ hk => hk.2) (.string ((rd_T99 ((rd_T64 l0 a1).f2) x8_4).f0))) (fun _ hk => hk.2) (.int .u8 ((rd_T99 ((rd_T64 l0 a1).f2) x8_4).f1))) (fun _ h_ => h_.1)))); (case side2 => exact (Kd.R_reads' HO_7.out).2.1); rintro e w' ⟨rfl, ⟨nd, rfl⟩⟩; (try first | exact ⟨rfl, _, World.drewN_drewN _ _ _⟩ | exact ⟨rfl, _, Eq.trans (World.drewN_drewN _ _ _) (congrArg (World.drewN _) (Nat.add_assoc _ _ _))⟩))); try go_wp2_with (first | ((with_reducible refine gate_dst (N := 9) rfl ?_); refine box_event ?hg (N := 9) ?hd (cs := #[.string (⟨#[]⟩ : ByteArray), .int .u8 0]) (t := 99) ?hr ?_; (case hd => rfl); (case hg => rfl); (case hr => first | (go_simp; done) | (go_simp; rfl)); intro gb226 hg w38 hbox hb; have n0_ := amk (Kd.R_below (Kd.R_elderB (by (with_reducible repeat (first | apply Kd.R_alloc | apply Kd.R_drewN | apply Kd.R_drew)); exact HO_7.out) gb226 (Nat.le_of_eq hg.symm)) hb); have n1_ := amk (blk_below (g := gb218) (o := .cells #[.string ((rd_T64 l0 a1).f0), .int .i64 ((rd_T64 l0 a1).f1), .slice (some ad225) ((rd_T64 l0 a1).f2).length c217_2] 64 (0, 0)) (by (with_reducible repeat (first | refine bkd ?_ _ | refine blk_drew ?_ | refine bka ?_ _)); exact BK218.out) hb); have n2_ := amk (below_step (by repeat (first | (with_reducible first | exact HB.out | apply bal | apply pbd | apply bdr | refine below_set ?_ GE218.out) | exact HB.out)) hb); have n3_ := amk (hbox); have n4_ := amk ((by rw [hg]; exact (below_size (by repeat (first | (with_reducible first | exact HB.out | apply bal | apply pbd | apply bdr | refine below_set ?_ GE218.out) | exact HB.out))) : w.heap.size ≤ gb226)); have n5_ := amk ((by rw [hg]; exact (below_size (by repeat (first | (with_reducible first | exact HB.out | apply bal | apply pbd | apply bdr | refine below_set ?_ GE218.out) | exact HB.out))) : w.heap.size ≤ gb226)); have n6_ := amk ((by rw [hg]; exact Nat.ne_of_lt (blk_lt (g := gb218) (o := .cells #[.string ((rd_T64 l0 a1).f0), .int .i64 ((rd_T64 l0 a1).f1), .slice (some ad225) ((rd_T64 l0 a1).f2).length c217_2] 64 (0, 0)) (by (with_reducible repeat (first | refine bkd ?_ _ | refine blk_drew ?_ | refine bka ?_ _)); exact BK218.out)) : gb218 ≠ gb226)); have n7_ := amk ((by rw [hg]; exact Nat.ne_of_gt (blk_lt (g := gb218) (o := .cells #[.string ((rd_T64 l0 a1).f0), .int .i64 ((rd_T64 l0 a1).f1), .slice (some ad225) ((rd_T64 l0 a1).f2).length c217_2] 64 (0, 0)) (by (with_reducible repeat (first | refine bkd ?_ _ | refine blk_drew ?_ | refine bka ?_ _)); exact BK218.out)) : gb226 ≠ gb218)); clear HO_7; clear BK218; clear HB; have HO_7 := n0_; have BK218 := n1_; have HB := n2_; have BK226 := n3_; have GW226 := n4_; have GE226 := n5_; have NB218_226 := n6_; have NB226_218 := n7_; clear n0_ n1_ n2_ n3_ n4_ n5_ n6_ n7_; clear hb hbox hg; have hnb39 := NB226_218.out; have hnc39 := NB218_226.out; have hcz40_0 : w38.cell? ⟨gb226, 0, none⟩ = some (.string (⟨#[]⟩ : ByteArray)) := (blk_cell BK226.out 0).trans rfl; have hcz40_1 : w38.cell? ⟨gb226, 1, none⟩ = some (.int .u8 0) := (blk_cell BK226.out 1).trans rfl; have hfz40_0 := bkf BK226.out 0; have hfz40_1 := bkf BK226.out 1) | (go_at_call 40; (with_reducible refine (provisoref02_IsName.calls k4 ((rd_T99 ((rd_T64 l0 a1).f2) x8_4).f0) true _ A33.out).mono ?_); rintro e w' ⟨rfl, ⟨nd, rfl⟩⟩; (try first | exact ⟨rfl, _, World.drewN_drewN _ _ _⟩ | exact ⟨rfl, _, Eq.trans (World.drewN_drewN _ _ _) (congrArg (World.drewN _) (Nat.add_assoc _ _ _))⟩); obtain ⟨Ao41, co41, eo41⟩ := Kd.R_slice HO_7.out; subst eo41) | (go_at_call 114; (with_reducible refine (provisoref02_has.calls k4 _ _ t222 ((rd_T99 ((rd_T64 l0 a1).f2) x8_4).f0) true _ ?side1 ?side2 A35.out).mono ?_); (case side1 => refine (Kd.R_reads' (e := 99) (base := w.heap.size) (ok := fun k_ => (True ∧ k_ ≠ gb226)) (n := t222.length) (c := co41) ?_).2.2; exact (by (with_reducible repeat (first | apply Kd.R_alloc | apply Kd.R_drewN | apply Kd.R_drew)); exact (Kd.R_mono (Kd.R_far (p := ⟨gb226, 1, none⟩) (Kd.R_far (p := ⟨gb226, 0, none⟩) (Kd.R_mono HO_7.out (fun k_ hk => (⟨hk, hk.2⟩ : _ ∧ k_ ≠ gb226))) (fun _ hk => hk.2) (.string ((rd_T99 ((rd_T64 l0 a1).f2) x8_4).f0))) (fun _ hk => hk.2) (.int .u8 ((rd_T99 ((rd_T64 l0 a1).f2) x8_4).f1))) (fun _ h_ => h_.1)))); (case side2 => exact (Kd.R_reads' HO_7.out).2.1); rintro e w' ⟨rfl, ⟨nd, rfl⟩⟩; (try first | exact ⟨rfl, _, World.drewN_drewN _ _ _⟩ | exact ⟨rfl, _, Eq.trans (World.drewN_drewN _ _ _) (congrArg (World.drewN _) (Nat.add_assoc _ _ _))⟩))))
                                      go_ret
                                      exact ⟨by first | rfl | (simp [errW_none, errW_some] <;> rfl) | (simp [*, errW_none, errW_some] <;> rfl), by repeat (first | (with_reducible first | exact HB.out | apply bal | apply pbd | apply bdr | refine below_set ?_ GE218.out | refine below_set ?_ GE226.out) | exact HB.out)⟩
                                    · replace c36 := Bool.eq_false_iff.mpr c36
                                      subst c36
                                      have H1 : (if x8_4 ≤ (((rd_T64 l0 a1).f2).length : Int) then ((provisoref02_has.f k4 (((rd_T64 l0 a1).f2).take (x8_4 : Int).toNat) ((rd_T99 ((rd_T64 l0 a1).f2) x8_4).f0)).bind fun t233 => (if t233 = true then (some 20) else ((provisoref02_Stored.f l0 ((rd_T99 ((rd_T64 l0 a1).f2) x8_4).f1)).bind fun t234 => (if t234 = true then (provisoref02_fault.l1 k4 l0 t222 (wrap64 (x8_4 + 1)) ((rd_T64 l0 a1).f0) ((rd_T64 l0 a1).f1) ((rd_T64 l0 a1).f2)) else (some 22))))) else (none)) = some r := by rw [if_neg (show ¬ (false = true) by decide)] at H; exact H
                                      clear H
                                      have H := H1
                                      clear H1
                                      have c42b0 := eq_true (of_decide_eq_true (by first | (with_reducible assumption) | assumption) : 0 ≤ x8_4)
                                      by_cases c43 : x8_4 ≤ (((rd_T64 l0 a1).f2).length : Int)
                                      · rw [if_pos c43] at H
                                        have c43b0 := eq_true c43
                                        have c43b1 : decide (x8_4 ≤ (((rd_T64 l0 a1).f2).length : Int)) = true := decide_eq_true c43
                                        clear c43
                                        obtain ⟨y229, hy229⟩ : ∃ y_ : List (S99), y_ = (((rd_T64 l0 a1).f2).take (x8_4 : Int).toNat) := ⟨_, rfl⟩
                                        replace H : ((provisoref02_has.f k4 y229 ((rd_T99 ((rd_T64 l0 a1).f2) x8_4).f0)).bind fun t233 => (if t233 = true then (some 20) else ((provisoref02_Stored.f l0 ((rd_T99 ((rd_T64 l0 a1).f2) x8_4).f1)).bind fun t234 => (if t234 = true then (provisoref02_fault.l1 k4 l0 t222 (wrap64 (x8_4 + 1)) ((rd_T64 l0 a1).f0) ((rd_T64 l0 a1).f1) ((rd_T64 l0 a1).f2)) else (some 22))))) = some r := by first | (rw [hy229]; with_reducible exact H) | (have H2_ := (Option.bind_some _ _).symm.trans H; rw [hy229]; with_reducible exact H2_) | (have H2_ := (Option.bind_some _ _).symm.trans H; with_reducible exact H2_) | with_reducible exact H | (rw [hy229]; exact H) | exact H
                                        have Ny229 := amk hy229
                                        clear hy229
                                        replace H := Option.bind_eq_some_iff.mp H
                                        obtain ⟨t233, A440, H⟩ := H
                                        replace H : (if t233 = true then (some 20) else ((provisoref02_Stored.f l0 ((rd_T99 ((rd_T64 l0 a1).f2) x8_4).f1)).bind fun t234 => (if t234 = true then (provisoref02_fault.l1 k4 l0 t222 (wrap64 (x8_4 + 1)) ((rd_T64 l0 a1).f0) ((rd_T64 l0 a1).f1) ((rd_T64 l0 a1).f2)) else (some 22)))) = some r := H
                                        have A44 := amk A440
                                        clear A440
                                        by_cases c45 : t233 = true
                                        · subst c45
                                          have H1 : (some 20) = some r := by rw [if_pos rfl] at H; exact H
                                          clear H
                                          have H := H1
                                          clear H1
                                          obtain rfl := Option.some.inj H
                                          have hcz46_0 : wr.cell? ⟨gb218, 0, none⟩ = some (.string ((rd_T64 l0 a1).f0)) := (blk_cell BK218.out 0).trans rfl
                                          have hcz46_1 : wr.cell? ⟨gb218, 1, none⟩ = some (.int .i64 ((rd_T64 l0 a1).f1)) := (blk_cell BK218.out 1).trans rfl
                                          have hcz46_2 : wr.cell? ⟨gb218, 2, none⟩ = some (.slice A217_2 ((rd_T64 l0 a1).f2).length c217_2) := (blk_cell BK218.out 2).trans rfl
                                          have hfz46_0 := bkf BK218.out 0
                                          have hfz46_1 := bkf BK218.out 1
                                          have hfz46_2 := bkf BK218.out 2
                                          have p225 : 0 ≤ (x8_4 : Int) := of_decide_eq_true (by first | (with_reducible assumption) | assumption)
                                          have q225 : x8_4 < (((rd_T64 l0 a1).f2).length : Int) := of_decide_eq_true (by first | (with_reducible assumption) | assumption)
                                          obtain ⟨ad225, e225, hx225_0, hx225_1⟩ := at_T99 HR217_2.out x8_4 p225 q225
                                          cases e225
                                          replace hx225_0 := (HB.out.cell (blc w _ hx225_0)).trans hx225_0
                                          replace hx225_1 := (HB.out.cell (blc w _ hx225_1)).trans hx225_1
                                          replace p225 := eq_true p225
                                          replace q225 := eq_true q225
                                          go_wp2_with (first | ((with_reducible refine gate_dst (N := 9) rfl ?_); refine box_event ?hg (N := 9) ?hd (cs := #[.string (⟨#[]⟩ : ByteArray), .int .u8 0]) (t := 99) ?hr ?_; (case hd => rfl); (case hg => rfl); (case hr => first | (go_simp; done) | (go_simp; rfl)); intro gb226 hg w47 hbox hb; have n0_ := amk (Kd.R_below (Kd.R_elderB (by (with_reducible repeat (first | apply Kd.R_alloc | apply Kd.R_drewN | apply Kd.R_drew)); exact HO_7.out) gb226 (Nat.le_of_eq hg.symm)) hb); have n1_ := amk (blk_below (g := gb218) (o := .cells #[.string ((rd_T64 l0 a1).f0), .int .i64 ((rd_T64 l0 a1).f1), .slice (some ad225) ((rd_T64 l0 a1).f2).length c217_2] 64 (0, 0)) (by (with_reducible repeat (first | refine bkd ?_ _ | refine blk_drew ?_ | refine bka ?_ _)); exact BK218.out) hb); have n2_ := amk (below_step (by repeat (first | (with_reducible first | exact HB.out | apply bal | apply pbd | apply bdr | refine below_set ?_ GE218.out) | exact HB.out)) hb); have n3_ := amk (hbox); have n4_ := amk ((by rw [hg]; exact (below_size (by repeat (first | (with_reducible first | exact HB.out | apply bal | apply pbd | apply bdr | refine below_set ?_ GE218.out) | exact HB.out))) : w.heap.size ≤ gb226)); have n5_ := amk ((by rw [hg]; exact (below_size (by repeat (first | (with_reducible first | exact HB.out | apply bal | apply pbd | apply bdr | refine below_set ?_ GE218.out) | exact HB.out))) : w.heap.size ≤ gb226)); have n6_ := amk ((by rw [hg]; exact Nat.ne_of_lt (blk_lt (g := gb218) (o := .cells #[.string ((rd_T64 l0 a1).f0), .int .i64 ((rd_T64 l0 a1).f1), .slice (some ad225) ((rd_T64 l0 a1).f2).length c217_2] 64 (0, 0)) (by (with_reducible repeat (first | refine bkd ?_ _ | refine blk_drew ?_ | refine bka ?_ _)); exact BK218.out)) : gb218 ≠ gb226)); have n7_ := amk ((by rw [hg]; exact Nat.ne_of_gt (blk_lt (g := gb218) (o := .cells #[.string ((rd_T64 l0 a1).f0), .int .i64 ((rd_T64 l0 a1).f1), .slice (some ad225) ((rd_T64 l0 a1).f2).length c217_2] 64 (0, 0)) (by (with_reducible repeat (first | refine bkd ?_ _ | refine blk_drew ?_ | refine bka ?_ _)); exact BK218.out)) : gb226 ≠ gb218)); clear HO_7; clear BK218; clear HB; have HO_7 := n0_; have BK218 := n1_; have HB := n2_; have BK226 := n3_; have GW226 := n4_; have GE226 := n5_; have NB218_226 := n6_; have NB226_218 := n7_; clear n0_ n1_ n2_ n3_ n4_ n5_ n6_ n7_; clear hb hbox hg; have hnb48 := NB226_218.out; have hnc48 := NB218_226.out; have hcz49_0 : w47.cell? ⟨gb226, 0, none⟩ = some (.string (⟨#[]⟩ : ByteArray)) := (blk_cell BK226.out 0).trans rfl; have hcz49_1 : w47.cell? ⟨gb226, 1, none⟩ = some (.int .u8 0) := (blk_cell BK226.out 1).trans rfl; have hfz49_0 := bkf BK226.out 0; have hfz49_1 := bkf BK226.out 1) | ((with_reducible refine gate_store (t := 99) (p := 9) rfl ?_); (try (rw [drewN_self w47]; generalize hq_ : World.drewN w47 _ = w47; have n0_ := amk (Kd.R_at hq_ HO_7.out); have n1_ := amk (blk_at hq_ BK218.out); have n2_ := amk (blk_at hq_ BK226.out); have n3_ := amk (below_at hq_ HB.out); clear hq_ HO_7 BK218 BK226 HB; have HO_7 := n0_; have BK218 := n1_; have BK226 := n2_; have HB := n3_; clear n0_ n1_ n2_ n3_)); refine store_event (t := 99) (p := 9) (v := ?vo_w50) (w1 := ((w47.setCell ⟨gb226, 0, none⟩ (.string ((rd_T99 ((rd_T64 l0 a1).f2) x8_4).f0))).setCell ⟨gb226, 1, none⟩ (.int .u8 ((rd_T99 ((rd_T64 l0 a1).f2) x8_4).f1)))) ?hg ?ho ?hn ?hr ?_; (case ho => rfl); (case hg => rfl); (case hn => rfl); (case hr => first | (go_simp; done) | (go_simp; rfl)); intro w50 hw; have n0_ : Aside0 (Kd.R k99 99 w50 w.heap.size (fun k_ => k_ ≠ gb226) v223 t222) := ⟨(by rw [hw]; exact (by (with_reducible repeat (first | apply Kd.R_alloc | apply Kd.R_drewN | apply Kd.R_drew)); exact Kd.R_mono (Kd.R_far (p := ⟨gb226, 1, none⟩) (Kd.R_far (p := ⟨gb226, 0, none⟩) (Kd.R_mono HO_7.out (fun k_ hk => (⟨hk, hk.2⟩ : _ ∧ k_ ≠ gb226))) (fun _ hk => hk.2) (.string ((rd_T99 ((rd_T64 l0 a1).f2) x8_4).f0))) (fun _ hk => hk.2) (.int .u8 ((rd_T99 ((rd_T64 l0 a1).f2) x8_4).f1))) (fun _ hk => hk.1.2)))⟩; have n1_ : Aside0 (w50.heap[gb218]? = some (.cells #[.string ((rd_T64 l0 a1).f0), .int .i64 ((rd_T64 l0 a1).f1), .slice (some ad225) ((rd_T64 l0 a1).f2).length c217_2] 64 (0, 0))) := ⟨(by rw [hw]; exact (by (with_reducible repeat (first | refine bkd ?_ _ | refine blk_drew ?_ | refine bka ?_ _)); refine blk_far ?_ NB218_226.out _; (with_reducible repeat (first | refine bkd ?_ _ | refine blk_drew ?_ | refine bka ?_ _)); refine blk_far ?_ NB218_226.out _; (with_reducible repeat (first | refine bkd ?_ _ | refine blk_drew ?_ | refine bka ?_ _)); exact BK218.out))⟩; have n2_ : Aside0 (w50.heap[gb226]? = some (.cells #[.string ((rd_T99 ((rd_T64 l0 a1).f2) x8_4).f0), .int .u8 ((rd_T99 ((rd_T64 l0 a1).f2) x8_4).f1)] 99 (0, 0))) := ⟨(by rw [hw]; exact (by (with_reducible repeat (first | refine bkd ?_ _ | refine blk_drew ?_ | refine bka ?_ _)); refine blk_put (cs := #[.string ((rd_T99 ((rd_T64 l0 a1).f2) x8_4).f0), .int .u8 0]) ?_ 1 _ rfl; (with_reducible repeat (first | refine bkd ?_ _ | refine blk_drew ?_ | refine bka ?_ _)); refine blk_put (cs := #[.string (⟨#[]⟩ : ByteArray), .int .u8 0]) ?_ 0 _ rfl; (with_reducible repeat (first | refine bkd ?_ _ | refine blk_drew ?_ | refine bka ?_ _)); exact BK226.out))⟩; have n3_ : Aside0 (Below w.heap.size w w50) := ⟨(by rw [hw]; exact (by repeat (first | (with_reducible first | exact HB.out | apply bal | apply pbd | apply bdr | refine below_set ?_ GE218.out | refine below_set ?_ GE226.out) | exact HB.out)))⟩; clear hw; clear HO_7; clear BK218; clear BK226; clear HB; have HO_7 := n0_; have BK218 := n1_; have BK226 := n2_; have HB := n3_; clear n0_ n1_ n2_ n3_; have hcz51_0 : w50.cell? ⟨gb226, 0, none⟩ = some (.string ((rd_T99 ((rd_T64 l0 a1).f2) x8_4).f0)) := (blk_cell BK226.out 0).trans rfl; have hcz51_1 : w50.cell? ⟨gb226, 1, none⟩ = some (.int .u8 ((rd_T99 ((rd_T64 l0 a1).f2) x8_4).f1)) := (blk_cell BK226.out 1).trans rfl; have hfz51_0 := bkf BK226.out 0; have hfz51_1 := bkf BK226.out 1) | (go_at_call 40; (with_reducible refine (provisoref02_IsName.calls k4 ((rd_T99 ((rd_T64 l0 a1).f2) x8_4).f0) true _ A33.out).mono ?_); rintro e w' ⟨rfl, ⟨nd, rfl⟩⟩; (try first | exact ⟨rfl, _, World.drewN_drewN _ _ _⟩ | exact ⟨rfl, _, Eq.trans (World.drewN_drewN _ _ _) (congrArg (World.drewN _) (Nat.add_assoc _ _ _))⟩); obtain ⟨Ao52, co52, eo52⟩ := Kd.R_slice HO_7.out; subst eo52) | (go_at_call 114; (with_reducible refine (provisoref02_has.calls k4 _ _ t222 ((rd_T99 ((rd_T64 l0 a1).f2) x8_4).f0) false _ ?side1 ?side2 A35.out).mono ?_); (case side1 => repeat (first | exact (Kd.R_reads' HO_7.out).2.2 | (with_reducible refine Kd.C_alloc ?_ _) | (with_reducible refine Kd.C_drewN ?_ _) | (with_reducible refine Kd.C_drew ?_))); (case side2 => exact (Kd.R_reads' HO_7.out).2.1); rintro e w' ⟨rfl, ⟨nd, rfl⟩⟩; (try first | exact ⟨rfl, _, World.drewN_drewN _ _ _⟩ | exact ⟨rfl, _, Eq.trans (World.drewN_drewN _ _ _) (congrArg (World.drewN _) (Nat.add_assoc _ _ _))⟩); have hcz53_0 : w50.cell? ⟨gb218, 0, none⟩ = some (.string ((rd_T64 l0 a1).f0)) := (blk_cell BK218.out 0).trans rfl; have hcz53_1 : w50.cell? ⟨gb218, 1, none⟩ = some (.int .i64 ((rd_T64 l0 a1).f1)) := (blk_cell BK218.out 1).trans rfl; have hcz53_2 : w50.cell? ⟨gb218, 2, none⟩ = some (.slice (some ad225) ((rd_T64 l0 a1).f2).length c217_2) := (blk_cell BK218.out 2).trans rfl; have hfz53_0 := bkf BK218.out 0; have hfz53_1 := bkf BK218.out 1; have hfz53_2 := bkf BK218.out 2; have q54 : (x8_4 : Int) ≤ ((((rd_T64 l0 a1).f2).length : Int) : Int) := of_decide_eq_true (by first | (with_reducible assumption) | assumption); obtain ⟨i054, hi054, _, hsz54, _⟩ := info_parts info99; have hroom54 : ((rd_T64 l0 a1).f2).length ≤ c217_2 := HC217_2.out; have hC54 : Kd.C k99 _ (some ad225) ((rd_T64 l0 a1).f2).length ((rd_T64 l0 a1).f2) := HR217_2.out; have hcut54 := cut_to (P := Try.prog) 62 99 .i64 Try.underlying62 hi054 (some ad225) ((rd_T64 l0 a1).f2).length c217_2 x8_4 (of_decide_eq_true (by first | (with_reducible assumption) | assumption)) q54 hroom54; have hr54 := Kd.C_take (m := (x8_4 : Int).toNat) hC54 (by omega); have hy54 : y229.length = (x8_4 : Int).toNat := (by rw [Ny229.out, List.length_take]; omega); rw [← Ny229.out] at hr54; rw [← hy54] at hcut54; have HR232 := amk hr54; have HC232 := amk (show y229.length ≤ c217_2 from by omega); clear hr54 hC54 hroom54 hi054 hsz54; have KY54 := amk hy54; clear hy54; replace q54 := eq_true q54) | (go_at_call 114; (with_reducible refine (provisoref02_has.calls k4 _ _ y229 ((rd_T99 ((rd_T64 l0 a1).f2) x8_4).f0) true _ ?side1 ?side2 A44.out).mono ?_); (case side1 => repeat (first | exact (Kd.C_below HR232.out (by repeat (first | (with_reducible first | exact HB.out | apply bal | apply pbd | apply bdr | refine below_set ?_ GE218.out | refine below_set ?_ GE226.out) | exact HB.out))) | (with_reducible refine Kd.C_alloc ?_ _) | (with_reducible refine Kd.C_drewN ?_ _) | (with_reducible refine Kd.C_drew ?_))); (case side2 => exact HC232.out); rintro e w' ⟨rfl, ⟨nd, rfl⟩⟩; (try first | exact ⟨rfl, _, World.drewN_drewN _ _ _⟩ | exact ⟨rfl, _, Eq.trans (World.drewN_drewN _ _ _) (congrArg (World.drewN _) (Nat.add_assoc _ _ _))⟩)))
                                          repeat (go_quiet (first | ((with_reducible refine gate_dst (N := 9) rfl ?_); refine box_event ?hg (N := 9) ?hd (cs := #[.string (⟨#[]⟩ : ByteArray), .int .u8 0]) (t := 99) ?hr ?_; (case hd => rfl); (case hg => rfl); (case hr => first | (go_simp; done) | (go_simp; rfl)); intro gb226 hg w47 hbox hb; have n0_ := amk (Kd.R_below (Kd.R_elderB (by (with_reducible repeat (first | apply Kd.R_alloc | apply Kd.R_drewN | apply Kd.R_drew)); exact HO_7.out) gb226 (Nat.le_of_eq hg.symm)) hb); have n1_ := amk (blk_below (g := gb218) (o := .cells #[.string ((rd_T64 l0 a1).f0), .int .i64 ((rd_T64 l0 a1).f1), .slice (some ad225) ((rd_T64 l0 a1).f2).length c217_2] 64 (0, 0)) (by (with_reducible repeat (first | refine bkd ?_ _ | refine blk_drew ?_ | refine bka ?_ _)); exact BK218.out) hb); have n2_ := amk (below_step (by repeat (first | (with_reducible first | exact HB.out | apply bal | apply pbd | apply bdr | refine below_set ?_ GE218.out) | exact HB.out)) hb); have n3_ := amk (hbox); have n4_ := amk ((by rw [hg]; exact (below_size (by repeat (first | (with_reducible first | exact HB.out | apply bal | apply pbd | apply bdr | refine below_set ?_ GE218.out) | exact HB.out))) : w.heap.size ≤ gb226)); have n5_ := amk ((by rw [hg]; exact (below_size (by repeat (first | (with_reducible first | exact HB.out | apply bal | apply pbd | apply bdr | refine below_set ?_ GE218.out) | exact HB.out))) : w.heap.size ≤ gb226)); have n6_ := amk ((by rw [hg]; exact Nat.ne_of_lt (blk_lt (g := gb218) (o := .cells #[.string ((rd_T64 l0 a1).f0), .int .i64 ((rd_T64 l0 a1).f1), .slice (some ad225) ((rd_T64 l0 a1).f2).length c217_2] 64 (0, 0)) (by (with_reducible repeat (first | refine bkd ?_ _ | refine blk_drew ?_ | refine bka ?_ _)); exact BK218.out)) : gb218 ≠ gb226)); have n7_ := amk ((by rw [hg]; exact Nat.ne_of_gt (blk_lt (g := gb218) (o := .cells #[.string ((rd_T64 l0 a1).f0), .int .i64 ((rd_T64 l0 a1).f1), .slice (some ad225) ((rd_T64 l0 a1).f2).length c217_2] 64 (0, 0)) (by (with_reducible repeat (first | refine bkd ?_ _ | refine blk_drew ?_ | refine bka ?_ _)); exact BK218.out)) : gb226 ≠ gb218)); clear HO_7; clear BK218; clear HB; have HO_7 := n0_; have BK218 := n1_; have HB := n2_; have BK226 := n3_; have GW226 := n4_; have GE226 := n5_; have NB218_226 := n6_; have NB226_218 := n7_; clear n0_ n1_ n2_ n3_ n4_ n5_ n6_ n7_; clear hb hbox hg; have hnb48 := NB226_218.out; have hnc48 := NB218_226.out; have hcz49_0 : w47.cell? ⟨gb226, 0, none⟩ = some (.string (⟨#[]⟩ : ByteArray)) := (blk_cell BK226.out 0).trans rfl; have hcz49_1 : w47.cell? ⟨gb226, 1, none⟩ = some (.int .u8 0) := (blk_cell BK226.out 1).trans rfl; have hfz49_0 := bkf BK226.out 0; have hfz49_1 := bkf BK226.out 1) | ((with_reducible refine gate_store (t := 99) (p := 9) rfl ?_); (try (rw [drewN_self w47]; generalize hq_ : World.drewN w47 _ = w47; have n0_ := amk (Kd.R_at hq_ HO_7.out); have n1_ := amk (blk_at hq_ BK218.out); have n2_ := amk (blk_at hq_ BK226.out); have n3_ := amk (below_at hq_ HB.out); clear hq_ HO_7 BK218 BK226 HB; have HO_7 := n0_; have BK218 := n1_; have BK226 := n2_; have HB := n3_; clear n0_ n1_ n2_ n3_)); refine store_event (t := 99) (p := 9) (v := ?vo_w50) (w1 := ((w47.setCell ⟨gb226, 0, none⟩ (.string ((rd_T99 ((rd_T64 l0 a1).f2) x8_4).f0))).setCell ⟨gb226, 1, none⟩ (.int .u8 ((rd_T99 ((rd_T64 l0 a1).f2) x8_4).f1)))) ?hg ?ho ?hn ?hr ?_; (case ho => rfl); (case hg => rfl); (case hn => rfl); (case hr => first | (go_simp; done) | (go_simp; rfl)); intro w50 hw; have n0_ : Aside0 (Kd.R k99 99 w50 w.heap.size (fun k_ => k_ ≠ gb226) v223 t222) := ⟨(by rw [hw]; exact (by (with_reducible repeat (first | apply Kd.R_alloc | apply Kd.R_drewN | apply Kd.R_drew)); exact Kd.R_mono (Kd.R_far (p := ⟨gb226, 1, none⟩) (Kd.R_far (p := ⟨gb226, 0, none⟩) (Kd.R_mono HO_7.out (fun k_ hk => (⟨hk, hk.2⟩ : _ ∧ k_ ≠ gb226))) (fun _ hk => hk.2) (.string ((rd_T99 ((rd_T64 l0 a1).f2) x8_4).f0))) (fun _ hk => hk.2) (.int .u8 ((rd_T99 ((rd_T64 l0 a1).f2) x8_4).f1))) (fun _ hk => hk.1.2)))⟩; have n1_ : Aside0 (w50.heap[gb218]? = some (.cells #[.string ((rd_T64 l0 a1).f0), .int .i64 ((rd_T64 l0 a1).f1), .slice (some ad225) ((rd_T64 l0 a1).f2).length c217_2] 64 (0, 0))) := ⟨(by rw [hw]; exact (by (with_reducible repeat (first | refine bkd ?_ _ | refine blk_drew ?_ | refine bka ?_ _)); refine blk_far ?_ NB218_226.out _; (with_reducible repeat (first | refine bkd ?_ _ | refine blk_drew ?_ | refine bka ?_ _)); refine blk_far ?_ NB218_226.out _; (with_reducible repeat (first | refine bkd ?_ _ | refine blk_drew ?_ | refine bka ?_ _)); exact BK218.out))⟩; have n2_ : Aside0 (w50.heap[gb226]? = some (.cells #[.string ((rd_T99 ((rd_T64 l0 a1).f2) x8_4).f0), .int .u8 ((rd_T99 ((rd_T64 l0 a1).f2) x8_4).f1)] 99 (0, 0))) := ⟨(by rw [hw]; exact (by (with_reducible repeat (first | refine bkd ?_ _ | refine blk_drew ?_ | refine bka ?_ _)); refine blk_put (cs := #[.string ((rd_T99 ((rd_T64 l0 a1).f2) x8_4).f0), .int .u8 0]) ?_ 1 _ rfl; (with_reducible repeat (first | refine bkd ?_ _ | refine blk_drew ?_ | refine bka ?_ _)); refine blk_put (cs := #[.string (⟨#[]⟩ : ByteArray), .int .u8 0]) ?_ 0 _ rfl; (with_reducible repeat (first | refine bkd ?_ _ | refine blk_drew ?_ | refine bka ?_ _)); exact BK226.out))⟩; have n3_ : Aside0 (Below w.heap.size w w50) := ⟨(by rw [hw]; exact (by repeat (first | (with_reducible first | exact HB.out | apply bal | apply pbd | apply bdr | refine below_set ?_ GE218.out | refine below_set ?_ GE226.out) | exact HB.out)))⟩; clear hw; clear HO_7; clear BK218; clear BK226; clear HB; have HO_7 := n0_; have BK218 := n1_; have BK226 := n2_; have HB := n3_; clear n0_ n1_ n2_ n3_; have hcz51_0 : w50.cell? ⟨gb226, 0, none⟩ = some (.string ((rd_T99 ((rd_T64 l0 a1).f2) x8_4).f0)) := (blk_cell BK226.out 0).trans rfl; have hcz51_1 : w50.cell? ⟨gb226, 1, none⟩ = some (.int .u8 ((rd_T99 ((rd_T64 l0 a1).f2) x8_4).f1)) := (blk_cell BK226.out 1).trans rfl; have hfz51_0 := bkf BK226.out 0; have hfz51_1 := bkf BK226.out 1) | (go_at_call 40; (with_reducible refine (provisoref02_IsName.calls k4 ((rd_T99 ((rd_T64 l0 a1).f2) x8_4).f0) true _ A33.out).mono ?_); rintro e w' ⟨rfl, ⟨nd, rfl⟩⟩; (try first | exact ⟨rfl, _, World.drewN_drewN _ _ _⟩ | exact ⟨rfl, _, Eq.trans (World.drewN_drewN _ _ _) (congrArg (World.drewN _) (Nat.add_assoc _ _ _))⟩); obtain ⟨Ao52, co52, eo52⟩ := Kd.R_slice HO_7.out; subst eo52) | (go_at_call 114; (with_reducible refine (provisoref02_has.calls k4 _ _ t222 ((rd_T99 ((rd_T64 l0 a1).f2) x8_4).f0) false _ ?side1 ?side2 A35.out).mono ?_); (case side1 => repeat (first | exact (Kd.R_reads' HO_7.out).2.2 | (with_reducible refine Kd.C_alloc ?_ _) | (with_reducible refine Kd.C_drewN ?_ _) | (with_reducible refine Kd.C_drew ?_))); (case side2 => exact (Kd.R_reads' HO_7.out).2.1); rintro e w' ⟨rfl, ⟨nd, rfl⟩⟩; (try first | exact ⟨rfl, _, World.drewN_drewN _ _ _⟩ | exact ⟨rfl, _, Eq.trans (World.drewN_drewN _ _ _) (congrArg (World.drewN _) (Nat.add_assoc _ _ _))⟩); have hcz53_0 : w50.cell? ⟨gb218, 0, none⟩ = some (.string ((rd_T64 l0 a1).f0)) := (blk_cell BK218.out 0).trans rfl; have hcz53_1 : w50.cell? ⟨gb218, 1, none⟩ = some (.int .i64 ((rd_T64 l0 a1).f1)) := (blk_cell BK218.out 1).trans rfl; have hcz53_2 : w50.cell? ⟨gb218, 2, none⟩ = some (.slice (some ad225) ((rd_T64 l0 a1).f2).length c217_2) := (blk_cell BK218.out 2).trans rfl; have hfz53_0 := bkf BK218.out 0; have hfz53_1 := bkf BK218.out 1; have hfz53_2 := bkf BK218.out 2; have q54 : (x8_4 : Int) ≤ ((((rd_T64 l0 a1).f2).length : Int) : Int) := of_decide_eq_true (by first | (with_reducible assumption) | assumption); obtain ⟨i054, hi054, _, hsz54, _⟩ := info_parts info99; have hroom54 : ((rd_T64 l0 a1).f2).length ≤ c217_2 := HC217_2.out; have hC54 : Kd.C k99 _ (some ad225) ((rd_T64 l0 a1).f2).length ((rd_T64 l0 a1).f2) := HR217_2.out; have hcut54 := cut_to (P := Try.prog) 62 99 .i64 Try.underlying62 hi054 (some ad225) ((rd_T64 l0 a1).f2).length c217_2 x8_4 (of_decide_eq_true (by first | (with_reducible assumption) | assumption)) q54 hroom54; have hr54 := Kd.C_take (m := (x8_4 : Int).toNat) hC54 (by omega); have hy54 : y229.length = (x8_4 : Int).toNat := (by rw [Ny229.out, List.length_take]; omega); rw [← Ny229.out] at hr54; rw [← hy54] at hcut54; have HR232 := amk hr54; have HC232 := amk (show y229.length ≤ c217_2 from by omega); clear hr54 hC54 hroom54 hi054 hsz54; have KY54 := amk hy54; clear hy54; replace q54 := eq_true q54) | (go_at_call 114; (with_reducible refine (provisoref02_has.calls k4 _ _ y229 ((rd_T99 ((rd_T64 l0 a1).f2) x8_4).f0) true _ ?side1 ?side2 A44.out).mono ?_); (case side1 => repeat (first | exact (Kd.C_below HR232.out (by repeat (first | (with_reducible first | exact HB.out | apply bal | apply pbd | apply bdr | refine below_set ?_ GE218.out | refine below_set ?_ GE226.out) | exact HB.out))) | (with_reducible refine Kd.C_alloc ?_ _) | (with_reducible refine Kd.C_drewN ?_ _) | (with_reducible refine Kd.C_drew ?_))); (case side2 => exact HC232.out); rintro e w' ⟨rfl, ⟨nd, rfl⟩⟩; (try first | exact ⟨rfl, _, World.drewN_drewN _ _ _⟩ | exact ⟨rfl, _, Eq.trans (World.drewN_drewN _ _ _) (congrArg (World.drewN _) (Nat.add_assoc _ _ _))⟩))); try go_wp2_with (first | ((with_reducible refine gate_dst (N := 9) rfl ?_); refine box_event ?hg (N := 9) ?hd (cs := #[.string (⟨#[]⟩ : ByteArray), .int .u8 0]) (t := 99) ?hr ?_; (case hd => rfl); (case hg => rfl); (case hr => first | (go_simp; done) | (go_simp; rfl)); intro gb226 hg w47 hbox hb; have n0_ := amk (Kd.R_below (Kd.R_elderB (by (with_reducible repeat (first | apply Kd.R_alloc | apply Kd.R_drewN | apply Kd.R_drew)); exact HO_7.out) gb226 (Nat.le_of_eq hg.symm)) hb); have n1_ := amk (blk_below (g := gb218) (o := .cells #[.string ((rd_T64 l0 a1).f0), .int .i64 ((rd_T64 l0 a1).f1), .slice (some ad225) ((rd_T64 l0 a1).f2).length c217_2] 64 (0, 0)) (by (with_reducible repeat (first | refine bkd ?_ _ | refine blk_drew ?_ | refine bka ?_ _)); exact BK218.out) hb); have n2_ := amk (below_step (by repeat (first | (with_reducible first | exact HB.out | apply bal | apply pbd | apply bdr | refine below_set ?_ GE218.out) | exact HB.out)) hb); have n3_ := amk (hbox); have n4_ := amk ((by rw [hg]; exact (below_size (by repeat (first | (with_reducible first | exact HB.out | apply bal | apply pbd | apply bdr | refine below_set ?_ GE218.out) | exact HB.out))) : w.heap.size ≤ gb226)); have n5_ := amk ((by rw [hg]; exact (below_size (by repeat (first | (with_reducible first | exact HB.out | apply bal | apply pbd | apply bdr | refine below_set ?_ GE218.out) | exact HB.out))) : w.heap.size ≤ gb226)); have n6_ := amk ((by rw [hg]; exact Nat.ne_of_lt (blk_lt (g := gb218) (o := .cells #[.string ((rd_T64 l0 a1).f0), .int .i64 ((rd_T64 l0 a1).f1), .slice (some ad225) ((rd_T64 l0 a1).f2).length c217_2] 64 (0, 0)) (by (with_reducible repeat (first | refine bkd ?_ _ | refine blk_drew ?_ | refine bka ?_ _)); exact BK218.out)) : gb218 ≠ gb226)); have n7_ := amk ((by rw [hg]; exact Nat.ne_of_gt (blk_lt (g := gb218) (o := .cells #[.string ((rd_T64 l0 a1).f0), .int .i64 ((rd_T64 l0 a1).f1), .slice (some ad225) ((rd_T64 l0 a1).f2).length c217_2] 64 (0, 0)) (by (with_reducible repeat (first | refine bkd ?_ _ | refine blk_drew ?_ | refine bka ?_ _)); exact BK218.out)) : gb226 ≠ gb218)); clear HO_7; clear BK218; clear HB; have HO_7 := n0_; have BK218 := n1_; have HB := n2_; have BK226 := n3_; have GW226 := n4_; have GE226 := n5_; have NB218_226 := n6_; have NB226_218 := n7_; clear n0_ n1_ n2_ n3_ n4_ n5_ n6_ n7_; clear hb hbox hg; have hnb48 := NB226_218.out; have hnc48 := NB218_226.out; have hcz49_0 : w47.cell? ⟨gb226, 0, none⟩ = some (.string (⟨#[]⟩ : ByteArray)) := (blk_cell BK226.out 0).trans rfl; have hcz49_1 : w47.cell? ⟨gb226, 1, none⟩ = some (.int .u8 0) := (blk_cell BK226.out 1).trans rfl; have hfz49_0 := bkf BK226.out 0; have hfz49_1 := bkf BK226.out 1) | ((with_reducible refine gate_store (t := 99) (p := 9) rfl ?_); (try (rw [drewN_self w47]; generalize hq_ : World.drewN w47 _ = w47; have n0_ := amk (Kd.R_at hq_ HO_7.out); have n1_ := amk (blk_at hq_ BK218.out); have n2_ := amk (blk_at hq_ BK226.out); have n3_ := amk (below_at hq_ HB.out); clear hq_ HO_7 BK218 BK226 HB; have HO_7 := n0_; have BK218 := n1_; have BK226 := n2_; have HB := n3_; clear n0_ n1_ n2_ n3_)); refine store_event (t := 99) (p := 9) (v := ?vo_w50) (w1 := ((w47.setCell ⟨gb226, 0, none⟩ (.string ((rd_T99 ((rd_T64 l0 a1).f2) x8_4).f0))).setCell ⟨gb226, 1, none⟩ (.int .u8 ((rd_T99 ((rd_T64 l0 a1).f2) x8_4).f1)))) ?hg ?ho ?hn ?hr ?_; (case ho => rfl); (case hg => rfl); (case hn => rfl); (case hr => first | (go_simp; done) | (go_simp; rfl)); intro w50 hw; have n0_ : Aside0 (Kd.R k99 99 w50 w.heap.size (fun k_ => k_ ≠ gb226) v223 t222) := ⟨(by rw [hw]; exact (by (with_reducible repeat (first | apply Kd.R_alloc | apply Kd.R_drewN | apply Kd.R_drew)); exact Kd.R_mono (Kd.R_far (p := ⟨gb226, 1, none⟩) (Kd.R_far (p := ⟨gb226, 0, none⟩) (Kd.R_mono HO_7.out (fun k_ hk => (⟨hk, hk.2⟩ : _ ∧ k_ ≠ gb226))) (fun _ hk => hk.2) (.string ((rd_T99 ((rd_T64 l0 a1).f2) x8_4).f0))) (fun _ hk => hk.2) (.int .u8 ((rd_T99 ((rd_T64 l0 a1).f2) x8_4).f1))) (fun _ hk => hk.1.2)))⟩; have n1_ : Aside0 (w50.heap[gb218]? = some (.cells #[.string ((rd_T64 l0 a1).f0), .int .i64 ((rd_T64 l0 a1).f1), .slice (some ad225) ((rd_T64 l0 a1).f2).length c217_2] 64 (0, 0))) := ⟨(by rw [hw]; exact (by (with_reducible repeat (first | refine bkd ?_ _ | refine blk_drew ?_ | refine bka ?_ _)); refine blk_far ?_ NB218_226.out _; (with_reducible repeat (first | refine bkd ?_ _ | refine blk_drew ?_ | refine bka ?_ _)); refine blk_far ?_ NB218_226.out _; (with_reducible repeat (first | refine bkd ?_ _ | refine blk_drew ?_ | refine bka ?_ _)); exact BK218.out))⟩; have n2_ : Aside0 (w50.heap[gb226]? = some (.cells #[.string ((rd_T99 ((rd_T64 l0 a1).f2) x8_4).f0), .int .u8 ((rd_T99 ((rd_T64 l0 a1).f2) x8_4).f1)] 99 (0, 0))) := ⟨(by rw [hw]; exact (by (with_reducible repeat (first | refine bkd ?_ _ | refine blk_drew ?_ | refine bka ?_ _)); refine blk_put (cs := #[.string ((rd_T99 ((rd_T64 l0 a1).f2) x8_4).f0), .int .u8 0]) ?_ 1 _ rfl; (with_reducible repeat (first | refine bkd ?_ _ | refine blk_drew ?_ | refine bka ?_ _)); refine blk_put (cs := #[.string (⟨#[]⟩ : ByteArray), .int .u8 0]) ?_ 0 _ rfl; (with_reducible repeat (first | refine bkd ?_ _ | refine blk_drew ?_ | refine bka ?_ _)); exact BK226.out))⟩; have n3_ : Aside0 (Below w.heap.size w w50) := ⟨(by rw [hw]; exact (by repeat (first | (with_reducible first | exact HB.out | apply bal | apply pbd | apply bdr | refine below_set ?_ GE218.out | refine below_set ?_ GE226.out) | exact HB.out)))⟩; clear hw; clear HO_7; clear BK218; clear BK226; clear HB; have HO_7 := n0_; have BK218 := n1_; have BK226 := n2_; have HB := n3_; clear n0_ n1_ n2_ n3_; have hcz51_0 : w50.cell? ⟨gb226, 0, none⟩ = some (.string ((rd_T99 ((rd_T64 l0 a1).f2) x8_4).f0)) := (blk_cell BK226.out 0).trans rfl; have hcz51_1 : w50.cell? ⟨gb226, 1, none⟩ = some (.int .u8 ((rd_T99 ((rd_T64 l0 a1).f2) x8_4).f1)) := (blk_cell BK226.out 1).trans rfl; have hfz51_0 := bkf BK226.out 0; have hfz51_1 := bkf BK226.out 1) | (go_at_call 40; (with_reducible refine (provisoref02_IsName.calls k4 ((rd_T99 ((rd_T64 l0 a1).f2) x8_4).f0) true _ A33.out).mono ?_); rintro e w' ⟨rfl, ⟨nd, rfl⟩⟩; (try first | exact ⟨rfl, _, World.drewN_drewN _ _ _⟩ | exact ⟨rfl, _, Eq.trans (World.drewN_drewN _ _ _) (congrArg (World.drewN _) (Nat.add_assoc _ _ _))⟩); obtain ⟨Ao52, co52, eo52⟩ := Kd.R_slice HO_7.out; subst eo52) | (go_at_call 114; (with_reducible refine (provisoref02_has.calls k4 _ _ t222 ((rd_T99 ((rd_T64 l0 a1).f2) x8_4).f0) false _ ?side1 ?side2 A35.out).mono ?_); (case side1 => repeat (first | exact (Kd.R_reads' HO_7.out).2.2 | (with_reducible refine Kd.C_alloc ?_ _) | (with_reducible refine Kd.C_drewN ?_ _) | (with_reducible refine Kd.C_drew ?_))); (case side2 => exact (Kd.R_reads' HO_7.out).2.1); rintro e w' ⟨rfl, ⟨nd, rfl⟩⟩; (try first | exact ⟨rfl, _, World.drewN_drewN _ _ _⟩ | exact ⟨rfl, _, Eq.trans (World.drewN_drewN _ _ _) (congrArg (World.drewN _) (Nat.add_assoc _ _ _))⟩); have hcz53_0 : w50.cell? ⟨gb218, 0, none⟩ = some (.string ((rd_T64 l0 a1).f0)) := (blk_cell BK218.out 0).trans rfl; have hcz53_1 : w50.cell? ⟨gb218, 1, none⟩ = some (.int .i64 ((rd_T64 l0 a1).f1)) := (blk_cell BK218.out 1).trans rfl; have hcz53_2 : w50.cell? ⟨gb218, 2, none⟩ = some (.slice (some ad225) ((rd_T64 l0 a1).f2).length c217_2) := (blk_cell BK218.out 2).trans rfl; have hfz53_0 := bkf BK218.out 0; have hfz53_1 := bkf BK218.out 1; have hfz53_2 := bkf BK218.out 2; have q54 : (x8_4 : Int) ≤ ((((rd_T64 l0 a1).f2).length : Int) : Int) := of_decide_eq_true (by first | (with_reducible assumption) | assumption); obtain ⟨i054, hi054, _, hsz54, _⟩ := info_parts info99; have hroom54 : ((rd_T64 l0 a1).f2).length ≤ c217_2 := HC217_2.out; have hC54 : Kd.C k99 _ (some ad225) ((rd_T64 l0 a1).f2).length ((rd_T64 l0 a1).f2) := HR217_2.out; have hcut54 := cut_to (P := Try.prog) 62 99 .i64 Try.underlying62 hi054 (some ad225) ((rd_T64 l0 a1).f2).length c217_2 x8_4 (of_decide_eq_true (by first | (with_reducible assumption) | assumption)) q54 hroom54; have hr54 := Kd.C_take (m := (x8_4 : Int).toNat) hC54 (by omega); have hy54 : y229.length = (x8_4 : Int).toNat := (by rw [Ny229.out, List.length_take]; omega); rw [← Ny229.out] at hr54; rw [← hy54] at hcut54; have HR232 := amk hr54; have HC232 := amk (show y229.length ≤ c217_2 from by omega); clear hr54 hC54 hroom54 hi054 hsz54; have KY54 := amk hy54; clear hy54; replace q54 := eq_true q54) | (go_at_call 114; (with_reducible refine (provisoref02_has.calls k4 _ _ y229 ((rd_T99 ((rd_T64 l0 a1).f2) x8_4).f0) true _ ?side1 ?side2 A44.out).mono ?_); (case side1 => repeat (first | exact (Kd.C_below HR232.out (by repeat (first | (with_reducible first | exact HB.out | apply bal | apply pbd | apply bdr | refine below_set ?_ GE218.out | refine below_set ?_ GE226.out) | exact HB.out))) | (with_reducible refine Kd.C_alloc ?_ _) | (with_reducible refine Kd.C_drewN ?_ _) | (with_reducible refine Kd.C_drew ?_))); (case side2 => exact HC232.out); rintro e w' ⟨rfl, ⟨nd, rfl⟩⟩; (try first | exact ⟨rfl, _, World.drewN_drewN _ _ _⟩ | exact ⟨rfl, _, Eq.trans (World.drewN_drewN _ _ _) (congrArg (World.drewN _) (Nat.add_assoc _ _ _))⟩))))
                                          go_ret
                                          exact ⟨by first | rfl | (simp [errW_none, errW_some] <;> rfl) | (simp [*, errW_none, errW_some] <;> rfl), by repeat (first | (with_reducible first | exact HB.out | apply bal | apply pbd | apply bdr | refine below_set ?_ GE218.out | refine below_set ?_ GE226.out) | exact HB.out)⟩
                                        · replace c45 := Bool.eq_false_iff.mpr c45
                                          subst c45
                                          have H1 : ((provisoref02_Stored.f l0 ((rd_T99 ((rd_T64 l0 a1).f2) x8_4).f1)).bind fun t234 => (if t234 = true then (provisoref02_fault.l1 k4 l0 t222 (wrap64 (x8_4 + 1)) ((rd_T64 l0 a1).f0) ((rd_T64 l0 a1).f1) ((rd_T64 l0 a1).f2)) else (some 22))) = some r := by rw [if_neg (show ¬ (false = true) by decide)] at H; exact H
                                          clear H
                                          have H := H1
                                          clear H1
                                          replace H := Option.bind_eq_some_iff.mp H
                                          obtain ⟨t234, A550, H⟩ := H
                                          replace H : (if t234 = true then (provisoref02_fault.l1 k4 l0 t222 (wrap64 (x8_4 + 1)) ((rd_T64 l0 a1).f0) ((rd_T64 l0 a1).f1) ((rd_T64 l0 a1).f2)) else (some 22)) = some r := H
                                          have A55 := amk A550
                                          clear A550
                                          by_cases c56 : t234 = true
                                          · subst c56
                                            have H1 : (provisoref02_fault.l1 k4 l0 t222 (wrap64 (x8_4 + 1)) ((rd_T64 l0 a1).f0) ((rd_T64 l0 a1).f1) ((rd_T64 l0 a1).f2)) = some r := by rw [if_pos rfl] at H; exact H
                                            clear H
                                            have H := H1
                                            clear H1
                                            have H' := amk H
                                            clear H
                                            have hcz57_0 : wr.cell? ⟨gb218, 0, none⟩ = some (.string ((rd_T64 l0 a1).f0)) := (blk_cell BK218.out 0).trans rfl
                                            have hcz57_1 : wr.cell? ⟨gb218, 1, none⟩ = some (.int .i64 ((rd_T64 l0 a1).f1)) := (blk_cell BK218.out 1).trans rfl
                                            have hcz57_2 : wr.cell? ⟨gb218, 2, none⟩ = some (.slice A217_2 ((rd_T64 l0 a1).f2).length c217_2) := (blk_cell BK218.out 2).trans rfl
                                            have hfz57_0 := bkf BK218.out 0
                                            have hfz57_1 := bkf BK218.out 1
                                            have hfz57_2 := bkf BK218.out 2
                                            have p225 : 0 ≤ (x8_4 : Int) := of_decide_eq_true (by first | (with_reducible assumption) | assumption)
                                            have q225 : x8_4 < (((rd_T64 l0 a1).f2).length : Int) := of_decide_eq_true (by first | (with_reducible assumption) | assumption)
                                            obtain ⟨ad225, e225, hx225_0, hx225_1⟩ := at_T99 HR217_2.out x8_4 p225 q225
                                            cases e225
                                            replace hx225_0 := (HB.out.cell (blc w _ hx225_0)).trans hx225_0
                                            replace hx225_1 := (HB.out.cell (blc w _ hx225_1)).trans hx225_1
                                            replace p225 := eq_true p225
                                            replace q225 := eq_true q225
                                            go_wp2_with (first | ((with_reducible refine gate_dst (N := 9) rfl ?_); refine box_event ?hg (N := 9) ?hd (cs := #[.string (⟨#[]⟩ : ByteArray), .int .u8 0]) (t := 99) ?hr ?_; (case hd => rfl); (case hg => rfl); (case hr => first | (go_simp; done) | (go_simp; rfl)); intro gb226 hg w58 hbox hb; have n0_ := amk (Kd.R_below (Kd.R_elderB (by (with_reducible repeat (first | apply Kd.R_alloc | apply Kd.R_drewN | apply Kd.R_drew)); exact HO_7.out) gb226 (Nat.le_of_eq hg.symm)) hb); have n1_ := amk (blk_below (g := gb218) (o := .cells #[.string ((rd_T64 l0 a1).f0), .int .i64 ((rd_T64 l0 a1).f1), .slice (some ad225) ((rd_T64 l0 a1).f2).length c217_2] 64 (0, 0)) (by (with_reducible repeat (first | refine bkd ?_ _ | refine blk_drew ?_ | refine bka ?_ _)); exact BK218.out) hb); have n2_ := amk (below_step (by repeat (first | (with_reducible first | exact HB.out | apply bal | apply pbd | apply bdr | refine below_set ?_ GE218.out) | exact HB.out)) hb); have n3_ := amk (hbox); have n4_ := amk ((by rw [hg]; exact (below_size (by repeat (first | (with_reducible first | exact HB.out | apply bal | apply pbd | apply bdr | refine below_set ?_ GE218.out) | exact HB.out))) : w.heap.size ≤ gb226)); have n5_ := amk ((by rw [hg]; exact (below_size (by repeat (first | (with_reducible first | exact HB.out | apply bal | apply pbd | apply bdr | refine below_set ?_ GE218.out) | exact HB.out))) : w.heap.size ≤ gb226)); have n6_ := amk ((by rw [hg]; exact Nat.ne_of_lt (blk_lt (g := gb218) (o := .cells #[.string ((rd_T64 l0 a1).f0), .int .i64 ((rd_T64 l0 a1).f1), .slice (some ad225) ((rd_T64 l0 a1).f2).length c217_2] 64 (0, 0)) (by (with_reducible repeat (first | refine bkd ?_ _ | refine blk_drew ?_ | refine bka ?_ _)); exact BK218.out)) : gb218 ≠ gb226)); have n7_ := amk ((by rw [hg]; exact Nat.ne_of_gt (blk_lt (g := gb218) (o := .cells #[.string ((rd_T64 l0 a1).f0), .int .i64 ((rd_T64 l0 a1).f1), .slice (some ad225) ((rd_T64 l0 a1).f2).length c217_2] 64 (0, 0)) (by (with_reducible repeat (first | refine bkd ?_ _ | refine blk_drew ?_ | refine bka ?_ _)); exact BK218.out)) : gb226 ≠ gb218)); clear HO_7; clear BK218; clear HB; have HO_7 := n0_; have BK218 := n1_; have HB := n2_; have BK226 := n3_; have GW226 := n4_; have GE226 := n5_; have NB218_226 := n6_; have NB226_218 := n7_; clear n0_ n1_ n2_ n3_ n4_ n5_ n6_ n7_; clear hb hbox hg; have hnb59 := NB226_218.out; have hnc59 := NB218_226.out; have hcz60_0 : w58.cell? ⟨gb226, 0, none⟩ = some (.string (⟨#[]⟩ : ByteArray)) := (blk_cell BK226.out 0).trans rfl; have hcz60_1 : w58.cell? ⟨gb226, 1, none⟩ = some (.int .u8 0) := (blk_cell BK226.out 1).trans rfl; have hfz60_0 := bkf BK226.out 0; have hfz60_1 := bkf BK226.out 1) | ((with_reducible refine gate_store (t := 99) (p := 9) rfl ?_); (try (rw [drewN_self w58]; generalize hq_ : World.drewN w58 _ = w58; have n0_ := amk (Kd.R_at hq_ HO_7.out); have n1_ := amk (blk_at hq_ BK218.out); have n2_ := amk (blk_at hq_ BK226.out); have n3_ := amk (below_at hq_ HB.out); clear hq_ HO_7 BK218 BK226 HB; have HO_7 := n0_; have BK218 := n1_; have BK226 := n2_; have HB := n3_; clear n0_ n1_ n2_ n3_)); refine store_event (t := 99) (p := 9) (v := ?vo_w61) (w1 := ((w58.setCell ⟨gb226, 0, none⟩ (.string ((rd_T99 ((rd_T64 l0 a1).f2) x8_4).f0))).setCell ⟨gb226, 1, none⟩ (.int .u8 ((rd_T99 ((rd_T64 l0 a1).f2) x8_4).f1)))) ?hg ?ho ?hn ?hr ?_; (case ho => rfl); (case hg => rfl); (case hn => rfl); (case hr => first | (go_simp; done) | (go_simp; rfl)); intro w61 hw; have n0_ : Aside0 (Kd.R k99 99 w61 w.heap.size (fun k_ => k_ ≠ gb226) v223 t222) := ⟨(by rw [hw]; exact (by (with_reducible repeat (first | apply Kd.R_alloc | apply Kd.R_drewN | apply Kd.R_drew)); exact Kd.R_mono (Kd.R_far (p := ⟨gb226, 1, none⟩) (Kd.R_far (p := ⟨gb226, 0, none⟩) (Kd.R_mono HO_7.out (fun k_ hk => (⟨hk, hk.2⟩ : _ ∧ k_ ≠ gb226))) (fun _ hk => hk.2) (.string ((rd_T99 ((rd_T64 l0 a1).f2) x8_4).f0))) (fun _ hk => hk.2) (.int .u8 ((rd_T99 ((rd_T64 l0 a1).f2) x8_4).f1))) (fun _ hk => hk.1.2)))⟩; have n1_ : Aside0 (w61.heap[gb218]? = some (.cells #[.string ((rd_T64 l0 a1).f0), .int .i64 ((rd_T64 l0 a1).f1), .slice (some ad225) ((rd_T64 l0 a1).f2).length c217_2] 64 (0, 0))) := ⟨(by rw [hw]; exact (by (with_reducible repeat (first | refine bkd ?_ _ | refine blk_drew ?_ | refine bka ?_ _)); refine blk_far ?_ NB218_226.out _; (with_reducible repeat (first | refine bkd ?_ _ | refine blk_drew ?_ | refine bka ?_ _)); refine blk_far ?_ NB218_226.out _; (with_reducible repeat (first | refine bkd ?_ _ | refine blk_drew ?_ | refine bka ?_ _)); exact BK218.out))⟩; have n2_ : Aside0 (w61.heap[gb226]? = some (.cells #[.string ((rd_T99 ((rd_T64 l0 a1).f2) x8_4).f0), .int .u8 ((rd_T99 ((rd_T64 l0 a1).f2) x8_4).f1)] 99 (0, 0))) := ⟨(by rw [hw]; exact (by (with_reducible repeat (first | refine bkd ?_ _ | refine blk_drew ?_ | refine bka ?_ _)); refine blk_put (cs := #[.string ((rd_T99 ((rd_T64 l0 a1).f2) x8_4).f0), .int .u8 0]) ?_ 1 _ rfl; (with_reducible repeat (first | refine bkd ?_ _ | refine blk_drew ?_ | refine bka ?_ _)); refine blk_put (cs := #[.string (⟨#[]⟩ : ByteArray), .int .u8 0]) ?_ 0 _ rfl; (with_reducible repeat (first | refine bkd ?_ _ | refine blk_drew ?_ | refine bka ?_ _)); exact BK226.out))⟩; have n3_ : Aside0 (Below w.heap.size w w61) := ⟨(by rw [hw]; exact (by repeat (first | (with_reducible first | exact HB.out | apply bal | apply pbd | apply bdr | refine below_set ?_ GE218.out | refine below_set ?_ GE226.out) | exact HB.out)))⟩; clear hw; clear HO_7; clear BK218; clear BK226; clear HB; have HO_7 := n0_; have BK218 := n1_; have BK226 := n2_; have HB := n3_; clear n0_ n1_ n2_ n3_; have hcz62_0 : w61.cell? ⟨gb226, 0, none⟩ = some (.string ((rd_T99 ((rd_T64 l0 a1).f2) x8_4).f0)) := (blk_cell BK226.out 0).trans rfl; have hcz62_1 : w61.cell? ⟨gb226, 1, none⟩ = some (.int .u8 ((rd_T99 ((rd_T64 l0 a1).f2) x8_4).f1)) := (blk_cell BK226.out 1).trans rfl; have hfz62_0 := bkf BK226.out 0; have hfz62_1 := bkf BK226.out 1) | (go_at_call 40; (with_reducible refine (provisoref02_IsName.calls k4 ((rd_T99 ((rd_T64 l0 a1).f2) x8_4).f0) true _ A33.out).mono ?_); rintro e w' ⟨rfl, ⟨nd, rfl⟩⟩; (try first | exact ⟨rfl, _, World.drewN_drewN _ _ _⟩ | exact ⟨rfl, _, Eq.trans (World.drewN_drewN _ _ _) (congrArg (World.drewN _) (Nat.add_assoc _ _ _))⟩); obtain ⟨Ao63, co63, eo63⟩ := Kd.R_slice HO_7.out; subst eo63) | (go_at_call 114; (with_reducible refine (provisoref02_has.calls k4 _ _ t222 ((rd_T99 ((rd_T64 l0 a1).f2) x8_4).f0) false _ ?side1 ?side2 A35.out).mono ?_); (case side1 => repeat (first | exact (Kd.R_reads' HO_7.out).2.2 | (with_reducible refine Kd.C_alloc ?_ _) | (with_reducible refine Kd.C_drewN ?_ _) | (with_reducible refine Kd.C_drew ?_))); (case side2 => exact (Kd.R_reads' HO_7.out).2.1); rintro e w' ⟨rfl, ⟨nd, rfl⟩⟩; (try first | exact ⟨rfl, _, World.drewN_drewN _ _ _⟩ | exact ⟨rfl, _, Eq.trans (World.drewN_drewN _ _ _) (congrArg (World.drewN _) (Nat.add_assoc _ _ _))⟩); have hcz64_0 : w61.cell? ⟨gb218, 0, none⟩ = some (.string ((rd_T64 l0 a1).f0)) := (blk_cell BK218.out 0).trans rfl; have hcz64_1 : w61.cell? ⟨gb218, 1, none⟩ = some (.int .i64 ((rd_T64 l0 a1).f1)) := (blk_cell BK218.out 1).trans rfl; have hcz64_2 : w61.cell? ⟨gb218, 2, none⟩ = some (.slice (some ad225) ((rd_T64 l0 a1).f2).length c217_2) := (blk_cell BK218.out 2).trans rfl; have hfz64_0 := bkf BK218.out 0; have hfz64_1 := bkf BK218.out 1; have hfz64_2 := bkf BK218.out 2; have q65 : (x8_4 : Int) ≤ ((((rd_T64 l0 a1).f2).length : Int) : Int) := of_decide_eq_true (by first | (with_reducible assumption) | assumption); obtain ⟨i065, hi065, _, hsz65, _⟩ := info_parts info99; have hroom65 : ((rd_T64 l0 a1).f2).length ≤ c217_2 := HC217_2.out; have hC65 : Kd.C k99 _ (some ad225) ((rd_T64 l0 a1).f2).length ((rd_T64 l0 a1).f2) := HR217_2.out; have hcut65 := cut_to (P := Try.prog) 62 99 .i64 Try.underlying62 hi065 (some ad225) ((rd_T64 l0 a1).f2).length c217_2 x8_4 (of_decide_eq_true (by first | (with_reducible assumption) | assumption)) q65 hroom65; have hr65 := Kd.C_take (m := (x8_4 : Int).toNat) hC65 (by omega); have hy65 : y229.length = (x8_4 : Int).toNat := (by rw [Ny229.out, List.length_take]; omega); rw [← Ny229.out] at hr65; rw [← hy65] at hcut65; have HR232 := amk hr65; have HC232 := amk (show y229.length ≤ c217_2 from by omega); clear hr65 hC65 hroom65 hi065 hsz65; have KY65 := amk hy65; clear hy65; replace q65 := eq_true q65) | (go_at_call 114; (with_reducible refine (provisoref02_has.calls k4 _ _ y229 ((rd_T99 ((rd_T64 l0 a1).f2) x8_4).f0) false _ ?side1 ?side2 A44.out).mono ?_); (case side1 => repeat (first | exact (Kd.C_below HR232.out (by repeat (first | (with_reducible first | exact HB.out | apply bal | apply pbd | apply bdr | refine below_set ?_ GE218.out | refine below_set ?_ GE226.out) | exact HB.out))) | (with_reducible refine Kd.C_alloc ?_ _) | (with_reducible refine Kd.C_drewN ?_ _) | (with_reducible refine Kd.C_drew ?_))); (case side2 => exact HC232.out); rintro e w' ⟨rfl, ⟨nd, rfl⟩⟩; (try first | exact ⟨rfl, _, World.drewN_drewN _ _ _⟩ | exact ⟨rfl, _, Eq.trans (World.drewN_drewN _ _ _) (congrArg (World.drewN _) (Nat.add_assoc _ _ _))⟩)) | (go_at_call 115; (with_reducible refine (provisoref02_Stored.calls _ _ l0 ((rd_T99 ((rd_T64 l0 a1).f2) x8_4).f1) true _ ?side1 ?side2 A55.out).mono ?_); (case side1 => repeat (first | exact (Kd.C_below HR0.out (by repeat (first | (with_reducible first | exact HB.out | apply bal | apply pbd | apply bdr | refine below_set ?_ GE218.out | refine below_set ?_ GE226.out) | exact HB.out))) | (with_reducible refine Kd.C_alloc ?_ _) | (with_reducible refine Kd.C_drewN ?_ _) | (with_reducible refine Kd.C_drew ?_))); (case side2 => exact HC0.out); rintro e w' ⟨rfl, ⟨nd, rfl⟩⟩; (try first | exact ⟨rfl, _, World.drewN_drewN _ _ _⟩ | exact ⟨rfl, _, Eq.trans (World.drewN_drewN _ _ _) (congrArg (World.drewN _) (Nat.add_assoc _ _ _))⟩)))
                                            repeat (go_quiet (first | ((with_reducible refine gate_dst (N := 9) rfl ?_); refine box_event ?hg (N := 9) ?hd (cs := #[.string (⟨#[]⟩ : ByteArray), .int .u8 0]) (t := 99) ?hr ?_; (case hd => rfl); (case hg => rfl); (case hr => first | (go_simp; done) | (go_simp; rfl)); intro gb226 hg w58 hbox hb; have n0_ := amk (Kd.R_below (Kd.R_elderB (by (with_reducible repeat (first | apply Kd.R_alloc | apply Kd.R_drewN | apply Kd.R_drew)); exact HO_7.out) gb226 (Nat.le_of_eq hg.symm)) hb); have n1_ := amk (blk_below (g := gb218) (o := .cells #[.string ((rd_T64 l0 a1).f0), .int .i64 ((rd_T64 l0 a1).f1), .slice (some ad225) ((rd_T64 l0 a1).f2).length c217_2] 64 (0, 0)) (by (with_reducible repeat (first | refine bkd ?_ _ | refine blk_drew ?_ | refine bka ?_ _)); exact BK218.out) hb); have n2_ := amk (below_step (by repeat (first | (with_reducible first | exact HB.out | apply bal | apply pbd | apply bdr | refine below_set ?_ GE218.out) | exact HB.out)) hb); have n3_ := amk (hbox); have n4_ := amk ((by rw [hg]; exact (below_size (by repeat (first | (with_reducible first | exact HB.out | apply bal | apply pbd | apply bdr | refine below_set ?_ GE218.out) | exact HB.out))) : w.heap.size ≤ gb226)); have n5_ := amk ((by rw [hg]; exact (below_size (by repeat (first | (with_reducible first | exact HB.out | apply bal | apply pbd | apply bdr | refine below_set ?_ GE218.out) | exact HB.out))) : w.heap.size ≤ gb226)); have n6_ := amk ((by rw [hg]; exact Nat.ne_of_lt (blk_lt (g := gb218) (o := .cells #[.string ((rd_T64 l0 a1).f0), .int .i64 ((rd_T64 l0 a1).f1), .slice (some ad225) ((rd_T64 l0 a1).f2).length c217_2] 64 (0, 0)) (by (with_reducible repeat (first | refine bkd ?_ _ | refine blk_drew ?_ | refine bka ?_ _)); exact BK218.out)) : gb218 ≠ gb226)); have n7_ := amk ((by rw [hg]; exact Nat.ne_of_gt (blk_lt (g := gb218) (o := .cells #[.string ((rd_T64 l0 a1).f0), .int .i64 ((rd_T64 l0 a1).f1), .slice (some ad225) ((rd_T64 l0 a1).f2).length c217_2] 64 (0, 0)) (by (with_reducible repeat (first | refine bkd ?_ _ | refine blk_drew ?_ | refine bka ?_ _)); exact BK218.out)) : gb226 ≠ gb218)); clear HO_7; clear BK218; clear HB; have HO_7 := n0_; have BK218 := n1_; have HB := n2_; have BK226 := n3_; have GW226 := n4_; have GE226 := n5_; have NB218_226 := n6_; have NB226_218 := n7_; clear n0_ n1_ n2_ n3_ n4_ n5_ n6_ n7_; clear hb hbox hg; have hnb59 := NB226_218.out; have hnc59 := NB218_226.out; have hcz60_0 : w58.cell? ⟨gb226, 0, none⟩ = some (.string (⟨#[]⟩ : ByteArray)) := (blk_cell BK226.out 0).trans rfl; have hcz60_1 : w58.cell? ⟨gb226, 1, none⟩ = some (.int .u8 0) := (blk_cell BK226.out 1).trans rfl; have hfz60_0 := bkf BK226.out 0; have hfz60_1 := bkf BK226.out 1) | ((with_reducible refine gate_store (t := 99) (p := 9) rfl ?_); (try (rw [drewN_self w58]; generalize hq_ : World.drewN w58 _ = w58; have n0_ := amk (Kd.R_at hq_ HO_7.out); have n1_ := amk (blk_at hq_ BK218.out); have n2_ := amk (blk_at hq_ BK226.out); have n3_ := amk (below_at hq_ HB.out); clear hq_ HO_7 BK218 BK226 HB; have HO_7 := n0_; have BK218 := n1_; have BK226 := n2_; have HB := n3_; clear n0_ n1_ n2_ n3_)); refine store_event (t := 99) (p := 9) (v := ?vo_w61) (w1 := ((w58.setCell ⟨gb226, 0, none⟩ (.string ((rd_T99 ((rd_T64 l0 a1).f2) x8_4).f0))).setCell ⟨gb226, 1, none⟩ (.int .u8 ((rd_T99 ((rd_T64 l0 a1).f2) x8_4).f1)))) ?hg ?ho ?hn ?hr ?_; (case ho => rfl); (case hg => rfl); (case hn => rfl); (case hr => first | (go_simp; done) | (go_simp; rfl)); intro w61 hw; have n0_ : Aside0 (Kd.R k99 99 w61 w.heap.size (fun k_ => k_ ≠ gb226) v223 t222) := ⟨(by rw [hw]; exact (by (with_reducible repeat (first | apply Kd.R_alloc | apply Kd.R_drewN | apply Kd.R_drew)); exact Kd.R_mono (Kd.R_far (p := ⟨gb226, 1, none⟩) (Kd.R_far (p := ⟨gb226, 0, none⟩) (Kd.R_mono HO_7.out (fun k_ hk => (⟨hk, hk.2⟩ : _ ∧ k_ ≠ gb226))) (fun _ hk => hk.2) (.string ((rd_T99 ((rd_T64 l0 a1).f2) x8_4).f0))) (fun _ hk => hk.2) (.int .u8 ((rd_T99 ((rd_T64 l0 a1).f2) x8_4).f1))) (fun _ hk => hk.1.2)))⟩; have n1_ : Aside0 (w61.heap[gb218]? = some (.cells #[.string ((rd_T64 l0 a1).f0), .int .i64 ((rd_T64 l0 a1).f1), .slice (some ad225) ((rd_T64 l0 a1).f2).length c217_2] 64 (0, 0))) := ⟨(by rw [hw]; exact (by (with_reducible repeat (first | refine bkd ?_ _ | refine blk_drew ?_ | refine bka ?_ _)); refine blk_far ?_ NB218_226.out _; (with_reducible repeat (first | refine bkd ?_ _ | refine blk_drew ?_ | refine bka ?_ _)); refine blk_far ?_ NB218_226.out _; (with_reducible repeat (first | refine bkd ?_ _ | refine blk_drew ?_ | refine bka ?_ _)); exact BK218.out))⟩; have n2_ : Aside0 (w61.heap[gb226]? = some (.cells #[.string ((rd_T99 ((rd_T64 l0 a1).f2) x8_4).f0), .int .u8 ((rd_T99 ((rd_T64 l0 a1).f2) x8_4).f1)] 99 (0, 0))) := ⟨(by rw [hw]; exact (by (with_reducible repeat (first | refine bkd ?_ _ | refine blk_drew ?_ | refine bka ?_ _)); refine blk_put (cs := #[.string ((rd_T99 ((rd_T64 l0 a1).f2) x8_4).f0), .int .u8 0]) ?_ 1 _ rfl; (with_reducible repeat (first | refine bkd ?_ _ | refine blk_drew ?_ | refine bka ?_ _)); refine blk_put (cs := #[.string (⟨#[]⟩ : ByteArray), .int .u8 0]) ?_ 0 _ rfl; (with_reducible repeat (first | refine bkd ?_ _ | refine blk_drew ?_ | refine bka ?_ _)); exact BK226.out))⟩; have n3_ : Aside0 (Below w.heap.size w w61) := ⟨(by rw [hw]; exact (by repeat (first | (with_reducible first | exact HB.out | apply bal | apply pbd | apply bdr | refine below_set ?_ GE218.out | refine below_set ?_ GE226.out) | exact HB.out)))⟩; clear hw; clear HO_7; clear BK218; clear BK226; clear HB; have HO_7 := n0_; have BK218 := n1_; have BK226 := n2_; have HB := n3_; clear n0_ n1_ n2_ n3_; have hcz62_0 : w61.cell? ⟨gb226, 0, none⟩ = some (.string ((rd_T99 ((rd_T64 l0 a1).f2) x8_4).f0)) := (blk_cell BK226.out 0).trans rfl; have hcz62_1 : w61.cell? ⟨gb226, 1, none⟩ = some (.int .u8 ((rd_T99 ((rd_T64 l0 a1).f2) x8_4).f1)) := (blk_cell BK226.out 1).trans rfl; have hfz62_0 := bkf BK226.out 0; have hfz62_1 := bkf BK226.out 1) | (go_at_call 40; (with_reducible refine (provisoref02_IsName.calls k4 ((rd_T99 ((rd_T64 l0 a1).f2) x8_4).f0) true _ A33.out).mono ?_); rintro e w' ⟨rfl, ⟨nd, rfl⟩⟩; (try first | exact ⟨rfl, _, World.drewN_drewN _ _ _⟩ | exact ⟨rfl, _, Eq.trans (World.drewN_drewN _ _ _) (congrArg (World.drewN _) (Nat.add_assoc _ _ _))⟩); obtain ⟨Ao63, co63, eo63⟩ := Kd.R_slice HO_7.out; subst eo63) | (go_at_call 114; (with_reducible refine (provisoref02_has.calls k4 _ _ t222 ((rd_T99 ((rd_T64 l0 a1).f2) x8_4).f0) false _ ?side1 ?side2 A35.out).mono ?_); (case side1 => repeat (first | exact (Kd.R_reads' HO_7.out).2.2 | (with_reducible refine Kd.C_alloc ?_ _) | (with_reducible refine Kd.C_drewN ?_ _) | (with_reducible refine Kd.C_drew ?_))); (case side2 => exact (Kd.R_reads' HO_7.out).2.1); rintro e w' ⟨rfl, ⟨nd, rfl⟩⟩; (try first | exact ⟨rfl, _, World.drewN_drewN _ _ _⟩ | exact ⟨rfl, _, Eq.trans (World.drewN_drewN _ _ _) (congrArg (World.drewN _) (Nat.add_assoc _ _ _))⟩); have hcz64_0 : w61.cell? ⟨gb218, 0, none⟩ = some (.string ((rd_T64 l0 a1).f0)) := (blk_cell BK218.out 0).trans rfl; have hcz64_1 : w61.cell? ⟨gb218, 1, none⟩ = some (.int .i64 ((rd_T64 l0 a1).f1)) := (blk_cell BK218.out 1).trans rfl; have hcz64_2 : w61.cell? ⟨gb218, 2, none⟩ = some (.slice (some ad225) ((rd_T64 l0 a1).f2).length c217_2) := (blk_cell BK218.out 2).trans rfl; have hfz64_0 := bkf BK218.out 0; have hfz64_1 := bkf BK218.out 1; have hfz64_2 := bkf BK218.out 2; have q65 : (x8_4 : Int) ≤ ((((rd_T64 l0 a1).f2).length : Int) : Int) := of_decide_eq_true (by first | (with_reducible assumption) | assumption); obtain ⟨i065, hi065, _, hsz65, _⟩ := info_parts info99; have hroom65 : ((rd_T64 l0 a1).f2).length ≤ c217_2 := HC217_2.out; have hC65 : Kd.C k99 _ (some ad225) ((rd_T64 l0 a1).f2).length ((rd_T64 l0 a1).f2) := HR217_2.out; have hcut65 := cut_to (P := Try.prog) 62 99 .i64 Try.underlying62 hi065 (some ad225) ((rd_T64 l0 a1).f2).length c217_2 x8_4 (of_decide_eq_true (by first | (with_reducible assumption) | assumption)) q65 hroom65; have hr65 := Kd.C_take (m := (x8_4 : Int).toNat) hC65 (by omega); have hy65 : y229.length = (x8_4 : Int).toNat := (by rw [Ny229.out, List.length_take]; omega); rw [← Ny229.out] at hr65; rw [← hy65] at hcut65; have HR232 := amk hr65; have HC232 := amk (show y229.length ≤ c217_2 from by omega); clear hr65 hC65 hroom65 hi065 hsz65; have KY65 := amk hy65; clear hy65; replace q65 := eq_true q65) | (go_at_call 114; (with_reducible refine (provisoref02_has.calls k4 _ _ y229 ((rd_T99 ((rd_T64 l0 a1).f2) x8_4).f0) false _ ?side1 ?side2 A44.out).mono ?_); (case side1 => repeat (first | exact (Kd.C_below HR232.out (by repeat (first | (with_reducible first | exact HB.out | apply bal | apply pbd | apply bdr | refine below_set ?_ GE218.out | refine below_set ?_ GE226.out) | exact HB.out))) | (with_reducible refine Kd.C_alloc ?_ _) | (with_reducible refine Kd.C_drewN ?_ _) | (with_reducible refine Kd.C_drew ?_))); (case side2 => exact HC232.out); rintro e w' ⟨rfl, ⟨nd, rfl⟩⟩; (try first | exact ⟨rfl, _, World.drewN_drewN _ _ _⟩ | exact ⟨rfl, _, Eq.trans (World.drewN_drewN _ _ _) (congrArg (World.drewN _) (Nat.add_assoc _ _ _))⟩)) | (go_at_call 115; (with_reducible refine (provisoref02_Stored.calls _ _ l0 ((rd_T99 ((rd_T64 l0 a1).f2) x8_4).f1) true _ ?side1 ?side2 A55.out).mono ?_); (case side1 => repeat (first | exact (Kd.C_below HR0.out (by repeat (first | (with_reducible first | exact HB.out | apply bal | apply pbd | apply bdr | refine below_set ?_ GE218.out | refine below_set ?_ GE226.out) | exact HB.out))) | (with_reducible refine Kd.C_alloc ?_ _) | (with_reducible refine Kd.C_drewN ?_ _) | (with_reducible refine Kd.C_drew ?_))); (case side2 => exact HC0.out); rintro e w' ⟨rfl, ⟨nd, rfl⟩⟩; (try first | exact ⟨rfl, _, World.drewN_drewN _ _ _⟩ | exact ⟨rfl, _, Eq.trans (World.drewN_drewN _ _ _) (congrArg (World.drewN _) (Nat.add_assoc _ _ _))⟩))); try go_wp2_with (first | ((with_reducible refine gate_dst (N := 9) rfl ?_); refine box_event ?hg (N := 9) ?hd (cs := #[.string (⟨#[]⟩ : ByteArray), .int .u8 0]) (t := 99) ?hr ?_; (case hd => rfl); (case hg => rfl); (case hr => first | (go_simp; done) | (go_simp; rfl)); intro gb226 hg w58 hbox hb; have n0_ := amk (Kd.R_below (Kd.R_elderB (by (with_reducible repeat (first | apply Kd.R_alloc | apply Kd.R_drewN | apply Kd.R_drew)); exact HO_7.out) gb226 (Nat.le_of_eq hg.symm)) hb); have n1_ := amk (blk_below (g := gb218) (o := .cells #[.string ((rd_T64 l0 a1).f0), .int .i64 ((rd_T64 l0 a1).f1), .slice (some ad225) ((rd_T64 l0 a1).f2).length c217_2] 64 (0, 0)) (by (with_reducible repeat (first | refine bkd ?_ _ | refine blk_drew ?_ | refine bka ?_ _)); exact BK218.out) hb); have n2_ := amk (below_step (by repeat (first | (with_reducible first | exact HB.out | apply bal | apply pbd | apply bdr | refine below_set ?_ GE218.out) | exact HB.out)) hb); have n3_ := amk (hbox); have n4_ := amk ((by rw [hg]; exact (below_size (by repeat (first | (with_reducible first | exact HB.out | apply bal | apply pbd | apply bdr | refine below_set ?_ GE218.out) | exact HB.out))) : w.heap.size ≤ gb226)); have n5_ := amk ((by rw [hg]; exact (below_size (by repeat (first | (with_reducible first | exact HB.out | apply bal | apply pbd | apply bdr | refine below_set ?_ GE218.out) | exact HB.out))) : w.heap.size ≤ gb226)); have n6_ := amk ((by rw [hg]; exact Nat.ne_of_lt (blk_lt (g := gb218) (o := .cells #[.string ((rd_T64 l0 a1).f0), .int .i64 ((rd_T64 l0 a1).f1), .slice (some ad225) ((rd_T64 l0 a1).f2).length c217_2] 64 (0, 0)) (by (with_reducible repeat (first | refine bkd ?_ _ | refine blk_drew ?_ | refine bka ?_ _)); exact BK218.out)) : gb218 ≠ gb226)); have n7_ := amk ((by rw [hg]; exact Nat.ne_of_gt (blk_lt (g := gb218) (o := .cells #[.string ((rd_T64 l0 a1).f0), .int .i64 ((rd_T64 l0 a1).f1), .slice (some ad225) ((rd_T64 l0 a1).f2).length c217_2] 64 (0, 0)) (by (with_reducible repeat (first | refine bkd ?_ _ | refine blk_drew ?_ | refine bka ?_ _)); exact BK218.out)) : gb226 ≠ gb218)); clear HO_7; clear BK218; clear HB; have HO_7 := n0_; have BK218 := n1_; have HB := n2_; have BK226 := n3_; have GW226 := n4_; have GE226 := n5_; have NB218_226 := n6_; have NB226_218 := n7_; clear n0_ n1_ n2_ n3_ n4_ n5_ n6_ n7_; clear hb hbox hg; have hnb59 := NB226_218.out; have hnc59 := NB218_226.out; have hcz60_0 : w58.cell? ⟨gb226, 0, none⟩ = some (.string (⟨#[]⟩ : ByteArray)) := (blk_cell BK226.out 0).trans rfl; have hcz60_1 : w58.cell? ⟨gb226, 1, none⟩ = some (.int .u8 0) := (blk_cell BK226.out 1).trans rfl; have hfz60_0 := bkf BK226.out 0; have hfz60_1 := bkf BK226.out 1) | ((with_reducible refine gate_store (t := 99) (p := 9) rfl ?_); (try (rw [drewN_self w58]; generalize hq_ : World.drewN w58 _ = w58; have n0_ := amk (Kd.R_at hq_ HO_7.out); have n1_ := amk (blk_at hq_ BK218.out); have n2_ := amk (blk_at hq_ BK226.out); have n3_ := amk (below_at hq_ HB.out); clear hq_ HO_7 BK218 BK226 HB; have HO_7 := n0_; have BK218 := n1_; have BK226 := n2_; have HB := n3_; clear n0_ n1_ n2_ n3_)); refine store_event (t := 99) (p := 9) (v := ?vo_w61) (w1 := ((w58.setCell ⟨gb226, 0, none⟩ (.string ((rd_T99 ((rd_T64 l0 a1).f2) x8_4).f0))).setCell ⟨gb226, 1, none⟩ (.int .u8 ((rd_T99 ((rd_T64 l0 a1).f2) x8_4).f1)))) ?hg ?ho ?hn ?hr ?_; (case ho => rfl); (case hg => rfl); (case hn => rfl); (case hr => first | (go_simp; done) | (go_simp; rfl)); intro w61 hw; have n0_ : Aside0 (Kd.R k99 99 w61 w.heap.size (fun k_ => k_ ≠ gb226) v223 t222) := ⟨(by rw [hw]; exact (by (with_reducible repeat (first | apply Kd.R_alloc | apply Kd.R_drewN | apply Kd.R_drew)); exact Kd.R_mono (Kd.R_far (p := ⟨gb226, 1, none⟩) (Kd.R_far (p := ⟨gb226, 0, none⟩) (Kd.R_mono HO_7.out (fun k_ hk => (⟨hk, hk.2⟩ : _ ∧ k_ ≠ gb226))) (fun _ hk => hk.2) (.string ((rd_T99 ((rd_T64 l0 a1).f2) x8_4).f0))) (fun _ hk => hk.2) (.int .u8 ((rd_T99 ((rd_T64 l0 a1).f2) x8_4).f1))) (fun _ hk => hk.1.2)))⟩; have n1_ : Aside0 (w61.heap[gb218]? = some (.cells #[.string ((rd_T64 l0 a1).f0), .int .i64 ((rd_T64 l0 a1).f1), .slice (some ad225) ((rd_T64 l0 a1).f2).length c217_2] 64 (0, 0))) := ⟨(by rw [hw]; exact (by (with_reducible repeat (first | refine bkd ?_ _ | refine blk_drew ?_ | refine bka ?_ _)); refine blk_far ?_ NB218_226.out _; (with_reducible repeat (first | refine bkd ?_ _ | refine blk_drew ?_ | refine bka ?_ _)); refine blk_far ?_ NB218_226.out _; (with_reducible repeat (first | refine bkd ?_ _ | refine blk_drew ?_ | refine bka ?_ _)); exact BK218.out))⟩; have n2_ : Aside0 (w61.heap[gb226]? = some (.cells #[.string ((rd_T99 ((rd_T64 l0 a1).f2) x8_4).f0), .int .u8 ((rd_T99 ((rd_T64 l0 a1).f2) x8_4).f1)] 99 (0, 0))) := ⟨(by rw [hw]; exact (by (with_reducible repeat (first | refine bkd ?_ _ | refine blk_drew ?_ | refine bka ?_ _)); refine blk_put (cs := #[.string ((rd_T99 ((rd_T64 l0 a1).f2) x8_4).f0), .int .u8 0]) ?_ 1 _ rfl; (with_reducible repeat (first | refine bkd ?_ _ | refine blk_drew ?_ | refine bka ?_ _)); refine blk_put (cs := #[.string (⟨#[]⟩ : ByteArray), .int .u8 0]) ?_ 0 _ rfl; (with_reducible repeat (first | refine bkd ?_ _ | refine blk_drew ?_ | refine bka ?_ _)); exact BK226.out))⟩; have n3_ : Aside0 (Below w.heap.size w w61) := ⟨(by rw [hw]; exact (by repeat (first | (with_reducible first | exact HB.out | apply bal | apply pbd | apply bdr | refine below_set ?_ GE218.out | refine below_set ?_ GE226.out) | exact HB.out)))⟩; clear hw; clear HO_7; clear BK218; clear BK226; clear HB; have HO_7 := n0_; have BK218 := n1_; have BK226 := n2_; have HB := n3_; clear n0_ n1_ n2_ n3_; have hcz62_0 : w61.cell? ⟨gb226, 0, none⟩ = some (.string ((rd_T99 ((rd_T64 l0 a1).f2) x8_4).f0)) := (blk_cell BK226.out 0).trans rfl; have hcz62_1 : w61.cell? ⟨gb226, 1, none⟩ = some (.int .u8 ((rd_T99 ((rd_T64 l0 a1).f2) x8_4).f1)) := (blk_cell BK226.out 1).trans rfl; have hfz62_0 := bkf BK226.out 0; have hfz62_1 := bkf BK226.out 1) | (go_at_call 40; (with_reducible refine (provisoref02_IsName.calls k4 ((rd_T99 ((rd_T64 l0 a1).f2) x8_4).f0) true _ A33.out).mono ?_); rintro e w' ⟨rfl, ⟨nd, rfl⟩⟩; (try first | exact ⟨rfl, _, World.drewN_drewN _ _ _⟩ | exact ⟨rfl, _, Eq.trans (World.drewN_drewN _ _ _) (congrArg (World.drewN _) (Nat.add_assoc _ _ _))⟩); obtain ⟨Ao63, co63, eo63⟩ := Kd.R_slice HO_7.out; subst eo63) | (go_at_call 114; (with_reducible refine (provisoref02_has.calls k4 _ _ t222 ((rd_T99 ((rd_T64 l0 a1).f2) x8_4).f0) false _ ?side1 ?side2 A35.out).mono ?_); (case side1 => repeat (first | exact (Kd.R_reads' HO_7.out).2.2 | (with_reducible refine Kd.C_alloc ?_ _) | (with_reducible refine Kd.C_drewN ?_ _) | (with_reducible refine Kd.C_drew ?_))); (case side2 => exact (Kd.R_reads' HO_7.out).2.1); rintro e w' ⟨rfl, ⟨nd, rfl⟩⟩; (try first | exact ⟨rfl, _, World.drewN_drewN _ _ _⟩ | exact ⟨rfl, _, Eq.trans (World.drewN_drewN _ _ _) (congrArg (World.drewN _) (Nat.add_assoc _ _ _))⟩); have hcz64_0 : w61.cell? ⟨gb218, 0, none⟩ = some (.string ((rd_T64 l0 a1).f0)) := (blk_cell BK218.out 0).trans rfl; have hcz64_1 : w61.cell? ⟨gb218, 1, none⟩ = some (.int .i64 ((rd_T64 l0 a1).f1)) := (blk_cell BK218.out 1).trans rfl; have hcz64_2 : w61.cell? ⟨gb218, 2, none⟩ = some (.slice (some ad225) ((rd_T64 l0 a1).f2).length c217_2) := (blk_cell BK218.out 2).trans rfl; have hfz64_0 := bkf BK218.out 0; have hfz64_1 := bkf BK218.out 1; have hfz64_2 := bkf BK218.out 2; have q65 : (x8_4 : Int) ≤ ((((rd_T64 l0 a1).f2).length : Int) : Int) := of_decide_eq_true (by first | (with_reducible assumption) | assumption); obtain ⟨i065, hi065, _, hsz65, _⟩ := info_parts info99; have hroom65 : ((rd_T64 l0 a1).f2).length ≤ c217_2 := HC217_2.out; have hC65 : Kd.C k99 _ (some ad225) ((rd_T64 l0 a1).f2).length ((rd_T64 l0 a1).f2) := HR217_2.out; have hcut65 := cut_to (P := Try.prog) 62 99 .i64 Try.underlying62 hi065 (some ad225) ((rd_T64 l0 a1).f2).length c217_2 x8_4 (of_decide_eq_true (by first | (with_reducible assumption) | assumption)) q65 hroom65; have hr65 := Kd.C_take (m := (x8_4 : Int).toNat) hC65 (by omega); have hy65 : y229.length = (x8_4 : Int).toNat := (by rw [Ny229.out, List.length_take]; omega); rw [← Ny229.out] at hr65; rw [← hy65] at hcut65; have HR232 := amk hr65; have HC232 := amk (show y229.length ≤ c217_2 from by omega); clear hr65 hC65 hroom65 hi065 hsz65; have KY65 := amk hy65; clear hy65; replace q65 := eq_true q65) | (go_at_call 114; (with_reducible refine (provisoref02_has.calls k4 _ _ y229 ((rd_T99 ((rd_T64 l0 a1).f2) x8_4).f0) false _ ?side1 ?side2 A44.out).mono ?_); (case side1 => repeat (first | exact (Kd.C_below HR232.out (by repeat (first | (with_reducible first | exact HB.out | apply bal | apply pbd | apply bdr | refine below_set ?_ GE218.out | refine below_set ?_ GE226.out) | exact HB.out))) | (with_reducible refine Kd.C_alloc ?_ _) | (with_reducible refine Kd.C_drewN ?_ _) | (with_reducible refine Kd.C_drew ?_))); (case side2 => exact HC232.out); rintro e w' ⟨rfl, ⟨nd, rfl⟩⟩; (try first | exact ⟨rfl, _, World.drewN_drewN _ _ _⟩ | exact ⟨rfl, _, Eq.trans (World.drewN_drewN _ _ _) (congrArg (World.drewN _) (Nat.add_assoc _ _ _))⟩)) | (go_at_call 115; (with_reducible refine (provisoref02_Stored.calls _ _ l0 ((rd_T99 ((rd_T64 l0 a1).f2) x8_4).f1) true _ ?side1 ?side2 A55.out).mono ?_); (case side1 => repeat (first | exact (Kd.C_below HR0.out (by repeat (first | (with_reducible first | exact HB.out | apply bal | apply pbd | apply bdr | refine below_set ?_ GE218.out | refine below_set ?_ GE226.out) | exact HB.out))) | (with_reducible refine Kd.C_alloc ?_ _) | (with_reducible refine Kd.C_drewN ?_ _) | (with_reducible refine Kd.C_drew ?_))); (case side2 => exact HC0.out); rintro e w' ⟨rfl, ⟨nd, rfl⟩⟩; (try first | exact ⟨rfl, _, World.drewN_drewN _ _ _⟩ | exact ⟨rfl, _, Eq.trans (World.drewN_drewN _ _ _) (congrArg (World.drewN _) (Nat.add_assoc _ _ _))⟩))))
                                            go_roundg k4
                                            case measure => have := HJ7.out; have := HK2.out; have := HJ22.out; have := HK4.out; omega
                                            case rel => exact ⟨(wrap64 (x8_4 + 1)), (by first | rfl | (simp; done) | (simp [*]; done)), H', ⟨by have := HJ7.out; have := HK2.out; have := HJ22.out; have := HK4.out; omega⟩, ⟨by (with_reducible repeat (first | apply Kd.R_alloc | apply Kd.R_drewN | apply Kd.R_drew)); exact Kd.R_mono HO_7.out (fun _ hk => trivial)⟩, ⟨by (with_reducible repeat (first | refine bkd ?_ _ | refine blk_drew ?_ | refine bka ?_ _)); exact BK218.out⟩, ⟨by repeat (first | (with_reducible first | exact HB.out | apply bal | apply pbd | apply bdr | refine below_set ?_ GE218.out | refine below_set ?_ GE226.out) | exact HB.out)⟩⟩
                                          · replace c56 := Bool.eq_false_iff.mpr c56
                                            subst c56
                                            have H1 : (some 22) = some r := by rw [if_neg (show ¬ (false = true) by decide)] at H; exact H
                                            clear H
                                            have H := H1
                                            clear H1
                                            obtain rfl := Option.some.inj H
                                            have hcz66_0 : wr.cell? ⟨gb218, 0, none⟩ = some (.string ((rd_T64 l0 a1).f0)) := (blk_cell BK218.out 0).trans rfl
                                            have hcz66_1 : wr.cell? ⟨gb218, 1, none⟩ = some (.int .i64 ((rd_T64 l0 a1).f1)) := (blk_cell BK218.out 1).trans rfl
                                            have hcz66_2 : wr.cell? ⟨gb218, 2, none⟩ = some (.slice A217_2 ((rd_T64 l0 a1).f2).length c217_2) := (blk_cell BK218.out 2).trans rfl
                                            have hfz66_0 := bkf BK218.out 0
                                            have hfz66_1 := bkf BK218.out 1
                                            have hfz66_2 := bkf BK218.out 2
                                            have p225 : 0 ≤ (x8_4 : Int) := of_decide_eq_true (by first | (with_reducible assumption) | assumption)
                                            have q225 : x8_4 < (((rd_T64 l0 a1).f2).length : Int) := of_decide_eq_true (by first | (with_reducible assumption) | assumption)
                                            obtain ⟨ad225, e225, hx225_0, hx225_1⟩ := at_T99 HR217_2.out x8_4 p225 q225
                                            cases e225
                                            replace hx225_0 := (HB.out.cell (blc w _ hx225_0)).trans hx225_0
                                            replace hx225_1 := (HB.out.cell (blc w _ hx225_1)).trans hx225_1
                                            replace p225 := eq_true p225
                                            replace q225 := eq_true q225
                                            go_wp2_with (first | ((with_reducible refine gate_dst (N := 9) rfl ?_); refine box_event ?hg (N := 9) ?hd (cs := #[.string (⟨#[]⟩ : ByteArray), .int .u8 0]) (t := 99) ?hr ?_; (case hd => rfl); (case hg => rfl); (case hr => first | (go_simp; done) | (go_simp; rfl)); intro gb226 hg w67 hbox hb; have n0_ := amk (Kd.R_below (Kd.R_elderB (by (with_reducible repeat (first | apply Kd.R_alloc | apply Kd.R_drewN | apply Kd.R_drew)); exact HO_7.out) gb226 (Nat.le_of_eq hg.symm)) hb); have n1_ := amk (blk_below (g := gb218) (o := .cells #[.string ((rd_T64 l0 a1).f0), .int .i64 ((rd_T64 l0 a1).f1), .slice (some ad225) ((rd_T64 l0 a1).f2).length c217_2] 64 (0, 0)) (by (with_reducible repeat (first | refine bkd ?_ _ | refine blk_drew ?_ | refine bka ?_ _)); exact BK218.out) hb); have n2_ := amk (below_step (by repeat (first | (with_reducible first | exact HB.out | apply bal | apply pbd | apply bdr | refine below_set ?_ GE218.out) | exact HB.out)) hb); have n3_ := amk (hbox); have n4_ := amk ((by rw [hg]; exact (below_size (by repeat (first | (with_reducible first | exact HB.out | apply bal | apply pbd | apply bdr | refine below_set ?_ GE218.out) | exact HB.out))) : w.heap.size ≤ gb226)); have n5_ := amk ((by rw [hg]; exact (below_size (by repeat (first | (with_reducible first | exact HB.out | apply bal | apply pbd | apply bdr | refine below_set ?_ GE218.out) | exact HB.out))) : w.heap.size ≤ gb226)); have n6_ := amk ((by rw [hg]; exact Nat.ne_of_lt (blk_lt (g := gb218) (o := .cells #[.string ((rd_T64 l0 a1).f0), .int .i64 ((rd_T64 l0 a1).f1), .slice (some ad225) ((rd_T64 l0 a1).f2).length c217_2] 64 (0, 0)) (by (with_reducible repeat (first | refine bkd ?_ _ | refine blk_drew ?_ | refine bka ?_ _)); exact BK218.out)) : gb218 ≠ gb226)); have n7_ := amk ((by rw [hg]; exact Nat.ne_of_gt (blk_lt (g := gb218) (o := .cells #[.string ((rd_T64 l0 a1).f0), .int .i64 ((rd_T64 l0 a1).f1), .slice (some ad225) ((rd_T64 l0 a1).f2).length c217_2] 64 (0, 0)) (by (with_reducible repeat (first | refine bkd ?_ _ | refine blk_drew ?_ | refine bka ?_ _)); exact BK218.out)) : gb226 ≠ gb218)); clear HO_7; clear BK218; clear HB; have HO_7 := n0_; have BK218 := n1_; have HB := n2_; have BK226 := n3_; have GW226 := n4_; have GE226 := n5_; have NB218_226 := n6_; have NB226_218 := n7_; clear n0_ n1_ n2_ n3_ n4_ n5_ n6_ n7_; clear hb hbox hg; have hnb68 := NB226_218.out; have hnc68 := NB218_226.out; have hcz69_0 : w67.cell? ⟨gb226, 0, none⟩ = some (.string (⟨#[]⟩ : ByteArray)) := (blk_cell BK226.out 0).trans rfl; have hcz69_1 : w67.cell? ⟨gb226, 1, none⟩ = some (.int .u8 0) := (blk_cell BK226.out 1).trans rfl; have hfz69_0 := bkf BK226.out 0; have hfz69_1 := bkf BK226.out 1) | ((with_reducible refine gate_store (t := 99) (p := 9) rfl ?_); (try (rw [drewN_self w67]; generalize hq_ : World.drewN w67 _ = w67; have n0_ := amk (Kd.R_at hq_ HO_7.out); have n1_ := amk (blk_at hq_ BK218.out); have n2_ := amk (blk_at hq_ BK226.out); have n3_ := amk (below_at hq_ HB.out); clear hq_ HO_7 BK218 BK226 HB; have HO_7 := n0_; have BK218 := n1_; have BK226 := n2_; have HB := n3_; clear n0_ n1_ n2_ n3_)); refine store_event (t := 99) (p := 9) (v := ?vo_w70) (w1 := ((w67.setCell ⟨gb226, 0, none⟩ (.string ((rd_T99 ((rd_T64 l0 a1).f2) x8_4).f0))).setCell ⟨gb226, 1, none⟩ (.int .u8 ((rd_T99 ((rd_T64 l0 a1).f2) x8_4).f1)))) ?hg ?ho ?hn ?hr ?_; (case ho => rfl); (case hg => rfl); (case hn => rfl); (case hr => first | (go_simp; done) | (go_simp; rfl)); intro w70 hw; have n0_ : Aside0 (Kd.R k99 99 w70 w.heap.size (fun k_ => k_ ≠ gb226) v223 t222) := ⟨(by rw [hw]; exact (by (with_reducible repeat (first | apply Kd.R_alloc | apply Kd.R_drewN | apply Kd.R_drew)); exact Kd.R_mono (Kd.R_far (p := ⟨gb226, 1, none⟩) (Kd.R_far (p := ⟨gb226, 0, none⟩) (Kd.R_mono HO_7.out (fun k_ hk => (⟨hk, hk.2⟩ : _ ∧ k_ ≠ gb226))) (fun _ hk => hk.2) (.string ((rd_T99 ((rd_T64 l0 a1).f2) x8_4).f0))) (fun _ hk => hk.2) (.int .u8 ((rd_T99 ((rd_T64 l0 a1).f2) x8_4).f1))) (fun _ hk => hk.1.2)))⟩; have n1_ : Aside0 (w70.heap[gb218]? = some (.cells #[.string ((rd_T64 l0 a1).f0), .int .i64 ((rd_T64 l0 a1).f1), .slice (some ad225) ((rd_T64 l0 a1).f2).length c217_2] 64 (0, 0))) := ⟨(by rw [hw]; exact (by (with_reducible repeat (first | refine bkd ?_ _ | refine blk_drew ?_ | refine bka ?_ _)); refine blk_far ?_ NB218_226.out _; (with_reducible repeat (first | refine bkd ?_ _ | refine blk_drew ?_ | refine bka ?_ _)); refine blk_far ?_ NB218_226.out _; (with_reducible repeat (first | refine bkd ?_ _ | refine blk_drew ?_ | refine bka ?_ _)); exact BK218.out))⟩; have n2_ : Aside0 (w70.heap[gb226]? = some (.cells #[.string ((rd_T99 ((rd_T64 l0 a1).f2) x8_4).f0), .int .u8 ((rd_T99 ((rd_T64 l0 a1).f2) x8_4).f1)] 99 (0, 0))) := ⟨(by rw [hw]; exact (by (with_reducible repeat (first | refine bkd ?_ _ | refine blk_drew ?_ | refine bka ?_ _)); refine blk_put (cs := #[.string ((rd_T99 ((rd_T64 l0 a1).f2) x8_4).f0), .int .u8 0]) ?_ 1 _ rfl; (with_reducible repeat (first | refine bkd ?_ _ | refine blk_drew ?_ | refine bka ?_ _)); refine blk_put (cs := #[.string (⟨#[]⟩ : ByteArray), .int .u8 0]) ?_ 0 _ rfl; (with_reducible repeat (first | refine bkd ?_ _ | refine blk_drew ?_ | refine bka ?_ _)); exact BK226.out))⟩; have n3_ : Aside0 (Below w.heap.size w w70) := ⟨(by rw [hw]; exact (by repeat (first | (with_reducible first | exact HB.out | apply bal | apply pbd | apply bdr | refine below_set ?_ GE218.out | refine below_set ?_ GE226.out) | exact HB.out)))⟩; clear hw; clear HO_7; clear BK218; clear BK226; clear HB; have HO_7 := n0_; have BK218 := n1_; have BK226 := n2_; have HB := n3_; clear n0_ n1_ n2_ n3_; have hcz71_0 : w70.cell? ⟨gb226, 0, none⟩ = some (.string ((rd_T99 ((rd_T64 l0 a1).f2) x8_4).f0)) := (blk_cell BK226.out 0).trans rfl; have hcz71_1 : w70.cell? ⟨gb226, 1, none⟩ = some (.int .u8 ((rd_T99 ((rd_T64 l0 a1).f2) x8_4).f1)) := (blk_cell BK226.out 1).trans rfl; have hfz71_0 := bkf BK226.out 0; have hfz71_1 := bkf BK226.out 1) | (go_at_call 40; (with_reducible refine (provisoref02_IsName.calls k4 ((rd_T99 ((rd_T64 l0 a1).f2) x8_4).f0) true _ A33.out).mono ?_); rintro e w' ⟨rfl, ⟨nd, rfl⟩⟩; (try first | exact ⟨rfl, _, World.drewN_drewN _ _ _⟩ | exact ⟨rfl, _, Eq.trans (World.drewN_drewN _ _ _) (congrArg (World.drewN _) (Nat.add_assoc _ _ _))⟩); obtain ⟨Ao72, co72, eo72⟩ := Kd.R_slice HO_7.out; subst eo72) | (go_at_call 114; (with_reducible refine (provisoref02_has.calls k4 _ _ t222 ((rd_T99 ((rd_T64 l0 a1).f2) x8_4).f0) false _ ?side1 ?side2 A35.out).mono ?_); (case side1 => repeat (first | exact (Kd.R_reads' HO_7.out).2.2 | (with_reducible refine Kd.C_alloc ?_ _) | (with_reducible refine Kd.C_drewN ?_ _) | (with_reducible refine Kd.C_drew ?_))); (case side2 => exact (Kd.R_reads' HO_7.out).2.1); rintro e w' ⟨rfl, ⟨nd, rfl⟩⟩; (try first | exact ⟨rfl, _, World.drewN_drewN _ _ _⟩ | exact ⟨rfl, _, Eq.trans (World.drewN_drewN _ _ _) (congrArg (World.drewN _) (Nat.add_assoc _ _ _))⟩); have hcz73_0 : w70.cell? ⟨gb218, 0, none⟩ = some (.string ((rd_T64 l0 a1).f0)) := (blk_cell BK218.out 0).trans rfl; have hcz73_1 : w70.cell? ⟨gb218, 1, none⟩ = some (.int .i64 ((rd_T64 l0 a1).f1)) := (blk_cell BK218.out 1).trans rfl; have hcz73_2 : w70.cell? ⟨gb218, 2, none⟩ = some (.slice (some ad225) ((rd_T64 l0 a1).f2).length c217_2) := (blk_cell BK218.out 2).trans rfl; have hfz73_0 := bkf BK218.out 0; have hfz73_1 := bkf BK218.out 1; have hfz73_2 := bkf BK218.out 2; have q74 : (x8_4 : Int) ≤ ((((rd_T64 l0 a1).f2).length : Int) : Int) := of_decide_eq_true (by first | (with_reducible assumption) | assumption); obtain ⟨i074, hi074, _, hsz74, _⟩ := info_parts info99; have hroom74 : ((rd_T64 l0 a1).f2).length ≤ c217_2 := HC217_2.out; have hC74 : Kd.C k99 _ (some ad225) ((rd_T64 l0 a1).f2).length ((rd_T64 l0 a1).f2) := HR217_2.out; have hcut74 := cut_to (P := Try.prog) 62 99 .i64 Try.underlying62 hi074 (some ad225) ((rd_T64 l0 a1).f2).length c217_2 x8_4 (of_decide_eq_true (by first | (with_reducible assumption) | assumption)) q74 hroom74; have hr74 := Kd.C_take (m := (x8_4 : Int).toNat) hC74 (by omega); have hy74 : y229.length = (x8_4 : Int).toNat := (by rw [Ny229.out, List.length_take]; omega); rw [← Ny229.out] at hr74; rw [← hy74] at hcut74; have HR232 := amk hr74; have HC232 := amk (show y229.length ≤ c217_2 from by omega); clear hr74 hC74 hroom74 hi074 hsz74; have KY74 := amk hy74; clear hy74; replace q74 := eq_true q74) | (go_at_call 114; (with_reducible refine (provisoref02_has.calls k4 _ _ y229 ((rd_T99 ((rd_T64 l0 a1).f2) x8_4).f0) false _ ?side1 ?side2 A44.out).mono ?_); (case side1 => repeat (first | exact (Kd.C_below HR232.out (by repeat (first | (with_reducible first | exact HB.out | apply bal | apply pbd | apply bdr | refine below_set ?_ GE218.out | refine below_set ?_ GE226.out) | exact HB.out))) | (with_reducible refine Kd.C_alloc ?_ _) | (with_reducible refine Kd.C_drewN ?_ _) | (with_reducible refine Kd.C_drew ?_))); (case side2 => exact HC232.out); rintro e w' ⟨rfl, ⟨nd, rfl⟩⟩; (try first | exact ⟨rfl, _, World.drewN_drewN _ _ _⟩ | exact ⟨rfl, _, Eq.trans (World.drewN_drewN _ _ _) (congrArg (World.drewN _) (Nat.add_assoc _ _ _))⟩)) | (go_at_call 115; (with_reducible refine (provisoref02_Stored.calls _ _ l0 ((rd_T99 ((rd_T64 l0 a1).f2) x8_4).f1) false _ ?side1 ?side2 A55.out).mono ?_); (case side1 => repeat (first | exact (Kd.C_below HR0.out (by repeat (first | (with_reducible first | exact HB.out | apply bal | apply pbd | apply bdr | refine below_set ?_ GE218.out | refine below_set ?_ GE226.out) | exact HB.out))) | (with_reducible refine Kd.C_alloc ?_ _) | (with_reducible refine Kd.C_drewN ?_ _) | (with_reducible refine Kd.C_drew ?_))); (case side2 => exact HC0.out); rintro e w' ⟨rfl, ⟨nd, rfl⟩⟩; (try first | exact ⟨rfl, _, World.drewN_drewN _ _ _⟩ | exact ⟨rfl, _, Eq.trans (World.drewN_drewN _ _ _) (congrArg (World.drewN _) (Nat.add_assoc _ _ _))⟩)))
                                            repeat (go_quiet (first | ((with_reducible refine gate_dst (N := 9) rfl ?_); refine box_event ?hg (N := 9) ?hd (cs := #[.string (⟨#[]⟩ : ByteArray), .int .u8 0]) (t := 99) ?hr ?_; (case hd => rfl); (case hg => rfl); (case hr => first | (go_simp; done) | (go_simp; rfl)); intro gb226 hg w67 hbox hb; have n0_ := amk (Kd.R_below (Kd.R_elderB (by (with_reducible repeat (first | apply Kd.R_alloc | apply Kd.R_drewN | apply Kd.R_drew)); exact HO_7.out) gb226 (Nat.le_of_eq hg.symm)) hb); have n1_ := amk (blk_below (g := gb218) (o := .cells #[.string ((rd_T64 l0 a1).f0), .int .i64 ((rd_T64 l0 a1).f1), .slice (some ad225) ((rd_T64 l0 a1).f2).length c217_2] 64 (0, 0)) (by (with_reducible repeat (first | refine bkd ?_ _ | refine blk_drew ?_ | refine bka ?_ _)); exact BK218.out) hb); have n2_ := amk (below_step (by repeat (first | (with_reducible first | exact HB.out | apply bal | apply pbd | apply bdr | refine below_set ?_ GE218.out) | exact HB.out)) hb); have n3_ := amk (hbox); have n4_ := amk ((by rw [hg]; exact (below_size (by repeat (first | (with_reducible first | exact HB.out | apply bal | apply pbd | apply bdr | refine below_set ?_ GE218.out) | exact HB.out))) : w.heap.size ≤ gb226)); have n5_ := amk ((by rw [hg]; exact (below_size (by repeat (first | (with_reducible first | exact HB.out | apply bal | apply pbd | apply bdr | refine below_set ?_ GE218.out) | exact HB.out))) : w.heap.size ≤ gb226)); have n6_ := amk ((by rw [hg]; exact Nat.ne_of_lt (blk_lt (g := gb218) (o := .cells #[.string ((rd_T64 l0 a1).f0), .int .i64 ((rd_T64 l0 a1).f1), .slice (some ad225) ((rd_T64 l0 a1).f2).length c217_2] 64 (0, 0)) (by (with_reducible repeat (first | refine bkd ?_ _ | refine blk_drew ?_ | refine bka ?_ _)); exact BK218.out)) : gb218 ≠ gb226)); have n7_ := amk ((by rw [hg]; exact Nat.ne_of_gt (blk_lt (g := gb218) (o := .cells #[.string ((rd_T64 l0 a1).f0), .int .i64 ((rd_T64 l0 a1).f1), .slice (some ad225) ((rd_T64 l0 a1).f2).length c217_2] 64 (0, 0)) (by (with_reducible repeat (first | refine bkd ?_ _ | refine blk_drew ?_ | refine bka ?_ _)); exact BK218.out)) : gb226 ≠ gb218)); clear HO_7; clear BK218; clear HB; have HO_7 := n0_; have BK218 := n1_; have HB := n2_; have BK226 := n3_; have GW226 := n4_; have GE226 := n5_; have NB218_226 := n6_; have NB226_218 := n7_; clear n0_ n1_ n2_ n3_ n4_ n5_ n6_ n7_; clear hb hbox hg; have hnb68 := NB226_218.out; have hnc68 := NB218_226.out; have hcz69_0 : w67.cell? ⟨gb226, 0, none⟩ = some (.string (⟨#[]⟩ : ByteArray)) := (blk_cell BK226.out 0).trans rfl; have hcz69_1 : w67.cell? ⟨gb226, 1, none⟩ = some (.int .u8 0) := (blk_cell BK226.out 1).trans rfl; have hfz69_0 := bkf BK226.out 0; have hfz69_1 := bkf BK226.out 1) | ((with_reducible refine gate_store (t := 99) (p := 9) rfl ?_); (try (rw [drewN_self w67]; generalize hq_ : World.drewN w67 _ = w67; have n0_ := amk (Kd.R_at hq_ HO_7.out); have n1_ := amk (blk_at hq_ BK218.out); have n2_ := amk (blk_at hq_ BK226.out); have n3_ := amk (below_at hq_ HB.out); clear hq_ HO_7 BK218 BK226 HB; have HO_7 := n0_; have BK218 := n1_; have BK226 := n2_; have HB := n3_; clear n0_ n1_ n2_ n3_)); refine store_event (t := 99) (p := 9) (v := ?vo_w70) (w1 := ((w67.setCell ⟨gb226, 0, none⟩ (.string ((rd_T99 ((rd_T64 l0 a1).f2) x8_4).f0))).setCell ⟨gb226, 1, none⟩ (.int .u8 ((rd_T99 ((rd_T64 l0 a1).f2) x8_4).f1)))) ?hg ?ho ?hn ?hr ?_; (case ho => rfl); (case hg => rfl); (case hn => rfl); (case hr => first | (go_simp; done) | (go_simp; rfl)); intro w70 hw; have n0_ : Aside0 (Kd.R k99 99 w70 w.heap.size (fun k_ => k_ ≠ gb226) v223 t222) := ⟨(by rw [hw]; exact (by (with_reducible repeat (first | apply Kd.R_alloc | apply Kd.R_drewN | apply Kd.R_drew)); exact Kd.R_mono (Kd.R_far (p := ⟨gb226, 1, none⟩) (Kd.R_far (p := ⟨gb226, 0, none⟩) (Kd.R_mono HO_7.out (fun k_ hk => (⟨hk, hk.2⟩ : _ ∧ k_ ≠ gb226))) (fun _ hk => hk.2) (.string ((rd_T99 ((rd_T64 l0 a1).f2) x8_4).f0))) (fun _ hk => hk.2) (.int .u8 ((rd_T99 ((rd_T64 l0 a1).f2) x8_4).f1))) (fun _ hk => hk.1.2)))⟩; have n1_ : Aside0 (w70.heap[gb218]? = some (.cells #[.string ((rd_T64 l0 a1).f0), .int .i64 ((rd_T64 l0 a1).f1), .slice (some ad225) ((rd_T64 l0 a1).f2).length c217_2] 64 (0, 0))) := ⟨(by rw [hw]; exact (by (with_reducible repeat (first | refine bkd ?_ _ | refine blk_drew ?_ | refine bka ?_ _)); refine blk_far ?_ NB218_226.out _; (with_reducible repeat (first | refine bkd ?_ _ | refine blk_drew ?_ | refine bka ?_ _)); refine blk_far ?_ NB218_226.out _; (with_reducible repeat (first | refine bkd ?_ _ | refine blk_drew ?_ | refine bka ?_ _)); exact BK218.out))⟩; have n2_ : Aside0 (w70.heap[gb226]? = some (.cells #[.string ((rd_T99 ((rd_T64 l0 a1).f2) x8_4).f0), .int .u8 ((rd_T99 ((rd_T64 l0 a1).f2) x8_4).f1)] 99 (0, 0))) := ⟨(by rw [hw]; exact (by (with_reducible repeat (first | refine bkd ?_ _ | refine blk_drew ?_ | refine bka ?_ _)); refine blk_put (cs := #[.string ((rd_T99 ((rd_T64 l0 a1).f2) x8_4).f0), .int .u8 0]) ?_ 1 _ rfl; (with_reducible repeat (first | refine bkd ?_ _ | refine blk_drew ?_ | refine bka ?_ _)); refine blk_put (cs := #[.string (⟨#[]⟩ : ByteArray), .int .u8 0]) ?_ 0 _ rfl; (with_reducible repeat (first | refine bkd ?_ _ | refine blk_drew ?_ | refine bka ?_ _)); exact BK226.out))⟩; have n3_ : Aside0 (Below w.heap.size w w70) := ⟨(by rw [hw]; exact (by repeat (first | (with_reducible first | exact HB.out | apply bal | apply pbd | apply bdr | refine below_set ?_ GE218.out | refine below_set ?_ GE226.out) | exact HB.out)))⟩; clear hw; clear HO_7; clear BK218; clear BK226; clear HB; have HO_7 := n0_; have BK218 := n1_; have BK226 := n2_; have HB := n3_; clear n0_ n1_ n2_ n3_; have hcz71_0 : w70.cell? ⟨gb226, 0, none⟩ = some (.string ((rd_T99 ((rd_T64 l0 a1).f2) x8_4).f0)) := (blk_cell BK226.out 0).trans rfl; have hcz71_1 : w70.cell? ⟨gb226, 1, none⟩ = some (.int .u8 ((rd_T99 ((rd_T64 l0 a1).f2) x8_4).f1)) := (blk_cell BK226.out 1).trans rfl; have hfz71_0 := bkf BK226.out 0; have hfz71_1 := bkf BK226.out 1) | (go_at_call 40; (with_reducible refine (provisoref02_IsName.calls k4 ((rd_T99 ((rd_T64 l0 a1).f2) x8_4).f0) true _ A33.out).mono ?_); rintro e w' ⟨rfl, ⟨nd, rfl⟩⟩; (try first | exact ⟨rfl, _, World.drewN_drewN _ _ _⟩ | exact ⟨rfl, _, Eq.trans (World.drewN_drewN _ _ _) (congrArg (World.drewN _) (Nat.add_assoc _ _ _))⟩); obtain ⟨Ao72, co72, eo72⟩ := Kd.R_slice HO_7.out; subst eo72) | (go_at_call 114; (with_reducible refine (provisoref02_has.calls k4 _ _ t222 ((rd_T99 ((rd_T64 l0 a1).f2) x8_4).f0) false _ ?side1 ?side2 A35.out).mono ?_); (case side1 => repeat (first | exact (Kd.R_reads' HO_7.out).2.2 | (with_reducible refine Kd.C_alloc ?_ _) | (with_reducible refine Kd.C_drewN ?_ _) | (with_reducible refine Kd.C_drew ?_))); (case side2 => exact (Kd.R_reads' HO_7.out).2.1); rintro e w' ⟨rfl, ⟨nd, rfl⟩⟩; (try first | exact ⟨rfl, _, World.drewN_drewN _ _ _⟩ | exact ⟨rfl, _, Eq.trans (World.drewN_drewN _ _ _) (congrArg (World.drewN _) (Nat.add_assoc _ _ _))⟩); have hcz73_0 : w70.cell? ⟨gb218, 0, none⟩ = some (.string ((rd_T64 l0 a1).f0)) := (blk_cell BK218.out 0).trans rfl; have hcz73_1 : w70.cell? ⟨gb218, 1, none⟩ = some (.int .i64 ((rd_T64 l0 a1).f1)) := (blk_cell BK218.out 1).trans rfl; have hcz73_2 : w70.cell? ⟨gb218, 2, none⟩ = some (.slice (some ad225) ((rd_T64 l0 a1).f2).length c217_2) := (blk_cell BK218.out 2).trans rfl; have hfz73_0 := bkf BK218.out 0; have hfz73_1 := bkf BK218.out 1; have hfz73_2 := bkf BK218.out 2; have q74 : (x8_4 : Int) ≤ ((((rd_T64 l0 a1).f2).length : Int) : Int) := of_decide_eq_true (by first | (with_reducible assumption) | assumption); obtain ⟨i074, hi074, _, hsz74, _⟩ := info_parts info99; have hroom74 : ((rd_T64 l0 a1).f2).length ≤ c217_2 := HC217_2.out; have hC74 : Kd.C k99 _ (some ad225) ((rd_T64 l0 a1).f2).length ((rd_T64 l0 a1).f2) := HR217_2.out; have hcut74 := cut_to (P := Try.prog) 62 99 .i64 Try.underlying62 hi074 (some ad225) ((rd_T64 l0 a1).f2).length c217_2 x8_4 (of_decide_eq_true (by first | (with_reducible assumption) | assumption)) q74 hroom74; have hr74 := Kd.C_take (m := (x8_4 : Int).toNat) hC74 (by omega); have hy74 : y229.length = (x8_4 : Int).toNat := (by rw [Ny229.out, List.length_take]; omega); rw [← Ny229.out] at hr74; rw [← hy74] at hcut74; have HR232 := amk hr74; have HC232 := amk (show y229.length ≤ c217_2 from by omega); clear hr74 hC74 hroom74 hi074 hsz74; have KY74 := amk hy74; clear hy74; replace q74 := eq_true q74) | (go_at_call 114; (with_reducible refine (provisoref02_has.calls k4 _ _ y229 ((rd_T99 ((rd_T64 l0 a1).f2) x8_4).f0) false _ ?side1 ?side2 A44.out).mono ?_); (case side1 => repeat (first | exact (Kd.C_below HR232.out (by repeat (first | (with_reducible first | exact HB.out | apply bal | apply pbd | apply bdr | refine below_set ?_ GE218.out | refine below_set ?_ GE226.out) | exact HB.out))) | (with_reducible refine Kd.C_alloc ?_ _) | (with_reducible refine Kd.C_drewN ?_ _) | (with_reducible refine Kd.C_drew ?_))); (case side2 => exact HC232.out); rintro e w' ⟨rfl, ⟨nd, rfl⟩⟩; (try first | exact ⟨rfl, _, World.drewN_drewN _ _ _⟩ | exact ⟨rfl, _, Eq.trans (World.drewN_drewN _ _ _) (congrArg (World.drewN _) (Nat.add_assoc _ _ _))⟩)) | (go_at_call 115; (with_reducible refine (provisoref02_Stored.calls _ _ l0 ((rd_T99 ((rd_T64 l0 a1).f2) x8_4).f1) false _ ?side1 ?side2 A55.out).mono ?_); (case side1 => repeat (first | exact (Kd.C_below HR0.out (by repeat (first | (with_reducible first | exact HB.out | apply bal | apply pbd | apply bdr | refine below_set ?_ GE218.out | refine below_set ?_ GE226.out) | exact HB.out))) | (with_reducible refine Kd.C_alloc ?_ _) | (with_reducible refine Kd.C_drewN ?_ _) | (with_reducible refine Kd.C_drew ?_))); (case side2 => exact HC0.out); rintro e w' ⟨rfl, ⟨nd, rfl⟩⟩; (try first | exact ⟨rfl, _, World.drewN_drewN _ _ _⟩ | exact ⟨rfl, _, Eq.trans (World.drewN_drewN _ _ _) (congrArg (World.drewN _) (Nat.add_assoc _ _ _))⟩))); try go_wp2_with (first | ((with_reducible refine gate_dst (N := 9) rfl ?_); refine box_event ?hg (N := 9) ?hd (cs := #[.string (⟨#[]⟩ : ByteArray), .int .u8 0]) (t := 99) ?hr ?_; (case hd => rfl); (case hg => rfl); (case hr => first | (go_simp; done) | (go_simp; rfl)); intro gb226 hg w67 hbox hb; have n0_ := amk (Kd.R_below (Kd.R_elderB (by (with_reducible repeat (first | apply Kd.R_alloc | apply Kd.R_drewN | apply Kd.R_drew)); exact HO_7.out) gb226 (Nat.le_of_eq hg.symm)) hb); have n1_ := amk (blk_below (g := gb218) (o := .cells #[.string ((rd_T64 l0 a1).f0), .int .i64 ((rd_T64 l0 a1).f1), .slice (some ad225) ((rd_T64 l0 a1).f2).length c217_2] 64 (0, 0)) (by (with_reducible repeat (first | refine bkd ?_ _ | refine blk_drew ?_ | refine bka ?_ _)); exact BK218.out) hb); have n2_ := amk (below_step (by repeat (first | (with_reducible first | exact HB.out | apply bal | apply pbd | apply bdr | refine below_set ?_ GE218.out) | exact HB.out)) hb); have n3_ := amk (hbox); have n4_ := amk ((by rw [hg]; exact (below_size (by repeat (first | (with_reducible first | exact HB.out | apply bal | apply pbd | apply bdr | refine below_set ?_ GE218.out) | exact HB.out))) : w.heap.size ≤ gb226)); have n5_ := amk ((by rw [hg]; exact (below_size (by repeat (first | (with_reducible first | exact HB.out | apply bal | apply pbd | apply bdr | refine below_set ?_ GE218.out) | exact HB.out))) : w.heap.size ≤ gb226)); have n6_ := amk ((by rw [hg]; exact Nat.ne_of_lt (blk_lt (g := gb218) (o := .cells #[.string ((rd_T64 l0 a1).f0), .int .i64 ((rd_T64 l0 a1).f1), .slice (some ad225) ((rd_T64 l0 a1).f2).length c217_2] 64 (0, 0)) (by (with_reducible repeat (first | refine bkd ?_ _ | refine blk_drew ?_ | refine bka ?_ _)); exact BK218.out)) : gb218 ≠ gb226)); have n7_ := amk ((by rw [hg]; exact Nat.ne_of_gt (blk_lt (g := gb218) (o := .cells #[.string ((rd_T64 l0 a1).f0), .int .i64 ((rd_T64 l0 a1).f1), .slice (some ad225) ((rd_T64 l0 a1).f2).length c217_2] 64 (0, 0)) (by (with_reducible repeat (first | refine bkd ?_ _ | refine blk_drew ?_ | refine bka ?_ _)); exact BK218.out)) : gb226 ≠ gb218)); clear HO_7; clear BK218; clear HB; have HO_7 := n0_; have BK218 := n1_; have HB := n2_; have BK226 := n3_; have GW226 := n4_; have GE226 := n5_; have NB218_226 := n6_; have NB226_218 := n7_; clear n0_ n1_ n2_ n3_ n4_ n5_ n6_ n7_; clear hb hbox hg; have hnb68 := NB226_218.out; have hnc68 := NB218_226.out; have hcz69_0 : w67.cell? ⟨gb226, 0, none⟩ = some (.string (⟨#[]⟩ : ByteArray)) := (blk_cell BK226.out 0).trans rfl; have hcz69_1 : w67.cell? ⟨gb226, 1, none⟩ = some (.int .u8 0) := (blk_cell BK226.out 1).trans rfl; have hfz69_0 := bkf BK226.out 0; have hfz69_1 := bkf BK226.out 1) | ((with_reducible refine gate_store (t := 99) (p := 9) rfl ?_); (try (rw [drewN_self w67]; generalize hq_ : World.drewN w67 _ = w67; have n0_ := amk (Kd.R_at hq_ HO_7.out); have n1_ := amk (blk_at hq_ BK218.out); have n2_ := amk (blk_at hq_ BK226.out); have n3_ := amk (below_at hq_ HB.out); clear hq_ HO_7 BK218 BK226 HB; have HO_7 := n0_; have BK218 := n1_; have BK226 := n2_; have HB := n3_; clear n0_ n1_ n2_ n3_)); refine store_event (t := 99) (p := 9) (v := ?vo_w70) (w1 := ((w67.setCell ⟨gb226, 0, none⟩ (.string ((rd_T99 ((rd_T64 l0 a1).f2) x8_4).f0))).setCell ⟨gb226, 1, none⟩ (.int .u8 ((rd_T99 ((rd_T64 l0 a1).f2) x8_4).f1)))) ?hg ?ho ?hn ?hr ?_; (case ho => rfl); (case hg => rfl); (case hn => rfl); (case hr => first | (go_simp; done) | (go_simp; rfl)); intro w70 hw; have n0_ : Aside0 (Kd.R k99 99 w70 w.heap.size (fun k_ => k_ ≠ gb226) v223 t222) := ⟨(by rw [hw]; exact (by (with_reducible repeat (first | apply Kd.R_alloc | apply Kd.R_drewN | apply Kd.R_drew)); exact Kd.R_mono (Kd.R_far (p := ⟨gb226, 1, none⟩) (Kd.R_far (p := ⟨gb226, 0, none⟩) (Kd.R_mono HO_7.out (fun k_ hk => (⟨hk, hk.2⟩ : _ ∧ k_ ≠ gb226))) (fun _ hk => hk.2) (.string ((rd_T99 ((rd_T64 l0 a1).f2) x8_4).f0))) (fun _ hk => hk.2) (.int .u8 ((rd_T99 ((rd_T64 l0 a1).f2) x8_4).f1))) (fun _ hk => hk.1.2)))⟩; have n1_ : Aside0 (w70.heap[gb218]? = some (.cells #[.string ((rd_T64 l0 a1).f0), .int .i64 ((rd_T64 l0 a1).f1), .slice (some ad225) ((rd_T64 l0 a1).f2).length c217_2] 64 (0, 0))) := ⟨(by rw [hw]; exact (by (with_reducible repeat (first | refine bkd ?_ _ | refine blk_drew ?_ | refine bka ?_ _)); refine blk_far ?_ NB218_226.out _; (with_reducible repeat (first | refine bkd ?_ _ | refine blk_drew ?_ | refine bka ?_ _)); refine blk_far ?_ NB218_226.out _; (with_reducible repeat (first | refine bkd ?_ _ | refine blk_drew ?_ | refine bka ?_ _)); exact BK218.out))⟩; have n2_ : Aside0 (w70.heap[gb226]? = some (.cells #[.string ((rd_T99 ((rd_T64 l0 a1).f2) x8_4).f0), .int .u8 ((rd_T99 ((rd_T64 l0 a1).f2) x8_4).f1)] 99 (0, 0))) := ⟨(by rw [hw]; exact (by (with_reducible repeat (first | refine bkd ?_ _ | refine blk_drew ?_ | refine bka ?_ _)); refine blk_put (cs := #[.string ((rd_T99 ((rd_T64 l0 a1).f2) x8_4).f0), .int .u8 0]) ?_ 1 _ rfl; (with_reducible repeat (first | refine bkd ?_ _ | refine blk_drew ?_ | refine bka ?_ _)); refine blk_put (cs := #[.string (⟨#[]⟩ : ByteArray), .int .u8 0]) ?_ 0 _ rfl; (with_reducible repeat (first | refine bkd ?_ _ | refine blk_drew ?_ | refine bka ?_ _)); exact BK226.out))⟩; have n3_ : Aside0 (Below w.heap.size w w70) := ⟨(by rw [hw]; exact (by repeat (first | (with_reducible first | exact HB.out | apply bal | apply pbd | apply bdr | refine below_set ?_ GE218.out | refine below_set ?_ GE226.out) | exact HB.out)))⟩; clear hw; clear HO_7; clear BK218; clear BK226; clear HB; have HO_7 := n0_; have BK218 := n1_; have BK226 := n2_; have HB := n3_; clear n0_ n1_ n2_ n3_; have hcz71_0 : w70.cell? ⟨gb226, 0, none⟩ = some (.string ((rd_T99 ((rd_T64 l0 a1).f2) x8_4).f0)) := (blk_cell BK226.out 0).trans rfl; have hcz71_1 : w70.cell? ⟨gb226, 1, none⟩ = some (.int .u8 ((rd_T99 ((rd_T64 l0 a1).f2) x8_4).f1)) := (blk_cell BK226.out 1).trans rfl; have hfz71_0 := bkf BK226.out 0; have hfz71_1 := bkf BK226.out 1) | (go_at_call 40; (with_reducible refine (provisoref02_IsName.calls k4 ((rd_T99 ((rd_T64 l0 a1).f2) x8_4).f0) true _ A33.out).mono ?_); rintro e w' ⟨rfl, ⟨nd, rfl⟩⟩; (try first | exact ⟨rfl, _, World.drewN_drewN _ _ _⟩ | exact ⟨rfl, _, Eq.trans (World.drewN_drewN _ _ _) (congrArg (World.drewN _) (Nat.add_assoc _ _ _))⟩); obtain ⟨Ao72, co72, eo72⟩ := Kd.R_slice HO_7.out; subst eo72) | (go_at_call 114; (with_reducible refine (provisoref02_has.calls k4 _ _ t222 ((rd_T99 ((rd_T64 l0 a1).f2) x8_4).f0) false _ ?side1 ?side2 A35.out).mono ?_); (case side1 => repeat (first | exact (Kd.R_reads' HO_7.out).2.2 | (with_reducible refine Kd.C_alloc ?_ _) | (with_reducible refine Kd.C_drewN ?_ _) | (with_reducible refine Kd.C_drew ?_))); (case side2 => exact (Kd.R_reads' HO_7.out).2.1); rintro e w' ⟨rfl, ⟨nd, rfl⟩⟩; (try first | exact ⟨rfl, _, World.drewN_drewN _ _ _⟩ | exact ⟨rfl, _, Eq.trans (World.drewN_drewN _ _ _) (congrArg (World.drewN _) (Nat.add_assoc _ _ _))⟩); have hcz73_0 : w70.cell? ⟨gb218, 0, none⟩ = some (.string ((rd_T64 l0 a1).f0)) := (blk_cell BK218.out 0).trans rfl; have hcz73_1 : w70.cell? ⟨gb218, 1, none⟩ = some (.int .i64 ((rd_T64 l0 a1).f1)) := (blk_cell BK218.out 1).trans rfl; have hcz73_2 : w70.cell? ⟨gb218, 2, none⟩ = some (.slice (some ad225) ((rd_T64 l0 a1).f2).length c217_2) := (blk_cell BK218.out 2).trans rfl; have hfz73_0 := bkf BK218.out 0; have hfz73_1 := bkf BK218.out 1; have hfz73_2 := bkf BK218.out 2; have q74 : (x8_4 : Int) ≤ ((((rd_T64 l0 a1).f2).length : Int) : Int) := of_decide_eq_true (by first | (with_reducible assumption) | assumption); obtain ⟨i074, hi074, _, hsz74, _⟩ := info_parts info99; have hroom74 : ((rd_T64 l0 a1).f2).length ≤ c217_2 := HC217_2.out; have hC74 : Kd.C k99 _ (some ad225) ((rd_T64 l0 a1).f2).length ((rd_T64 l0 a1).f2) := HR217_2.out; have hcut74 := cut_to (P := Try.prog) 62 99 .i64 Try.underlying62 hi074 (some ad225) ((rd_T64 l0 a1).f2).length c217_2 x8_4 (of_decide_eq_true (by first | (with_reducible assumption) | assumption)) q74 hroom74; have hr74 := Kd.C_take (m := (x8_4 : Int).toNat) hC74 (by omega); have hy74 : y229.length = (x8_4 : Int).toNat := (by rw [Ny229.out, List.length_take]; omega); rw [← Ny229.out] at hr74; rw [← hy74] at hcut74; have HR232 := amk hr74; have HC232 := amk (show y229.length ≤ c217_2 from by omega); clear hr74 hC74 hroom74 hi074 hsz74; have KY74 := amk hy74; clear hy74; replace q74 := eq_true q74) | (go_at_call 114; (with_reducible refine (provisoref02_has.calls k4 _ _ y229 ((rd_T99 ((rd_T64 l0 a1).f2) x8_4).f0) false _ ?side1 ?side2 A44.out).mono ?_); (case side1 => repeat (first | exact (Kd.C_below HR232.out (by repeat (first | (with_reducible first | exact HB.out | apply bal | apply pbd | apply bdr | refine below_set ?_ GE218.out | refine below_set ?_ GE226.out) | exact HB.out))) | (with_reducible refine Kd.C_alloc ?_ _) | (with_reducible refine Kd.C_drewN ?_ _) | (with_reducible refine Kd.C_drew ?_))); (case side2 => exact HC232.out); rintro e w' ⟨rfl, ⟨nd, rfl⟩⟩; (try first | exact ⟨rfl, _, World.drewN_drewN _ _ _⟩ | exact ⟨rfl, _, Eq.trans (World.drewN_drewN _ _ _) (congrArg (World.drewN _) (Nat.add_assoc _ _ _))⟩)) | (go_at_call 115; (with_reducible refine (provisoref02_Stored.calls _ _ l0 ((rd_T99 ((rd_T64 l0 a1).f2) x8_4).f1) false _ ?side1 ?side2 A55.out).mono ?_); (case side1 => repeat (first | exact (Kd.C_below HR0.out (by repeat (first | (with_reducible first | exact HB.out | apply bal | apply pbd | apply bdr | refine below_set ?_ GE218.out | refine below_set ?_ GE226.out) | exact HB.out))) | (with_reducible refine Kd.C_alloc ?_ _) | (with_reducible refine Kd.C_drewN ?_ _) | (with_reducible refine Kd.C_drew ?_))); (case side2 => exact HC0.out); rintro e w' ⟨rfl, ⟨nd, rfl⟩⟩; (try first | exact ⟨rfl, _, World.drewN_drewN _ _ _⟩ | exact ⟨rfl, _, Eq.trans (World.drewN_drewN _ _ _) (congrArg (World.drewN _) (Nat.add_assoc _ _ _))⟩))))
                                            go_ret
                                            exact ⟨by first | rfl | (simp [errW_none, errW_some] <;> rfl) | (simp [*, errW_none, errW_some] <;> rfl), by repeat (first | (with_reducible first | exact HB.out | apply bal | apply pbd | apply bdr | refine below_set ?_ GE218.out | refine below_set ?_ GE226.out) | exact HB.out)⟩
                                      · rw [if_neg c43] at H
                                        exact absurd H (by simp)
                                  · replace c34 := Bool.eq_false_iff.mpr c34
                                    subst c34
                                    have H1 : (some 6) = some r := by rw [if_neg (show ¬ (false = true) by decide)] at H; exact H
                                    clear H
                                    have H := H1
                                    clear H1
                                    obtain rfl := Option.some.inj H
                                    have hcz75_0 : wr.cell? ⟨gb218, 0, none⟩ = some (.string ((rd_T64 l0 a1).f0)) := (blk_cell BK218.out 0).trans rfl
                                    have hcz75_1 : wr.cell? ⟨gb218, 1, none⟩ = some (.int .i64 ((rd_T64 l0 a1).f1)) := (blk_cell BK218.out 1).trans rfl
                                    have hcz75_2 : wr.cell? ⟨gb218, 2, none⟩ = some (.slice A217_2 ((rd_T64 l0 a1).f2).length c217_2) := (blk_cell BK218.out 2).trans rfl
                                    have hfz75_0 := bkf BK218.out 0
                                    have hfz75_1 := bkf BK218.out 1
                                    have hfz75_2 := bkf BK218.out 2
                                    have p225 : 0 ≤ (x8_4 : Int) := of_decide_eq_true (by first | (with_reducible assumption) | assumption)
                                    have q225 : x8_4 < (((rd_T64 l0 a1).f2).length : Int) := of_decide_eq_true (by first | (with_reducible assumption) | assumption)
                                    obtain ⟨ad225, e225, hx225_0, hx225_1⟩ := at_T99 HR217_2.out x8_4 p225 q225
                                    cases e225
                                    replace hx225_0 := (HB.out.cell (blc w _ hx225_0)).trans hx225_0
                                    replace hx225_1 := (HB.out.cell (blc w _ hx225_1)).trans hx225_1
                                    replace p225 := eq_true p225
                                    replace q225 := eq_true q225
                                    go_wp2_with (first | ((with_reducible refine gate_dst (N := 9) rfl ?_); refine box_event ?hg (N := 9) ?hd (cs := #[.string (⟨#[]⟩ : ByteArray), .int .u8 0]) (t := 99) ?hr ?_; (case hd => rfl); (case hg => rfl); (case hr => first | (go_simp; done) | (go_simp; rfl)); intro gb226 hg w76 hbox hb; have n0_ := amk (Kd.R_below (Kd.R_elderB (by (with_reducible repeat (first | apply Kd.R_alloc | apply Kd.R_drewN | apply Kd.R_drew)); exact HO_7.out) gb226 (Nat.le_of_eq hg.symm)) hb); have n1_ := amk (blk_below (g := gb218) (o := .cells #[.string ((rd_T64 l0 a1).f0), .int .i64 ((rd_T64 l0 a1).f1), .slice (some ad225) ((rd_T64 l0 a1).f2).length c217_2] 64 (0, 0)) (by (with_reducible repeat (first | refine bkd ?_ _ | refine blk_drew ?_ | refine bka ?_ _)); exact BK218.out) hb); have n2_ := amk (below_step (by repeat (first | (with_reducible first | exact HB.out | apply bal | apply pbd | apply bdr | refine below_set ?_ GE218.out) | exact HB.out)) hb); have n3_ := amk (hbox); have n4_ := amk ((by rw [hg]; exact (below_size (by repeat (first | (with_reducible first | exact HB.out | apply bal | apply pbd | apply bdr | refine below_set ?_ GE218.out) | exact HB.out))) : w.heap.size ≤ gb226)); have n5_ := amk ((by rw [hg]; exact (below_size (by repeat (first | (with_reducible first | exact HB.out | apply bal | apply pbd | apply bdr | refine below_set ?_ GE218.out) | exact HB.out))) : w.heap.size ≤ gb226)); have n6_ := amk ((by rw [hg]; exact Nat.ne_of_lt (blk_lt (g := gb218) (o := .cells #[.string ((rd_T64 l0 a1).f0), .int .i64 ((rd_T64 l0 a1).f1), .slice (some ad225) ((rd_T64 l0 a1).f2).length c217_2] 64 (0, 0)) (by (with_reducible repeat (first | refine bkd ?_ _ | refine blk_drew ?_ | refine bka ?_ _)); exact BK218.out)) : gb218 ≠ gb226)); have n7_ := amk ((by rw [hg]; exact Nat.ne_of_gt (blk_lt (g := gb218) (o := .cells #[.string ((rd_T64 l0 a1).f0), .int .i64 ((rd_T64 l0 a1).f1), .slice (some ad225) ((rd_T64 l0 a1).f2).length c217_2] 64 (0, 0)) (by (with_reducible repeat (first | refine bkd ?_ _ | refine blk_drew ?_ | refine bka ?_ _)); exact BK218.out)) : gb226 ≠ gb218)); clear HO_7; clear BK218; clear HB; have HO_7 := n0_; have BK218 := n1_; have HB := n2_; have BK226 := n3_; have GW226 := n4_; have GE226 := n5_; have NB218_226 := n6_; have NB226_218 := n7_; clear n0_ n1_ n2_ n3_ n4_ n5_ n6_ n7_; clear hb hbox hg; have hnb77 := NB226_218.out; have hnc77 := NB218_226.out; have hcz78_0 : w76.cell? ⟨gb226, 0, none⟩ = some (.string (⟨#[]⟩ : ByteArray)) := (blk_cell BK226.out 0).trans rfl; have hcz78_1 : w76.cell? ⟨gb226, 1, none⟩ = some (.int .u8 0) := (blk_cell BK226.out 1).trans rfl; have hfz78_0 := bkf BK226.out 0; have hfz78_1 := bkf BK226.out 1) | (go_at_call 40; (with_reducible refine (provisoref02_IsName.calls k4 ((rd_T99 ((rd_T64 l0 a1).f2) x8_4).f0) false _ A33.out).mono ?_); rintro e w' ⟨rfl, ⟨nd, rfl⟩⟩; (try first | exact ⟨rfl, _, World.drewN_drewN _ _ _⟩ | exact ⟨rfl, _, Eq.trans (World.drewN_drewN _ _ _) (congrArg (World.drewN _) (Nat.add_assoc _ _ _))⟩)))
                                    repeat (go_quiet (first | ((with_reducible refine gate_dst (N := 9) rfl ?_); refine box_event ?hg (N := 9) ?hd (cs := #[.string (⟨#[]⟩ : ByteArray), .int .u8 0]) (t := 99) ?hr ?_; (case hd => rfl); (case hg => rfl); (case hr => first | (go_simp; done) | (go_simp; rfl)); intro gb226 hg w76 hbox hb; have n0_ := amk (Kd.R_below (Kd.R_elderB (by (with_reducible repeat (first | apply Kd.R_alloc | apply Kd.R_drewN | apply Kd.R_drew)); exact HO_7.out) gb226 (Nat.le_of_eq hg.symm)) hb); have n1_ := amk (blk_below (g := gb218) (o := .cells #[.string ((rd_T64 l0 a1).f0), .int .i64 ((rd_T64 l0 a1).f1), .slice (some ad225) ((rd_T64 l0 a1).f2).length c217_2] 64 (0, 0)) (by (with_reducible repeat (first | refine bkd ?_ _ | refine blk_drew ?_ | refine bka ?_ _)); exact BK218.out) hb); have n2_ := amk (below_step (by repeat (first | (with_reducible first | exact HB.out | apply bal | apply pbd | apply bdr | refine below_set ?_ GE218.out) | exact HB.out)) hb); have n3_ := amk (hbox); have n4_ := amk ((by rw [hg]; exact (below_size (by repeat (first | (with_reducible first | exact HB.out | apply bal | apply pbd | apply bdr | refine below_set ?_ GE218.out) | exact HB.out))) : w.heap.size ≤ gb226)); have n5_ := amk ((by rw [hg]; exact (below_size (by repeat (first | (with_reducible first | exact HB.out | apply bal | apply pbd | apply bdr | refine below_set ?_ GE218.out) | exact HB.out))) : w.heap.size ≤ gb226)); have n6_ := amk ((by rw [hg]; exact Nat.ne_of_lt (blk_lt (g := gb218) (o := .cells #[.string ((rd_T64 l0 a1).f0), .int .i64 ((rd_T64 l0 a1).f1), .slice (some ad225) ((rd_T64 l0 a1).f2).length c217_2] 64 (0, 0)) (by (with_reducible repeat (first | refine bkd ?_ _ | refine blk_drew ?_ | refine bka ?_ _)); exact BK218.out)) : gb218 ≠ gb226)); have n7_ := amk ((by rw [hg]; exact Nat.ne_of_gt (blk_lt (g := gb218) (o := .cells #[.string ((rd_T64 l0 a1).f0), .int .i64 ((rd_T64 l0 a1).f1), .slice (some ad225) ((rd_T64 l0 a1).f2).length c217_2] 64 (0, 0)) (by (with_reducible repeat (first | refine bkd ?_ _ | refine blk_drew ?_ | refine bka ?_ _)); exact BK218.out)) : gb226 ≠ gb218)); clear HO_7; clear BK218; clear HB; have HO_7 := n0_; have BK218 := n1_; have HB := n2_; have BK226 := n3_; have GW226 := n4_; have GE226 := n5_; have NB218_226 := n6_; have NB226_218 := n7_; clear n0_ n1_ n2_ n3_ n4_ n5_ n6_ n7_; clear hb hbox hg; have hnb77 := NB226_218.out; have hnc77 := NB218_226.out; have hcz78_0 : w76.cell? ⟨gb226, 0, none⟩ = some (.string (⟨#[]⟩ : ByteArray)) := (blk_cell BK226.out 0).trans rfl; have hcz78_1 : w76.cell? ⟨gb226, 1, none⟩ = some (.int .u8 0) := (blk_cell BK226.out 1).trans rfl; have hfz78_0 := bkf BK226.out 0; have hfz78_1 := bkf BK226.out 1) | (go_at_call 40; (with_reducible refine (provisoref02_IsName.calls k4 ((rd_T99 ((rd_T64 l0 a1).f2) x8_4).f0) false _ A33.out).mono ?_); rintro e w' ⟨rfl, ⟨nd, rfl⟩⟩; (try first | exact ⟨rfl, _, World.drewN_drewN _ _ _⟩ | exact ⟨rfl, _, Eq.trans (World.drewN_drewN _ _ _) (congrArg (World.drewN _) (Nat.add_assoc _ _ _))⟩))); try go_wp2_with (first | ((with_reducible refine gate_dst (N := 9) rfl ?_); refine box_event ?hg (N := 9) ?hd (cs := #[.string (⟨#[]⟩ : ByteArray), .int .u8 0]) (t := 99) ?hr ?_; (case hd => rfl); (case hg => rfl); (case hr => first | (go_simp; done) | (go_simp; rfl)); intro gb226 hg w76 hbox hb; have n0_ := amk (Kd.R_below (Kd.R_elderB (by (with_reducible repeat (first | apply Kd.R_alloc | apply Kd.R_drewN | apply Kd.R_drew)); exact HO_7.out) gb226 (Nat.le_of_eq hg.symm)) hb); have n1_ := amk (blk_below (g := gb218) (o := .cells #[.string ((rd_T64 l0 a1).f0), .int .i64 ((rd_T64 l0 a1).f1), .slice (some ad225) ((rd_T64 l0 a1).f2).length c217_2] 64 (0, 0)) (by (with_reducible repeat (first | refine bkd ?_ _ | refine blk_drew ?_ | refine bka ?_ _)); exact BK218.out) hb); have n2_ := amk (below_step (by repeat (first | (with_reducible first | exact HB.out | apply bal | apply pbd | apply bdr | refine below_set ?_ GE218.out) | exact HB.out)) hb); have n3_ := amk (hbox); have n4_ := amk ((by rw [hg]; exact (below_size (by repeat (first | (with_reducible first | exact HB.out | apply bal | apply pbd | apply bdr | refine below_set ?_ GE218.out) | exact HB.out))) : w.heap.size ≤ gb226)); have n5_ := amk ((by rw [hg]; exact (below_size (by repeat (first | (with_reducible first | exact HB.out | apply bal | apply pbd | apply bdr | refine below_set ?_ GE218.out) | exact HB.out))) : w.heap.size ≤ gb226)); have n6_ := amk ((by rw [hg]; exact Nat.ne_of_lt (blk_lt (g := gb218) (o := .cells #[.string ((rd_T64 l0 a1).f0), .int .i64 ((rd_T64 l0 a1).f1), .slice (some ad225) ((rd_T64 l0 a1).f2).length c217_2] 64 (0, 0)) (by (with_reducible repeat (first | refine bkd ?_ _ | refine blk_drew ?_ | refine bka ?_ _)); exact BK218.out)) : gb218 ≠ gb226)); have n7_ := amk ((by rw [hg]; exact Nat.ne_of_gt (blk_lt (g := gb218) (o := .cells #[.string ((rd_T64 l0 a1).f0), .int .i64 ((rd_T64 l0 a1).f1), .slice (some ad225) ((rd_T64 l0 a1).f2).length c217_2] 64 (0, 0)) (by (with_reducible repeat (first | refine bkd ?_ _ | refine blk_drew ?_ | refine bka ?_ _)); exact BK218.out)) : gb226 ≠ gb218)); clear HO_7; clear BK218; clear HB; have HO_7 := n0_; have BK218 := n1_; have HB := n2_; have BK226 := n3_; have GW226 := n4_; have GE226 := n5_; have NB218_226 := n6_; have NB226_218 := n7_; clear n0_ n1_ n2_ n3_ n4_ n5_ n6_ n7_; clear hb hbox hg; have hnb77 := NB226_218.out; have hnc77 := NB218_226.out; have hcz78_0 : w76.cell? ⟨gb226, 0, none⟩ = some (.string (⟨#[]⟩ : ByteArray)) := (blk_cell BK226.out 0).trans rfl; have hcz78_1 : w76.cell? ⟨gb226, 1, none⟩ = some (.int .u8 0) := (blk_cell BK226.out 1).trans rfl; have hfz78_0 := bkf BK226.out 0; have hfz78_1 := bkf BK226.out 1) | (go_at_call 40; (with_reducible refine (provisoref02_IsName.calls k4 ((rd_T99 ((rd_T64 l0 a1).f2) x8_4).f0) false _ A33.out).mono ?_); rintro e w' ⟨rfl, ⟨nd, rfl⟩⟩; (try first | exact ⟨rfl, _, World.drewN_drewN _ _ _⟩ | exact ⟨rfl, _, Eq.trans (World.drewN_drewN _ _ _) (congrArg (World.drewN _) (Nat.add_assoc _ _ _))⟩))))
                                    go_ret
                                    exact ⟨by first | rfl | (simp [errW_none, errW_some] <;> rfl) | (simp [*, errW_none, errW_some] <;> rfl), by repeat (first | (with_reducible first | exact HB.out | apply bal | apply pbd | apply bdr | refine below_set ?_ GE218.out | refine below_set ?_ GE226.out) | exact HB.out)⟩
                                · rw [if_neg c32] at H
                                  exact absurd H (by simp)
                              · rw [if_neg c31] at H
                                have c31b0 : decide (x8_4 < (((rd_T64 l0 a1).f2).length : Int)) = false := decide_eq_false c31
                                clear c31
                                by_cases c79 : (((rd_T64 l0 a1).f2).length : Int) > (wrap64 (32 - (t222.length : Int)))
                                · rw [if_pos c79] at H
                                  have c79b0 : decide ((wrap64 (32 - (t222.length : Int))) < (((rd_T64 l0 a1).f2).length : Int)) = true := decide_eq_true c79
                                  clear c79
                                  obtain rfl := Option.some.inj H
                                  have hcz80_0 : wr.cell? ⟨gb218, 0, none⟩ = some (.string ((rd_T64 l0 a1).f0)) := (blk_cell BK218.out 0).trans rfl
                                  have hcz80_1 : wr.cell? ⟨gb218, 1, none⟩ = some (.int .i64 ((rd_T64 l0 a1).f1)) := (blk_cell BK218.out 1).trans rfl
                                  have hcz80_2 : wr.cell? ⟨gb218, 2, none⟩ = some (.slice A217_2 ((rd_T64 l0 a1).f2).length c217_2) := (blk_cell BK218.out 2).trans rfl
                                  have hfz80_0 := bkf BK218.out 0
                                  have hfz80_1 := bkf BK218.out 1
                                  have hfz80_2 := bkf BK218.out 2
                                  obtain ⟨Ao81, co81, eo81⟩ := Kd.R_slice HO_7.out
                                  subst eo81
                                  go_wp2
                                  repeat (go_quiet (fail); try go_wp2)
                                  go_ret
                                  exact ⟨by first | rfl | (simp [errW_none, errW_some] <;> rfl) | (simp [*, errW_none, errW_some] <;> rfl), by repeat (first | (with_reducible first | exact HB.out | apply bal | apply pbd | apply bdr | refine below_set ?_ GE218.out) | exact HB.out)⟩
                                · rw [if_neg c79] at H
                                  have c79b0 : decide ((wrap64 (32 - (t222.length : Int))) < (((rd_T64 l0 a1).f2).length : Int)) = false := decide_eq_false c79
                                  clear c79
                                  obtain rfl := Option.some.inj H
                                  have hcz82_0 : wr.cell? ⟨gb218, 0, none⟩ = some (.string ((rd_T64 l0 a1).f0)) := (blk_cell BK218.out 0).trans rfl
                                  have hcz82_1 : wr.cell? ⟨gb218, 1, none⟩ = some (.int .i64 ((rd_T64 l0 a1).f1)) := (blk_cell BK218.out 1).trans rfl
                                  have hcz82_2 : wr.cell? ⟨gb218, 2, none⟩ = some (.slice A217_2 ((rd_T64 l0 a1).f2).length c217_2) := (blk_cell BK218.out 2).trans rfl
                                  have hfz82_0 := bkf BK218.out 0
                                  have hfz82_1 := bkf BK218.out 1
                                  have hfz82_2 := bkf BK218.out 2
                                  obtain ⟨Ao83, co83, eo83⟩ := Kd.R_slice HO_7.out
                                  subst eo83
                                  go_wp2
                                  repeat (go_quiet (fail); try go_wp2)
                                  go_ret
                                  exact ⟨by first | rfl | (simp [errW_none, errW_some] <;> rfl) | (simp [*, errW_none, errW_some] <;> rfl), by repeat (first | (with_reducible first | exact HB.out | apply bal | apply pbd | apply bdr | refine below_set ?_ GE218.out) | exact HB.out)⟩
    · rw [if_neg c4] at H
      exact absurd H (by simp)
  · rw [if_neg c3] at H
    exact absurd H (by simp)

end Go.Proofs.Ytdlmcjchnoeebaa.P

end

section
namespace Go.Proofs.Ytdlmcjchnoeebaa.P
open Go.RowKit Go.Proofs.YtdlmcjchnoeebaaW.PrintWords Go.Proofs.YtdlmcjchnoeebaaW.PrintLast Go.Proofs.YtdlmcjchnoeebaaW.PrintMore
attribute [local go_sem] max2_int min2_int max_two min_two max_three min_three max_four min_four   -- for this text's walks alone
set_option linter.unusedVariables false
set_option linter.unusedSimpArgs false

def provisoref02_Check.l0 : Nat → List (S64) → Int → Option (Int × Int)
  | 0, _, _ => none
  | k + 1, x0, x4 => if x4 < (x0.length : Int) then ((provisoref02_fault.f k x0 x4).bind fun t235 => (if t235 = 0 then (provisoref02_Check.l0 k x0 (wrap64 (x4 + 1))) else (some (x4, t235)))) else (some (0, 0))
def provisoref02_Check.f (k : Nat) (l0 : List (S64)) : Option (Int × Int) := provisoref02_Check.l0 k l0 0
set_option maxHeartbeats 8000000 in
set_option maxRecDepth 100000 in
theorem provisoref02_Check.calls (k : Nat) (A0 : Option Addr) (c0 : Nat) (l0 : List (S64)) (r1 : Int) (r2 : Int) (w : World) (hr0 : Kd.C k64 w A0 l0.length l0) (hc0 : l0.length ≤ c0) (h : provisoref02_Check.f k l0 = some (r1, r2)) :
    Calls Try.prog 41 #[.slice A0 l0.length c0] w fun e w' => e = .returned (.tuple #[.int .i64 r1, .int .i64 r2]) ∧ Below w.heap.size w w' := by
  have HR0 := amk hr0
  have HC0 := amk hc0
  clear hr0 hc0
  have HB := amk (Below.refl w.heap.size w)
  have H : (provisoref02_Check.l0 k l0 0) = some (r1, r2) := h
  clear h
  have H' := amk H
  clear H
  go_enter Try.func41, Try.ntmps41
  go_wp2
  go_loopg [4] k (fun kq v4 w' => ∃ (x4_1 : Int), v4 = .int .i64 x4_1 ∧ Aside0 (provisoref02_Check.l0 kq l0 x4_1 = some (r1, r2)) ∧ Aside0 (kq ≤ k) ∧ Aside0 (Below w.heap.size w w'))
  case atStart => exact ⟨(0), (by first | rfl | (simp; done) | (simp [*]; done)), H', ⟨Nat.le_refl _⟩, ⟨by repeat (first | (with_reducible first | exact HB.out | apply bal | apply pbd | apply bdr) | exact HB.out)⟩⟩
  case round =>
    clear H'
    obtain ⟨x4_1, rfl, HA, HK1, HB⟩ := hrel
    cases gk with
    | zero => exact absurd HA.out (by simp [provisoref02_Check.l0])
    | succ k1 =>
      have H := HA.out
      clear HA
      simp only [provisoref02_Check.l0] at H
      by_cases c2 : x4_1 < (l0.length : Int)
      · rw [if_pos c2] at H
        have c2b0 : decide (x4_1 < (l0.length : Int)) = true := decide_eq_true c2
        clear c2
        replace H := Option.bind_eq_some_iff.mp H
        obtain ⟨t235, A30, H⟩ := H
        replace H : (if t235 = 0 then (provisoref02_Check.l0 k1 l0 (wrap64 (x4_1 + 1))) else (some (x4_1, t235))) = some (r1, r2) := H
        have A3 := amk A30
        clear A30
        by_cases c4 : t235 = 0
        · rw [if_pos c4] at H
          have c4b0 : (t235 == 0) = true := beq_iff_eq.mpr c4
          have c4b1 : (t235 != 0) = false := bne_eq_false_iff_eq.mpr c4
          clear c4
          have H' := amk H
          clear H
          go_wp2_with (first | ((with_reducible refine gate_callee (f := 74) rfl ?_); refine goesL_ (some 14) rfl rfl Try.func74 (by kernel_rfl) rfl #[.slice A0 l0.length c0, .int .i64 x4_1] rfl (by (try simp only [List.map_toArray, List.map_cons, List.map_nil]); first | done | rfl | (simp only [List.length_drop, List.length_take]; rfl)) ?_; (with_reducible refine (provisoref02_fault.calls k1 _ _ l0 x4_1 t235 _ ?side1 ?side2 A3.out).mono ?_); (case side1 => repeat (first | exact (Kd.C_below HR0.out HB.out) | (with_reducible refine Kd.C_alloc ?_ _) | (with_reducible refine Kd.C_drewN ?_ _) | (with_reducible refine Kd.C_drew ?_))); (case side2 => exact HC0.out); rintro e w5 ⟨rfl, hb⟩; refine ⟨_, rfl, ?_⟩; have n0_ := amk (below_step (by repeat (first | (with_reducible first | exact HB.out | apply bal | apply pbd | apply bdr) | exact HB.out)) hb); clear HB; have HB := n0_; clear n0_; (try clear hb); (try clear hb2); (try clear hk); (try clear hi)))
          go_roundg k1
          case measure => have := HK1.out; omega
          case rel => exact ⟨(wrap64 (x4_1 + 1)), (by first | rfl | (simp; done) | (simp [*]; done)), H', ⟨by have := HK1.out; omega⟩, ⟨by repeat (first | (with_reducible first | exact HB.out | apply bal | apply pbd | apply bdr) | exact HB.out)⟩⟩
        · rw [if_neg c4] at H
          have c4b0 : (t235 == 0) = false := beq_eq_false_iff_ne.mpr c4
          have c4b1 : (t235 != 0) = true := bne_iff_ne.mpr c4
          simp only [Option.some.injEq, Prod.mk.injEq] at H
          obtain ⟨rfl, rfl⟩ := H
          go_wp2_with (first | ((with_reducible refine gate_callee (f := 74) rfl ?_); refine goesL_ (some 14) rfl rfl Try.func74 (by kernel_rfl) rfl #[.slice A0 l0.length c0, .int .i64 x4_1] rfl (by (try simp only [List.map_toArray, List.map_cons, List.map_nil]); first | done | rfl | (simp only [List.length_drop, List.length_take]; rfl)) ?_; (with_reducible refine (provisoref02_fault.calls k1 _ _ l0 x4_1 t235 _ ?side1 ?side2 A3.out).mono ?_); (case side1 => repeat (first | exact (Kd.C_below HR0.out HB.out) | (with_reducible refine Kd.C_alloc ?_ _) | (with_reducible refine Kd.C_drewN ?_ _) | (with_reducible refine Kd.C_drew ?_))); (case side2 => exact HC0.out); rintro e w6 ⟨rfl, hb⟩; refine ⟨_, rfl, ?_⟩; have n0_ := amk (below_step (by repeat (first | (with_reducible first | exact HB.out | apply bal | apply pbd | apply bdr) | exact HB.out)) hb); clear HB; have HB := n0_; clear n0_; (try clear hb); (try clear hb2); (try clear hk); (try clear hi)))
          go_ret2
          exact ⟨by first | rfl | (simp [errW_none, errW_some] <;> rfl) | (simp [*, errW_none, errW_some] <;> rfl), by repeat (first | (with_reducible first | exact HB.out | apply bal | apply pbd | apply bdr) | exact HB.out)⟩
      · rw [if_neg c2] at H
        have c2b0 : decide (x4_1 < (l0.length : Int)) = false := decide_eq_false c2
        clear c2
        simp only [Option.some.injEq, Prod.mk.injEq] at H
        obtain ⟨rfl, rfl⟩ := H
        go_wp2
        go_ret2
        exact ⟨by first | rfl | (simp [errW_none, errW_some] <;> rfl) | (simp [*, errW_none, errW_some] <;> rfl), by repeat (first | (with_reducible first | exact HB.out | apply bal | apply pbd | apply bdr) | exact HB.out)⟩

def provisoref02_SigMay.l0 : Nat → List (S64) → Int → List Int → Int → Option (Bool)
  | 0, _, _, _, _ => none
  | k + 1, x0, x5, x237000, x237001 => if x5 < (x237000.length : Int) then (if 0 ≤ x5 then ((provisoref02_Stored.f x0 (rd x237000 x5)).bind fun t238 => (if t238 = true then (provisoref02_SigMay.l0 k x0 (wrap64 (x5 + 1)) x237000 x237001) else (some false))) else (none)) else (if (x237000.length : Int) ≤ 8 then (if x237001 = 0 then (some true) else ((provisoref02_Stored.f x0 x237001).bind fun t239 => (some t239))) else (some false))
def provisoref02_SigMay.f (k : Nat) (l0 : List (S64)) (l1_0 : List Int) (a1_1 : Int) : Option (Bool) := provisoref02_SigMay.l0 k l0 0 l1_0 a1_1
set_option maxHeartbeats 8000000 in
set_option maxRecDepth 100000 in
theorem provisoref02_SigMay.calls (k : Nat) (A0 : Option Addr) (c0 : Nat) (l0 : List (S64)) (A1_0 : Option Addr) (c1_0 : Nat) (l1_0 : List Int) (a1_1 : Int) (r : Bool) (w : World) (hr0 : Kd.C k64 w A0 l0.length l0) (hc0 : l0.length ≤ c0) (hr1_0 : Kd.C (Kd.int .u8) w A1_0 l1_0.length l1_0) (hc1_0 : l1_0.length ≤ c1_0) (h : provisoref02_SigMay.f k l0 l1_0 a1_1 = some r) :
    Calls Try.prog 75 #[.slice A0 l0.length c0, .agg #[.slice A1_0 l1_0.length c1_0, .int .u8 a1_1]] w fun e w' => e = .returned (.bool r) ∧ Below w.heap.size w w' := by
  have hu47 := Try.underlying47
  have HR0 := amk hr0
  have HC0 := amk hc0
  clear hr0 hc0
  have HR1_0 := amk hr1_0
  have HC1_0 := amk hc1_0
  clear hr1_0 hc1_0
  have HB := amk (Below.refl w.heap.size w)
  have H : (provisoref02_SigMay.l0 k l0 0 l1_0 a1_1) = some r := h
  clear h
  have H' := amk H
  clear H
  go_enter Try.func75, Try.ntmps75
  go_wp2_with (first | ((with_reducible refine gate_dst (N := 3) rfl ?_); refine box_event ?hg (N := 3) ?hd (cs := #[.slice A1_0 l1_0.length c1_0, .int .u8 a1_1]) (t := 47) ?hr ?_; (case hd => rfl); (case hg => rfl); (case hr => first | (go_simp; done) | (go_simp; rfl)); intro gb236 hg w3 hbox hb; have n0_ := amk (below_step (by repeat (first | (with_reducible first | exact HB.out | apply bal | apply pbd | apply bdr) | exact HB.out)) hb); have n1_ := amk (hbox); have n2_ := amk ((by rw [hg]; exact (below_size (by repeat (first | (with_reducible first | exact HB.out | apply bal | apply pbd | apply bdr) | exact HB.out))) : w.heap.size ≤ gb236)); have n3_ := amk ((by rw [hg]; exact (below_size (by repeat (first | (with_reducible first | exact HB.out | apply bal | apply pbd | apply bdr) | exact HB.out))) : w.heap.size ≤ gb236)); clear HB; have HB := n0_; have BK236 := n1_; have GW236 := n2_; have GE236 := n3_; clear n0_ n1_ n2_ n3_; clear hb hbox hg))
  go_loopg [5] k (fun kq v5 w' => ∃ (x5_1 : Int), v5 = .int .i64 x5_1 ∧ Aside0 (provisoref02_SigMay.l0 kq l0 x5_1 l1_0 a1_1 = some r) ∧ Aside0 (kq ≤ k) ∧ Aside0 (w'.heap[gb236]? = some (.cells #[(.slice A1_0 l1_0.length c1_0), .int .u8 a1_1] 47 (0, 0))) ∧ Aside0 (Below w.heap.size w w'))
  case atStart => exact ⟨(0), (by first | rfl | (simp; done) | (simp [*]; done)), H', ⟨Nat.le_refl _⟩, ⟨by (with_reducible repeat (first | refine bkd ?_ _ | refine blk_drew ?_ | refine bka ?_ _)); exact BK236.out⟩, ⟨by repeat (first | (with_reducible first | exact HB.out | apply bal | apply pbd | apply bdr | refine below_set ?_ GE236.out) | exact HB.out)⟩⟩
  case round =>
    clear H'
    try clear c1
    try clear p2
    obtain ⟨x5_1, rfl, HA, HK1, BK236, HB⟩ := hrel
    cases gk with
    | zero => exact absurd HA.out (by simp [provisoref02_SigMay.l0])
    | succ k1 =>
      have H := HA.out
      clear HA
      simp only [provisoref02_SigMay.l0] at H
      by_cases c4 : x5_1 < (l1_0.length : Int)
      · rw [if_pos c4] at H
        have c4b0 : decide (x5_1 < (l1_0.length : Int)) = true := decide_eq_true c4
        clear c4
        by_cases c5 : 0 ≤ x5_1
        · rw [if_pos c5] at H
          have c5b0 : decide (0 ≤ x5_1) = true := decide_eq_true c5
          clear c5
          replace H := Option.bind_eq_some_iff.mp H
          obtain ⟨t238, A60, H⟩ := H
          replace H : (if t238 = true then (provisoref02_SigMay.l0 k1 l0 (wrap64 (x5_1 + 1)) l1_0 a1_1) else (some false)) = some r := H
          have A6 := amk A60
          clear A60
          by_cases c7 : t238 = true
          · subst c7
            have H1 : (provisoref02_SigMay.l0 k1 l0 (wrap64 (x5_1 + 1)) l1_0 a1_1) = some r := by rw [if_pos rfl] at H; exact H
            clear H
            have H := H1
            clear H1
            have H' := amk H
            clear H
            have hcz8_0 : wr.cell? ⟨gb236, 0, none⟩ = some (.slice A1_0 l1_0.length c1_0) := (blk_cell BK236.out 0).trans rfl
            have hcz8_1 : wr.cell? ⟨gb236, 1, none⟩ = some (.int .u8 a1_1) := (blk_cell BK236.out 1).trans rfl
            have hfz8_0 := bkf BK236.out 0
            have hfz8_1 := bkf BK236.out 1
            have p237 : 0 ≤ (x5_1 : Int) := of_decide_eq_true (by first | (with_reducible assumption) | assumption)
            have q237 : x5_1 < (l1_0.length : Int) := of_decide_eq_true (by first | (with_reducible assumption) | assumption)
            obtain ⟨ad237, e237, hx237_0⟩ := Kd.at_int HR1_0.out x5_1 p237 q237
            cases e237
            replace hx237_0 := (HB.out.cell (blc w _ hx237_0)).trans hx237_0
            replace p237 := eq_true p237
            replace q237 := eq_true q237
            go_wp2_with (first | ((with_reducible refine gate_callee (f := 115) rfl ?_); refine goesL_ (some 19) rfl rfl Try.func115 (by kernel_rfl) rfl #[.slice A0 l0.length c0, .int .u8 (rd l1_0 x5_1)] rfl (by (try simp only [List.map_toArray, List.map_cons, List.map_nil]); first | done | rfl | (simp only [List.length_drop, List.length_take]; rfl)) ?_; (with_reducible refine (provisoref02_Stored.calls _ _ l0 (rd l1_0 x5_1) true _ ?side1 ?side2 A6.out).mono ?_); (case side1 => repeat (first | exact (Kd.C_below HR0.out HB.out) | (with_reducible refine Kd.C_alloc ?_ _) | (with_reducible refine Kd.C_drewN ?_ _) | (with_reducible refine Kd.C_drew ?_))); (case side2 => exact HC0.out); rintro e w' ⟨rfl, ⟨nd, rfl⟩⟩; refine ⟨_, rfl, ?_⟩))
            go_roundg k1
            case measure => have := HK1.out; omega
            case rel => exact ⟨(wrap64 (x5_1 + 1)), (by first | rfl | (simp; done) | (simp [*]; done)), H', ⟨by have := HK1.out; omega⟩, ⟨by (with_reducible repeat (first | refine bkd ?_ _ | refine blk_drew ?_ | refine bka ?_ _)); exact BK236.out⟩, ⟨by repeat (first | (with_reducible first | exact HB.out | apply bal | apply pbd | apply bdr | refine below_set ?_ GE236.out) | exact HB.out)⟩⟩
          · replace c7 := Bool.eq_false_iff.mpr c7
            subst c7
            have H1 : (some false) = some r := by rw [if_neg (show ¬ (false = true) by decide)] at H; exact H
            clear H
            have H := H1
            clear H1
            obtain rfl := Option.some.inj H
            have hcz9_0 : wr.cell? ⟨gb236, 0, none⟩ = some (.slice A1_0 l1_0.length c1_0) := (blk_cell BK236.out 0).trans rfl
            have hcz9_1 : wr.cell? ⟨gb236, 1, none⟩ = some (.int .u8 a1_1) := (blk_cell BK236.out 1).trans rfl
            have hfz9_0 := bkf BK236.out 0
            have hfz9_1 := bkf BK236.out 1
            have p237 : 0 ≤ (x5_1 : Int) := of_decide_eq_true (by first | (with_reducible assumption) | assumption)
            have q237 : x5_1 < (l1_0.length : Int) := of_decide_eq_true (by first | (with_reducible assumption) | assumption)
            obtain ⟨ad237, e237, hx237_0⟩ := Kd.at_int HR1_0.out x5_1 p237 q237
            cases e237
            replace hx237_0 := (HB.out.cell (blc w _ hx237_0)).trans hx237_0
            replace p237 := eq_true p237
            replace q237 := eq_true q237
            go_wp2_with (first | ((with_reducible refine gate_callee (f := 115) rfl ?_); refine goesL_ (some 19) rfl rfl Try.func115 (by kernel_rfl) rfl #[.slice A0 l0.length c0, .int .u8 (rd l1_0 x5_1)] rfl (by (try simp only [List.map_toArray, List.map_cons, List.map_nil]); first | done | rfl | (simp only [List.length_drop, List.length_take]; rfl)) ?_; (with_reducible refine (provisoref02_Stored.calls _ _ l0 (rd l1_0 x5_1) false _ ?side1 ?side2 A6.out).mono ?_); (case side1 => repeat (first | exact (Kd.C_below HR0.out HB.out) | (with_reducible refine Kd.C_alloc ?_ _) | (with_reducible refine Kd.C_drewN ?_ _) | (with_reducible refine Kd.C_drew ?_))); (case side2 => exact HC0.out); rintro e w' ⟨rfl, ⟨nd, rfl⟩⟩; refine ⟨_, rfl, ?_⟩))
            go_ret
            exact ⟨by first | rfl | (simp [errW_none, errW_some] <;> rfl) | (simp [*, errW_none, errW_some] <;> rfl), by repeat (first | (with_reducible first | exact HB.out | apply bal | apply pbd | apply bdr | refine below_set ?_ GE236.out) | exact HB.out)⟩
        · rw [if_neg c5] at H
          exact absurd H (by simp)
      · rw [if_neg c4] at H
        have c4b0 : decide (x5_1 < (l1_0.length : Int)) = false := decide_eq_false c4
        clear c4
        by_cases c10 : (l1_0.length : Int) ≤ 8
        · rw [if_pos c10] at H
          have c10b0 : decide ((l1_0.length : Int) ≤ 8) = true := decide_eq_true c10
          have c10b1 : decide (l1_0.length ≤ 8) = true := decide_eq_true (by omega)
          clear c10
          by_cases c11 : a1_1 = 0
          · rw [if_pos c11] at H
            have c11b0 : (a1_1 == 0) = true := beq_iff_eq.mpr c11
            have c11b1 : (a1_1 != 0) = false := bne_eq_false_iff_eq.mpr c11
            clear c11
            obtain rfl := Option.some.inj H
            have hcz12_0 : wr.cell? ⟨gb236, 0, none⟩ = some (.slice A1_0 l1_0.length c1_0) := (blk_cell BK236.out 0).trans rfl
            have hcz12_1 : wr.cell? ⟨gb236, 1, none⟩ = some (.int .u8 a1_1) := (blk_cell BK236.out 1).trans rfl
            have hfz12_0 := bkf BK236.out 0
            have hfz12_1 := bkf BK236.out 1
            go_wp2
            go_ret
            exact ⟨by first | rfl | (simp [errW_none, errW_some] <;> rfl) | (simp [*, errW_none, errW_some] <;> rfl), by repeat (first | (with_reducible first | exact HB.out | apply bal | apply pbd | apply bdr | refine below_set ?_ GE236.out) | exact HB.out)⟩
          · rw [if_neg c11] at H
            have c11b0 : (a1_1 == 0) = false := beq_eq_false_iff_ne.mpr c11
            have c11b1 : (a1_1 != 0) = true := bne_iff_ne.mpr c11
            replace H := Option.bind_eq_some_iff.mp H
            obtain ⟨t239, A130, H⟩ := H
            replace H : (some t239) = some r := H
            have A13 := amk A130
            clear A130
            obtain rfl := Option.some.inj H
            have hcz14_0 : wr.cell? ⟨gb236, 0, none⟩ = some (.slice A1_0 l1_0.length c1_0) := (blk_cell BK236.out 0).trans rfl
            have hcz14_1 : wr.cell? ⟨gb236, 1, none⟩ = some (.int .u8 a1_1) := (blk_cell BK236.out 1).trans rfl
            have hfz14_0 := bkf BK236.out 0
            have hfz14_1 := bkf BK236.out 1
            go_wp2_with (first | (go_at_call 115; (with_reducible refine (provisoref02_Stored.calls _ _ l0 a1_1 t239 _ ?side1 ?side2 A13.out).mono ?_); (case side1 => repeat (first | exact (Kd.C_below HR0.out HB.out) | (with_reducible refine Kd.C_alloc ?_ _) | (with_reducible refine Kd.C_drewN ?_ _) | (with_reducible refine Kd.C_drew ?_))); (case side2 => exact HC0.out); rintro e w' ⟨rfl, ⟨nd, rfl⟩⟩))
            go_ret
            exact ⟨by first | rfl | (simp [errW_none, errW_some] <;> rfl) | (simp [*, errW_none, errW_some] <;> rfl), by repeat (first | (with_reducible first | exact HB.out | apply bal | apply pbd | apply bdr | refine below_set ?_ GE236.out) | exact HB.out)⟩
        · rw [if_neg c10] at H
          have c10b0 : decide ((l1_0.length : Int) ≤ 8) = false := decide_eq_false c10
          have c10b1 : decide (l1_0.length ≤ 8) = false := decide_eq_false (by omega)
          clear c10
          obtain rfl := Option.some.inj H
          have hcz15_0 : wr.cell? ⟨gb236, 0, none⟩ = some (.slice A1_0 l1_0.length c1_0) := (blk_cell BK236.out 0).trans rfl
          have hcz15_1 : wr.cell? ⟨gb236, 1, none⟩ = some (.int .u8 a1_1) := (blk_cell BK236.out 1).trans rfl
          have hfz15_0 := bkf BK236.out 0
          have hfz15_1 := bkf BK236.out 1
          go_wp2
          go_ret
          exact ⟨by first | rfl | (simp [errW_none, errW_some] <;> rfl) | (simp [*, errW_none, errW_some] <;> rfl), by repeat (first | (with_reducible first | exact HB.out | apply bal | apply pbd | apply bdr | refine below_set ?_ GE236.out) | exact HB.out)⟩

end Go.Proofs.Ytdlmcjchnoeebaa.P

end

section
namespace Go.Proofs.Ytdlmcjchnoeebaa.P
open Go.RowKit Go.Proofs.YtdlmcjchnoeebaaW.PrintWords Go.Proofs.YtdlmcjchnoeebaaW.PrintLast Go.Proofs.YtdlmcjchnoeebaaW.PrintMore
attribute [local go_sem] max2_int min2_int max_two min_two max_three min_three max_four min_four   -- for this text's walks alone
set_option linter.unusedVariables false
set_option linter.unusedSimpArgs false

mutual
def provisoref16_function.l0 : Nat → Int → Int → ByteArray → List (S64) → List (S49) → List (List Int) → ByteArray → List Int → Int → Int → List Int → Option (Int)
  | 0, _, _, _, _, _, _, _, _, _, _, _ => none
  | k + 1, x1, x6, x241000, x241001, x241002, x241003, x243000, x243001, x243002, x243003, x243004 => if x6 < x1 then (if 0 ≤ x6 then (if x6 < (x241002.length : Int) then (if ((rd_T49 x241002 x6).f0).toList = x243000.toList then (some 20) else (provisoref16_function.l0 k x1 (wrap64 (x6 + 1)) x241000 x241001 x241002 x241003 x243000 x243001 x243002 x243003 x243004)) else (none)) else (none)) else (if (x243001.length : Int) > 8 then (some 4) else ((provisoref02_SigMay.f k x241001 x243001 x243002).bind fun t245 => (if t245 = true then (if x243003 < (x243001.length : Int) then (provisoref16_function.j1 k true x243000 x243001 x243002 x243003 x243004) else (provisoref16_function.j1 k (decide (x243003 > 16)) x243000 x243001 x243002 x243003 x243004)) else (some 22))))
def provisoref16_function.j1 : Nat → Bool → ByteArray → List Int → Int → Int → List Int → Option (Int)
  | 0, _, _, _, _, _, _ => none
  | k + 1, x52, x243000, x243001, x243002, x243003, x243004 => if x52 = true then (some 5) else (if (x243004.length : Int) = 0 then (some 2) else (if (x243004.length : Int) > 4096 then (some 4) else (some 0)))
end
def provisoref16_function.f (k : Nat) (a0_0 : ByteArray) (l0_1 : List (S64)) (l0_2 : List (S49)) (l0_3 : List (List Int)) (a1 : Int) : Option (Int) := if 0 ≤ a1 then (if a1 < (l0_2.length : Int) then ((provisoref02_IsName.f k ((rd_T49 l0_2 a1).f0)).bind fun t243 => (if t243 = true then (provisoref16_function.l0 k a1 0 a0_0 l0_1 l0_2 l0_3 ((rd_T49 l0_2 a1).f0) ((rd_T49 l0_2 a1).f1.f0) ((rd_T49 l0_2 a1).f1.f1) ((rd_T49 l0_2 a1).f2) ((rd_T49 l0_2 a1).f3)) else (some 6))) else (none)) else (none)
end Go.Proofs.Ytdlmcjchnoeebaa.P
end

