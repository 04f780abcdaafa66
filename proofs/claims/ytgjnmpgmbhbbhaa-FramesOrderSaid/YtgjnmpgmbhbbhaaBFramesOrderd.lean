/- Proved: the law FramesOrder holds for every input that the row lets in. No condition of ours. -/
import Derived.Test.YtgjnmpgmbhbbhaaBFramesOrderc
section
namespace Go.Proofs.Ytgjnmpgmbhbbhaa.P
open Go.RowKit Go.Proofs.YtgjnmpgmbhbbhaaW.PrintWords Go.Proofs.YtgjnmpgmbhbbhaaW.PrintLast Go.Proofs.YtgjnmpgmbhbbhaaW.PrintMore
attribute [local go_sem] max2_int min2_int max_two min_two max_three min_three max_four min_four   -- for this text's walks alone
set_option linter.unusedVariables false
set_option linter.unusedSimpArgs false

set_option maxHeartbeats 8000000 in
set_option maxRecDepth 100000 in
theorem provisoref02_fault.calls (k : Nat) (A0 : Option Addr) (c0 : Nat) (l0 : List (S59)) (a1 : Int) (r : Int) (w : World) (hr0 : Kd.C k59 w A0 l0.length l0) (hc0 : l0.length ≤ c0) (h : provisoref02_fault.f k l0 a1 = some r) :
    Calls Try.prog 60 #[.slice A0 l0.length c0, .int .i64 a1] w fun e w' => e = .returned (.int .i64 r) ∧ Below w.heap.size w w' := by
  have hu59 := Try.underlying59
  have hu62 := Try.underlying62
  have HR0 := Aside0.mk hr0
  have HC0 := Aside0.mk hc0
  clear hr0 hc0
  have HB := Aside0.mk (Below.refl w.heap.size w)
  have H : (if 0 ≤ a1 then (if a1 < (l0.length : Int) then (if a1 ≥ 32 then (some 4) else ((provisoref02_IsName.f k ((rd_T59 l0 a1).f0)).bind fun t118 => (if t118 = true then ((provisoref02_isWord.f k ((rd_T59 l0 a1).f0)).bind fun t119 => (provisoref02_fault.j0 k l0 a1 t119 ((rd_T59 l0 a1).f0) ((rd_T59 l0 a1).f1) ((rd_T59 l0 a1).f2))) else (provisoref02_fault.j0 k l0 a1 true ((rd_T59 l0 a1).f0) ((rd_T59 l0 a1).f1) ((rd_T59 l0 a1).f2))))) else (none)) else (none)) = some r := h
  clear h
  by_cases c3 : 0 ≤ a1
  · rw [if_pos c3] at H
    have c3b0 : decide (0 ≤ a1) = true := decide_eq_true c3
    clear c3
    by_cases c4 : a1 < (l0.length : Int)
    · rw [if_pos c4] at H
      have c4b0 : decide (a1 < (l0.length : Int)) = true := decide_eq_true c4
      clear c4
      by_cases c5 : a1 ≥ 32
      · rw [if_pos c5] at H
        have c5b0 : decide (32 ≤ a1) = true := decide_eq_true c5
        clear c5
        obtain rfl := Option.some.inj H
        have p116 : 0 ≤ (a1 : Int) := of_decide_eq_true (by first | (with_reducible assumption) | assumption)
        have q116 : a1 < (l0.length : Int) := of_decide_eq_true (by first | (with_reducible assumption) | assumption)
        obtain ⟨ad116, A116_2, c116_2, e116, hx116_0, hx116_1, hx116_2, hl116_2, hi116_2⟩ := at_T59 HR0.out a1 p116 q116
        cases e116
        have HR116_2 := Aside0.mk hi116_2
        have HC116_2 := Aside0.mk hl116_2
        clear hi116_2 hl116_2
        replace p116 := eq_true p116
        replace q116 := eq_true q116
        go_enter Try.func60, Try.ntmps60
        go_wp2_with (first | ((with_reducible refine gate_dst (N := 5) rfl ?_); refine box_event ?hg (N := 5) ?hd (cs := #[.string (⟨#[]⟩ : ByteArray), .int .i64 0, .slice none 0 0]) (t := 59) ?hr ?_; (case hd => rfl); (case hg => rfl); (case hr => first | (go_simp; done) | (go_simp; rfl)); intro gb117 hg w6 hbox hb; have n0_ := Aside0.mk (below_step (by repeat (first | (with_reducible first | exact HB.out | apply below_alloc | apply pw_below_drewN | apply below_drew1) | exact HB.out)) hb); have n1_ := Aside0.mk (hbox); have n2_ := Aside0.mk ((by rw [hg]; exact (below_size (by repeat (first | (with_reducible first | exact HB.out | apply below_alloc | apply pw_below_drewN | apply below_drew1) | exact HB.out))) : w.heap.size ≤ gb117)); have n3_ := Aside0.mk ((by rw [hg]; exact (below_size (by repeat (first | (with_reducible first | exact HB.out | apply below_alloc | apply pw_below_drewN | apply below_drew1) | exact HB.out))) : w.heap.size ≤ gb117)); clear HB; have HB := n0_; have BK117 := n1_; have GW117 := n2_; have GE117 := n3_; clear n0_ n1_ n2_ n3_; clear hb hbox hg; have hcz7_0 : w6.cell? ⟨gb117, 0, none⟩ = some (.string (⟨#[]⟩ : ByteArray)) := (blk_cell BK117.out 0).trans rfl; have hcz7_1 : w6.cell? ⟨gb117, 1, none⟩ = some (.int .i64 0) := (blk_cell BK117.out 1).trans rfl; have hcz7_2 : w6.cell? ⟨gb117, 2, none⟩ = some (.slice none 0 0) := (blk_cell BK117.out 2).trans rfl; have hfz7_0 := blk_frozen BK117.out 0; have hfz7_1 := blk_frozen BK117.out 1; have hfz7_2 := blk_frozen BK117.out 2))
        repeat (go_quiet (first | ((with_reducible refine gate_dst (N := 5) rfl ?_); refine box_event ?hg (N := 5) ?hd (cs := #[.string (⟨#[]⟩ : ByteArray), .int .i64 0, .slice none 0 0]) (t := 59) ?hr ?_; (case hd => rfl); (case hg => rfl); (case hr => first | (go_simp; done) | (go_simp; rfl)); intro gb117 hg w6 hbox hb; have n0_ := Aside0.mk (below_step (by repeat (first | (with_reducible first | exact HB.out | apply below_alloc | apply pw_below_drewN | apply below_drew1) | exact HB.out)) hb); have n1_ := Aside0.mk (hbox); have n2_ := Aside0.mk ((by rw [hg]; exact (below_size (by repeat (first | (with_reducible first | exact HB.out | apply below_alloc | apply pw_below_drewN | apply below_drew1) | exact HB.out))) : w.heap.size ≤ gb117)); have n3_ := Aside0.mk ((by rw [hg]; exact (below_size (by repeat (first | (with_reducible first | exact HB.out | apply below_alloc | apply pw_below_drewN | apply below_drew1) | exact HB.out))) : w.heap.size ≤ gb117)); clear HB; have HB := n0_; have BK117 := n1_; have GW117 := n2_; have GE117 := n3_; clear n0_ n1_ n2_ n3_; clear hb hbox hg; have hcz7_0 : w6.cell? ⟨gb117, 0, none⟩ = some (.string (⟨#[]⟩ : ByteArray)) := (blk_cell BK117.out 0).trans rfl; have hcz7_1 : w6.cell? ⟨gb117, 1, none⟩ = some (.int .i64 0) := (blk_cell BK117.out 1).trans rfl; have hcz7_2 : w6.cell? ⟨gb117, 2, none⟩ = some (.slice none 0 0) := (blk_cell BK117.out 2).trans rfl; have hfz7_0 := blk_frozen BK117.out 0; have hfz7_1 := blk_frozen BK117.out 1; have hfz7_2 := blk_frozen BK117.out 2)); try go_wp2_with (first | ((with_reducible refine gate_dst (N := 5) rfl ?_); refine box_event ?hg (N := 5) ?hd (cs := #[.string (⟨#[]⟩ : ByteArray), .int .i64 0, .slice none 0 0]) (t := 59) ?hr ?_; (case hd => rfl); (case hg => rfl); (case hr => first | (go_simp; done) | (go_simp; rfl)); intro gb117 hg w6 hbox hb; have n0_ := Aside0.mk (below_step (by repeat (first | (with_reducible first | exact HB.out | apply below_alloc | apply pw_below_drewN | apply below_drew1) | exact HB.out)) hb); have n1_ := Aside0.mk (hbox); have n2_ := Aside0.mk ((by rw [hg]; exact (below_size (by repeat (first | (with_reducible first | exact HB.out | apply below_alloc | apply pw_below_drewN | apply below_drew1) | exact HB.out))) : w.heap.size ≤ gb117)); have n3_ := Aside0.mk ((by rw [hg]; exact (below_size (by repeat (first | (with_reducible first | exact HB.out | apply below_alloc | apply pw_below_drewN | apply below_drew1) | exact HB.out))) : w.heap.size ≤ gb117)); clear HB; have HB := n0_; have BK117 := n1_; have GW117 := n2_; have GE117 := n3_; clear n0_ n1_ n2_ n3_; clear hb hbox hg; have hcz7_0 : w6.cell? ⟨gb117, 0, none⟩ = some (.string (⟨#[]⟩ : ByteArray)) := (blk_cell BK117.out 0).trans rfl; have hcz7_1 : w6.cell? ⟨gb117, 1, none⟩ = some (.int .i64 0) := (blk_cell BK117.out 1).trans rfl; have hcz7_2 : w6.cell? ⟨gb117, 2, none⟩ = some (.slice none 0 0) := (blk_cell BK117.out 2).trans rfl; have hfz7_0 := blk_frozen BK117.out 0; have hfz7_1 := blk_frozen BK117.out 1; have hfz7_2 := blk_frozen BK117.out 2)))
        go_ret
        exact ⟨by first | rfl | (simp [errW_none, errW_some] <;> rfl) | (simp [*, errW_none, errW_some] <;> rfl), by repeat (first | (with_reducible first | exact HB.out | apply below_alloc | apply pw_below_drewN | apply below_drew1 | refine below_set ?_ GE117.out) | exact HB.out)⟩
      · rw [if_neg c5] at H
        have c5b0 : decide (32 ≤ a1) = false := decide_eq_false c5
        clear c5
        have HC8 := Aside0.mk H
        clear H
        have p116 : 0 ≤ (a1 : Int) := of_decide_eq_true (by first | (with_reducible assumption) | assumption)
        have q116 : a1 < (l0.length : Int) := of_decide_eq_true (by first | (with_reducible assumption) | assumption)
        obtain ⟨ad116, A116_2, c116_2, e116, hx116_0, hx116_1, hx116_2, hl116_2, hi116_2⟩ := at_T59 HR0.out a1 p116 q116
        cases e116
        have HR116_2 := Aside0.mk hi116_2
        have HC116_2 := Aside0.mk hl116_2
        clear hi116_2 hl116_2
        replace p116 := eq_true p116
        replace q116 := eq_true q116
        go_enter Try.func60, Try.ntmps60
        go_upto_region 4 with (first | ((with_reducible refine gate_dst (N := 5) rfl ?_); refine box_event ?hg (N := 5) ?hd (cs := #[.string (⟨#[]⟩ : ByteArray), .int .i64 0, .slice none 0 0]) (t := 59) ?hr ?_; (case hd => rfl); (case hg => rfl); (case hr => first | (go_simp; done) | (go_simp; rfl)); intro gb117 hg w9 hbox hb; have n0_ := Aside0.mk (below_step (by repeat (first | (with_reducible first | exact HB.out | apply below_alloc | apply pw_below_drewN | apply below_drew1) | exact HB.out)) hb); have n1_ := Aside0.mk (hbox); have n2_ := Aside0.mk ((by rw [hg]; exact (below_size (by repeat (first | (with_reducible first | exact HB.out | apply below_alloc | apply pw_below_drewN | apply below_drew1) | exact HB.out))) : w.heap.size ≤ gb117)); have n3_ := Aside0.mk ((by rw [hg]; exact (below_size (by repeat (first | (with_reducible first | exact HB.out | apply below_alloc | apply pw_below_drewN | apply below_drew1) | exact HB.out))) : w.heap.size ≤ gb117)); clear HB; have HB := n0_; have BK117 := n1_; have GW117 := n2_; have GE117 := n3_; clear n0_ n1_ n2_ n3_; clear hb hbox hg; have hcz10_0 : w9.cell? ⟨gb117, 0, none⟩ = some (.string (⟨#[]⟩ : ByteArray)) := (blk_cell BK117.out 0).trans rfl; have hcz10_1 : w9.cell? ⟨gb117, 1, none⟩ = some (.int .i64 0) := (blk_cell BK117.out 1).trans rfl; have hcz10_2 : w9.cell? ⟨gb117, 2, none⟩ = some (.slice none 0 0) := (blk_cell BK117.out 2).trans rfl; have hfz10_0 := blk_frozen BK117.out 0; have hfz10_1 := blk_frozen BK117.out 1; have hfz10_2 := blk_frozen BK117.out 2))
        repeat (go_quiet (first | ((with_reducible refine gate_dst (N := 5) rfl ?_); refine box_event ?hg (N := 5) ?hd (cs := #[.string (⟨#[]⟩ : ByteArray), .int .i64 0, .slice none 0 0]) (t := 59) ?hr ?_; (case hd => rfl); (case hg => rfl); (case hr => first | (go_simp; done) | (go_simp; rfl)); intro gb117 hg w9 hbox hb; have n0_ := Aside0.mk (below_step (by repeat (first | (with_reducible first | exact HB.out | apply below_alloc | apply pw_below_drewN | apply below_drew1) | exact HB.out)) hb); have n1_ := Aside0.mk (hbox); have n2_ := Aside0.mk ((by rw [hg]; exact (below_size (by repeat (first | (with_reducible first | exact HB.out | apply below_alloc | apply pw_below_drewN | apply below_drew1) | exact HB.out))) : w.heap.size ≤ gb117)); have n3_ := Aside0.mk ((by rw [hg]; exact (below_size (by repeat (first | (with_reducible first | exact HB.out | apply below_alloc | apply pw_below_drewN | apply below_drew1) | exact HB.out))) : w.heap.size ≤ gb117)); clear HB; have HB := n0_; have BK117 := n1_; have GW117 := n2_; have GE117 := n3_; clear n0_ n1_ n2_ n3_; clear hb hbox hg; have hcz10_0 : w9.cell? ⟨gb117, 0, none⟩ = some (.string (⟨#[]⟩ : ByteArray)) := (blk_cell BK117.out 0).trans rfl; have hcz10_1 : w9.cell? ⟨gb117, 1, none⟩ = some (.int .i64 0) := (blk_cell BK117.out 1).trans rfl; have hcz10_2 : w9.cell? ⟨gb117, 2, none⟩ = some (.slice none 0 0) := (blk_cell BK117.out 2).trans rfl; have hfz10_0 := blk_frozen BK117.out 0; have hfz10_1 := blk_frozen BK117.out 1; have hfz10_2 := blk_frozen BK117.out 2)); go_upto_region 4 with (first | ((with_reducible refine gate_dst (N := 5) rfl ?_); refine box_event ?hg (N := 5) ?hd (cs := #[.string (⟨#[]⟩ : ByteArray), .int .i64 0, .slice none 0 0]) (t := 59) ?hr ?_; (case hd => rfl); (case hg => rfl); (case hr => first | (go_simp; done) | (go_simp; rfl)); intro gb117 hg w9 hbox hb; have n0_ := Aside0.mk (below_step (by repeat (first | (with_reducible first | exact HB.out | apply below_alloc | apply pw_below_drewN | apply below_drew1) | exact HB.out)) hb); have n1_ := Aside0.mk (hbox); have n2_ := Aside0.mk ((by rw [hg]; exact (below_size (by repeat (first | (with_reducible first | exact HB.out | apply below_alloc | apply pw_below_drewN | apply below_drew1) | exact HB.out))) : w.heap.size ≤ gb117)); have n3_ := Aside0.mk ((by rw [hg]; exact (below_size (by repeat (first | (with_reducible first | exact HB.out | apply below_alloc | apply pw_below_drewN | apply below_drew1) | exact HB.out))) : w.heap.size ≤ gb117)); clear HB; have HB := n0_; have BK117 := n1_; have GW117 := n2_; have GE117 := n3_; clear n0_ n1_ n2_ n3_; clear hb hbox hg; have hcz10_0 : w9.cell? ⟨gb117, 0, none⟩ = some (.string (⟨#[]⟩ : ByteArray)) := (blk_cell BK117.out 0).trans rfl; have hcz10_1 : w9.cell? ⟨gb117, 1, none⟩ = some (.int .i64 0) := (blk_cell BK117.out 1).trans rfl; have hcz10_2 : w9.cell? ⟨gb117, 2, none⟩ = some (.slice none 0 0) := (blk_cell BK117.out 2).trans rfl; have hfz10_0 := blk_frozen BK117.out 0; have hfz10_1 := blk_frozen BK117.out 1; have hfz10_2 := blk_frozen BK117.out 2)))
        (try simp only [Act.put, List.setIfInBounds_toArray, List.set_cons_zero, List.set_cons_succ])
        go_cut [24] (fun v24 wc => ∃ (kq : Nat) (x24_7 : Bool), v24 = .bool x24_7 ∧ Aside0 (provisoref02_fault.j0 kq l0 a1 x24_7 ((rd_T59 l0 a1).f0) ((rd_T59 l0 a1).f1) ((rd_T59 l0 a1).f2) = some r) ∧ Aside0 (kq ≤ k) ∧ Aside0 (wc.heap[gb117]? = some (.cells #[.string ((rd_T59 l0 a1).f0), .int .i64 ((rd_T59 l0 a1).f1), (.slice A116_2 ((rd_T59 l0 a1).f2).length c116_2)] 59 (0, 0))) ∧ Aside0 (Below w.heap.size w wc))
        case first =>
          have H := HC8.out
          clear HC8
          replace H := Option.bind_eq_some_iff.mp H
          obtain ⟨t118, A110, H⟩ := H
          replace H : (if t118 = true then ((provisoref02_isWord.f k ((rd_T59 l0 a1).f0)).bind fun t119 => (provisoref02_fault.j0 k l0 a1 t119 ((rd_T59 l0 a1).f0) ((rd_T59 l0 a1).f1) ((rd_T59 l0 a1).f2))) else (provisoref02_fault.j0 k l0 a1 true ((rd_T59 l0 a1).f0) ((rd_T59 l0 a1).f1) ((rd_T59 l0 a1).f2))) = some r := H
          have A11 := Aside0.mk A110
          clear A110
          by_cases c12 : t118 = true
          · subst c12
            have H1 : ((provisoref02_isWord.f k ((rd_T59 l0 a1).f0)).bind fun t119 => (provisoref02_fault.j0 k l0 a1 t119 ((rd_T59 l0 a1).f0) ((rd_T59 l0 a1).f1) ((rd_T59 l0 a1).f2))) = some r := by rw [if_pos rfl] at H; exact H
            clear H
            have H := H1
            clear H1
            replace H := Option.bind_eq_some_iff.mp H
            obtain ⟨t119, A130, H⟩ := H
            replace H : (provisoref02_fault.j0 k l0 a1 t119 ((rd_T59 l0 a1).f0) ((rd_T59 l0 a1).f1) ((rd_T59 l0 a1).f2)) = some r := H
            have A13 := Aside0.mk A130
            clear A130
            have H' := Aside0.mk H
            clear H
            have hcz14_0 : w9.cell? ⟨gb117, 0, none⟩ = some (.string (⟨#[]⟩ : ByteArray)) := (blk_cell BK117.out 0).trans rfl
            have hcz14_1 : w9.cell? ⟨gb117, 1, none⟩ = some (.int .i64 0) := (blk_cell BK117.out 1).trans rfl
            have hcz14_2 : w9.cell? ⟨gb117, 2, none⟩ = some (.slice none 0 0) := (blk_cell BK117.out 2).trans rfl
            have hfz14_0 := blk_frozen BK117.out 0
            have hfz14_1 := blk_frozen BK117.out 1
            have hfz14_2 := blk_frozen BK117.out 2
            go_wp2_with (first | (go_at_call 75; (with_reducible refine (provisoref02_IsName.calls k ((rd_T59 l0 a1).f0) true _ A11.out).mono ?_); rintro e w' ⟨rfl, ⟨nd, rfl⟩⟩; (try first | exact ⟨rfl, _, World.drewN_drewN _ _ _⟩ | exact ⟨rfl, _, Eq.trans (World.drewN_drewN _ _ _) (congrArg (World.drewN _) (Nat.add_assoc _ _ _))⟩)) | (go_at_call 76; (with_reducible refine (provisoref02_isWord.calls k ((rd_T59 l0 a1).f0) t119 _ A13.out).mono ?_); rintro e w' ⟨rfl, ⟨nd, rfl⟩⟩; (try first | exact ⟨rfl, _, World.drewN_drewN _ _ _⟩ | exact ⟨rfl, _, Eq.trans (World.drewN_drewN _ _ _) (congrArg (World.drewN _) (Nat.add_assoc _ _ _))⟩)))
            repeat (go_quiet (first | (go_at_call 75; (with_reducible refine (provisoref02_IsName.calls k ((rd_T59 l0 a1).f0) true _ A11.out).mono ?_); rintro e w' ⟨rfl, ⟨nd, rfl⟩⟩; (try first | exact ⟨rfl, _, World.drewN_drewN _ _ _⟩ | exact ⟨rfl, _, Eq.trans (World.drewN_drewN _ _ _) (congrArg (World.drewN _) (Nat.add_assoc _ _ _))⟩)) | (go_at_call 76; (with_reducible refine (provisoref02_isWord.calls k ((rd_T59 l0 a1).f0) t119 _ A13.out).mono ?_); rintro e w' ⟨rfl, ⟨nd, rfl⟩⟩; (try first | exact ⟨rfl, _, World.drewN_drewN _ _ _⟩ | exact ⟨rfl, _, Eq.trans (World.drewN_drewN _ _ _) (congrArg (World.drewN _) (Nat.add_assoc _ _ _))⟩))); try go_wp2_with (first | (go_at_call 75; (with_reducible refine (provisoref02_IsName.calls k ((rd_T59 l0 a1).f0) true _ A11.out).mono ?_); rintro e w' ⟨rfl, ⟨nd, rfl⟩⟩; (try first | exact ⟨rfl, _, World.drewN_drewN _ _ _⟩ | exact ⟨rfl, _, Eq.trans (World.drewN_drewN _ _ _) (congrArg (World.drewN _) (Nat.add_assoc _ _ _))⟩)) | (go_at_call 76; (with_reducible refine (provisoref02_isWord.calls k ((rd_T59 l0 a1).f0) t119 _ A13.out).mono ?_); rintro e w' ⟨rfl, ⟨nd, rfl⟩⟩; (try first | exact ⟨rfl, _, World.drewN_drewN _ _ _⟩ | exact ⟨rfl, _, Eq.trans (World.drewN_drewN _ _ _) (congrArg (World.drewN _) (Nat.add_assoc _ _ _))⟩))))
            go_meet
            case rel => exact ⟨_, (t119), (by first | rfl | (simp; done) | (simp [*]; done)), H', ⟨by first | omega | exact Nat.le_refl _⟩, ⟨by (with_reducible repeat (first | refine blk_drewN ?_ _ | refine blk_drew ?_ | refine blk_alloc ?_ _)); refine blk_put (cs := #[.string ((rd_T59 l0 a1).f0), .int .i64 ((rd_T59 l0 a1).f1), .slice none 0 0]) ?_ 2 _ rfl; (with_reducible repeat (first | refine blk_drewN ?_ _ | refine blk_drew ?_ | refine blk_alloc ?_ _)); refine blk_put (cs := #[.string ((rd_T59 l0 a1).f0), .int .i64 0, .slice none 0 0]) ?_ 1 _ rfl; (with_reducible repeat (first | refine blk_drewN ?_ _ | refine blk_drew ?_ | refine blk_alloc ?_ _)); refine blk_put (cs := #[.string (⟨#[]⟩ : ByteArray), .int .i64 0, .slice none 0 0]) ?_ 0 _ rfl; (with_reducible repeat (first | refine blk_drewN ?_ _ | refine blk_drew ?_ | refine blk_alloc ?_ _)); exact BK117.out⟩, ⟨by repeat (first | (with_reducible first | exact HB.out | apply below_alloc | apply pw_below_drewN | apply below_drew1 | refine below_set ?_ GE117.out) | exact HB.out)⟩⟩
          · replace c12 := Bool.eq_false_iff.mpr c12
            subst c12
            have H1 : (provisoref02_fault.j0 k l0 a1 true ((rd_T59 l0 a1).f0) ((rd_T59 l0 a1).f1) ((rd_T59 l0 a1).f2)) = some r := by rw [if_neg (show ¬ (false = true) by decide)] at H; exact H
            clear H
            have H := H1
            clear H1
            have H' := Aside0.mk H
            clear H
            have hcz15_0 : w9.cell? ⟨gb117, 0, none⟩ = some (.string (⟨#[]⟩ : ByteArray)) := (blk_cell BK117.out 0).trans rfl
            have hcz15_1 : w9.cell? ⟨gb117, 1, none⟩ = some (.int .i64 0) := (blk_cell BK117.out 1).trans rfl
            have hcz15_2 : w9.cell? ⟨gb117, 2, none⟩ = some (.slice none 0 0) := (blk_cell BK117.out 2).trans rfl
            have hfz15_0 := blk_frozen BK117.out 0
            have hfz15_1 := blk_frozen BK117.out 1
            have hfz15_2 := blk_frozen BK117.out 2
            go_wp2_with (first | (go_at_call 75; (with_reducible refine (provisoref02_IsName.calls k ((rd_T59 l0 a1).f0) false _ A11.out).mono ?_); rintro e w' ⟨rfl, ⟨nd, rfl⟩⟩; (try first | exact ⟨rfl, _, World.drewN_drewN _ _ _⟩ | exact ⟨rfl, _, Eq.trans (World.drewN_drewN _ _ _) (congrArg (World.drewN _) (Nat.add_assoc _ _ _))⟩)))
            repeat (go_quiet (first | (go_at_call 75; (with_reducible refine (provisoref02_IsName.calls k ((rd_T59 l0 a1).f0) false _ A11.out).mono ?_); rintro e w' ⟨rfl, ⟨nd, rfl⟩⟩; (try first | exact ⟨rfl, _, World.drewN_drewN _ _ _⟩ | exact ⟨rfl, _, Eq.trans (World.drewN_drewN _ _ _) (congrArg (World.drewN _) (Nat.add_assoc _ _ _))⟩))); try go_wp2_with (first | (go_at_call 75; (with_reducible refine (provisoref02_IsName.calls k ((rd_T59 l0 a1).f0) false _ A11.out).mono ?_); rintro e w' ⟨rfl, ⟨nd, rfl⟩⟩; (try first | exact ⟨rfl, _, World.drewN_drewN _ _ _⟩ | exact ⟨rfl, _, Eq.trans (World.drewN_drewN _ _ _) (congrArg (World.drewN _) (Nat.add_assoc _ _ _))⟩))))
            go_meet
            case rel => exact ⟨_, (true), (by first | rfl | (simp; done) | (simp [*]; done)), H', ⟨by first | omega | exact Nat.le_refl _⟩, ⟨by (with_reducible repeat (first | refine blk_drewN ?_ _ | refine blk_drew ?_ | refine blk_alloc ?_ _)); refine blk_put (cs := #[.string ((rd_T59 l0 a1).f0), .int .i64 ((rd_T59 l0 a1).f1), .slice none 0 0]) ?_ 2 _ rfl; (with_reducible repeat (first | refine blk_drewN ?_ _ | refine blk_drew ?_ | refine blk_alloc ?_ _)); refine blk_put (cs := #[.string ((rd_T59 l0 a1).f0), .int .i64 0, .slice none 0 0]) ?_ 1 _ rfl; (with_reducible repeat (first | refine blk_drewN ?_ _ | refine blk_drew ?_ | refine blk_alloc ?_ _)); refine blk_put (cs := #[.string (⟨#[]⟩ : ByteArray), .int .i64 0, .slice none 0 0]) ?_ 0 _ rfl; (with_reducible repeat (first | refine blk_drewN ?_ _ | refine blk_drew ?_ | refine blk_alloc ?_ _)); exact BK117.out⟩, ⟨by repeat (first | (with_reducible first | exact HB.out | apply below_alloc | apply pw_below_drewN | apply below_drew1 | refine below_set ?_ GE117.out) | exact HB.out)⟩⟩
        case rest =>
          clear HC8
          try clear c1
          try clear p1
          try clear q1
          try clear hx1
          try clear p2
          try clear c3
          try clear c3b0
          try clear c4
          try clear c4b0
          try clear c5
          try clear c5b0
          try clear c6
          try clear c11
          try clear p11
          try clear q11
          try clear hx11
          try clear c12
          try clear hcz10_0
          try clear hcz10_1
          try clear hcz10_2
          try clear hcz14_0
          try clear hcz14_1
          try clear hcz14_2
          try clear hcz15_0
          try clear hcz15_1
          try clear hcz15_2
          try clear hcz7_0
          try clear hcz7_1
          try clear hcz7_2
          try clear hfz10_0
          try clear hfz10_1
          try clear hfz10_2
          try clear hfz14_0
          try clear hfz14_1
          try clear hfz14_2
          try clear hfz15_0
          try clear hfz15_1
          try clear hfz15_2
          try clear hfz7_0
          try clear hfz7_1
          try clear hfz7_2
          try clear hx116_0
          try clear hx116_1
          try clear hx116_2
          try clear p116
          try clear q116
          obtain ⟨kq, x24_7, rfl, HA, HJ7, BK117, HB⟩ := hcut
          cases kq with
          | zero => exact absurd HA.out (by simp [provisoref02_fault.j0])
          | succ kj7 =>
            have H := HA.out
            clear HA
            simp only [provisoref02_fault.j0] at H
            by_cases c16 : x24_7 = true
            · subst c16
              have H1 : (some 6) = some r := by rw [if_pos rfl] at H; exact H
              clear H
              have H := H1
              clear H1
              obtain rfl := Option.some.inj H
              go_wp2
              repeat (go_quiet (fail); try go_wp2)
              go_ret
              exact ⟨by first | rfl | (simp [errW_none, errW_some] <;> rfl) | (simp [*, errW_none, errW_some] <;> rfl), by repeat (first | (with_reducible first | exact HB.out | apply below_alloc | apply pw_below_drewN | apply below_drew1 | refine below_set ?_ GE117.out) | exact HB.out)⟩
            · replace c16 := Bool.eq_false_iff.mpr c16
              subst c16
              have H1 : (provisoref02_fault.l0 kj7 l0 a1 0 ((rd_T59 l0 a1).f0) ((rd_T59 l0 a1).f1) ((rd_T59 l0 a1).f2)) = some r := by rw [if_neg (show ¬ (false = true) by decide)] at H; exact H
              clear H
              have H := H1
              clear H1
              have H' := Aside0.mk H
              clear H
              go_wp2
              repeat (go_quiet (fail); try go_wp2)
              go_loopg [6] kj7 (fun kq v6 w' => ∃ (x6_2 : Int), v6 = .int .i64 x6_2 ∧ Aside0 (provisoref02_fault.l0 kq l0 a1 x6_2 ((rd_T59 l0 a1).f0) ((rd_T59 l0 a1).f1) ((rd_T59 l0 a1).f2) = some r) ∧ Aside0 (kq ≤ kj7) ∧ Aside0 (w'.heap[gb117]? = some (.cells #[.string ((rd_T59 l0 a1).f0), .int .i64 ((rd_T59 l0 a1).f1), (.slice A116_2 ((rd_T59 l0 a1).f2).length c116_2)] 59 (0, 0))) ∧ Aside0 (Below w.heap.size w w'))
              case atStart => exact ⟨(0), (by first | rfl | (simp; done) | (simp [*]; done)), H', ⟨Nat.le_refl _⟩, ⟨by (with_reducible repeat (first | refine blk_drewN ?_ _ | refine blk_drew ?_ | refine blk_alloc ?_ _)); exact BK117.out⟩, ⟨by repeat (first | (with_reducible first | exact HB.out | apply below_alloc | apply pw_below_drewN | apply below_drew1 | refine below_set ?_ GE117.out) | exact HB.out)⟩⟩
              case round =>
                clear H'
                try clear c1
                try clear p1
                try clear q1
                try clear hx1
                try clear p2
                try clear c3
                try clear c3b0
                try clear c4
                try clear c4b0
                try clear c5
                try clear c5b0
                try clear c6
                try clear c11
                try clear p11
                try clear q11
                try clear hx11
                try clear c12
                try clear c16
                try clear hcz10_0
                try clear hcz10_1
                try clear hcz10_2
                try clear hcz14_0
                try clear hcz14_1
                try clear hcz14_2
                try clear hcz15_0
                try clear hcz15_1
                try clear hcz15_2
                try clear hcz7_0
                try clear hcz7_1
                try clear hcz7_2
                try clear hfz10_0
                try clear hfz10_1
                try clear hfz10_2
                try clear hfz14_0
                try clear hfz14_1
                try clear hfz14_2
                try clear hfz15_0
                try clear hfz15_1
                try clear hfz15_2
                try clear hfz7_0
                try clear hfz7_1
                try clear hfz7_2
                try clear hx116_0
                try clear hx116_1
                try clear hx116_2
                try clear p1
                try clear p11
                try clear p116
                try clear p2
                try clear q1
                try clear q11
                try clear q116
                obtain ⟨x6_2, rfl, HA, HK2, BK117, HB⟩ := hrel
                cases gk with
                | zero => exact absurd HA.out (by simp [provisoref02_fault.l0])
                | succ k2 =>
                  have H := HA.out
                  clear HA
                  simp only [provisoref02_fault.l0] at H
                  by_cases c17 : x6_2 < a1
                  · rw [if_pos c17] at H
                    have c17b0 : decide (x6_2 < a1) = true := decide_eq_true c17
                    clear c17
                    by_cases c18 : 0 ≤ x6_2
                    · rw [if_pos c18] at H
                      have c18b0 : decide (0 ≤ x6_2) = true := decide_eq_true c18
                      clear c18
                      by_cases c19 : x6_2 < (l0.length : Int)
                      · rw [if_pos c19] at H
                        have c19b0 : decide (x6_2 < (l0.length : Int)) = true := decide_eq_true c19
                        clear c19
                        by_cases c20 : ((rd_T59 l0 x6_2).f0).toList = ((rd_T59 l0 a1).f0).toList
                        · rw [if_pos c20] at H
                          have c20b0 : (((rd_T59 l0 x6_2).f0).toList == ((rd_T59 l0 a1).f0).toList) = true := beq_iff_eq.mpr c20
                          have c20b1 : (((rd_T59 l0 x6_2).f0).toList != ((rd_T59 l0 a1).f0).toList) = false := bne_eq_false_iff_eq.mpr c20
                          clear c20
                          obtain rfl := Option.some.inj H
                          have p120 : 0 ≤ (x6_2 : Int) := of_decide_eq_true (by first | (with_reducible assumption) | assumption)
                          have q120 : x6_2 < (l0.length : Int) := of_decide_eq_true (by first | (with_reducible assumption) | assumption)
                          obtain ⟨ad120, A120_2, c120_2, e120, hx120_0, hx120_1, hx120_2, hl120_2, hi120_2⟩ := at_T59 HR0.out x6_2 p120 q120
                          obtain rfl : ad116 = ad120 := (by injection e120)
                          replace hx120_0 := (HB.out.cell (World.block_lt_of_cell? w _ hx120_0)).trans hx120_0
                          replace hx120_1 := (HB.out.cell (World.block_lt_of_cell? w _ hx120_1)).trans hx120_1
                          replace hx120_2 := (HB.out.cell (World.block_lt_of_cell? w _ hx120_2)).trans hx120_2
                          have HR120_2 := Aside0.mk hi120_2
                          have HC120_2 := Aside0.mk hl120_2
                          clear hi120_2 hl120_2
                          replace p120 := eq_true p120
                          replace q120 := eq_true q120
                          have hcz21_0 : wr.cell? ⟨gb117, 0, none⟩ = some (.string ((rd_T59 l0 a1).f0)) := (blk_cell BK117.out 0).trans rfl
                          have hcz21_1 : wr.cell? ⟨gb117, 1, none⟩ = some (.int .i64 ((rd_T59 l0 a1).f1)) := (blk_cell BK117.out 1).trans rfl
                          have hcz21_2 : wr.cell? ⟨gb117, 2, none⟩ = some (.slice A116_2 ((rd_T59 l0 a1).f2).length c116_2) := (blk_cell BK117.out 2).trans rfl
                          have hfz21_0 := blk_frozen BK117.out 0
                          have hfz21_1 := blk_frozen BK117.out 1
                          have hfz21_2 := blk_frozen BK117.out 2
                          go_wp2
                          repeat (go_quiet (fail); try go_wp2)
                          go_ret
                          exact ⟨by first | rfl | (simp [errW_none, errW_some] <;> rfl) | (simp [*, errW_none, errW_some] <;> rfl), by repeat (first | (with_reducible first | exact HB.out | apply below_alloc | apply pw_below_drewN | apply below_drew1 | refine below_set ?_ GE117.out) | exact HB.out)⟩
                        · rw [if_neg c20] at H
                          have c20b0 : (((rd_T59 l0 x6_2).f0).toList == ((rd_T59 l0 a1).f0).toList) = false := beq_eq_false_iff_ne.mpr c20
                          have c20b1 : (((rd_T59 l0 x6_2).f0).toList != ((rd_T59 l0 a1).f0).toList) = true := bne_iff_ne.mpr c20
                          have H' := Aside0.mk H
                          clear H
                          have p120 : 0 ≤ (x6_2 : Int) := of_decide_eq_true (by first | (with_reducible assumption) | assumption)
                          have q120 : x6_2 < (l0.length : Int) := of_decide_eq_true (by first | (with_reducible assumption) | assumption)
                          obtain ⟨ad120, A120_2, c120_2, e120, hx120_0, hx120_1, hx120_2, hl120_2, hi120_2⟩ := at_T59 HR0.out x6_2 p120 q120
                          obtain rfl : ad116 = ad120 := (by injection e120)
                          replace hx120_0 := (HB.out.cell (World.block_lt_of_cell? w _ hx120_0)).trans hx120_0
                          replace hx120_1 := (HB.out.cell (World.block_lt_of_cell? w _ hx120_1)).trans hx120_1
                          replace hx120_2 := (HB.out.cell (World.block_lt_of_cell? w _ hx120_2)).trans hx120_2
                          have HR120_2 := Aside0.mk hi120_2
                          have HC120_2 := Aside0.mk hl120_2
                          clear hi120_2 hl120_2
                          replace p120 := eq_true p120
                          replace q120 := eq_true q120
                          have hcz22_0 : wr.cell? ⟨gb117, 0, none⟩ = some (.string ((rd_T59 l0 a1).f0)) := (blk_cell BK117.out 0).trans rfl
                          have hcz22_1 : wr.cell? ⟨gb117, 1, none⟩ = some (.int .i64 ((rd_T59 l0 a1).f1)) := (blk_cell BK117.out 1).trans rfl
                          have hcz22_2 : wr.cell? ⟨gb117, 2, none⟩ = some (.slice A116_2 ((rd_T59 l0 a1).f2).length c116_2) := (blk_cell BK117.out 2).trans rfl
                          have hfz22_0 := blk_frozen BK117.out 0
                          have hfz22_1 := blk_frozen BK117.out 1
                          have hfz22_2 := blk_frozen BK117.out 2
                          go_wp2
                          repeat (go_quiet (fail); try go_wp2)
                          go_roundg k2
                          case measure => have := HJ7.out; have := HK2.out; omega
                          case rel => exact ⟨(wrap64 (x6_2 + 1)), (by first | rfl | (simp; done) | (simp [*]; done)), H', ⟨by have := HJ7.out; have := HK2.out; omega⟩, ⟨by (with_reducible repeat (first | refine blk_drewN ?_ _ | refine blk_drew ?_ | refine blk_alloc ?_ _)); exact BK117.out⟩, ⟨by repeat (first | (with_reducible first | exact HB.out | apply below_alloc | apply pw_below_drewN | apply below_drew1 | refine below_set ?_ GE117.out) | exact HB.out)⟩⟩
                      · rw [if_neg c19] at H
                        exact absurd H (by simp)
                    · rw [if_neg c18] at H
                      exact absurd H (by simp)
                  · rw [if_neg c17] at H
                    have c17b0 : decide (x6_2 < a1) = false := decide_eq_false c17
                    clear c17
                    have HC23 := Aside0.mk H
                    clear H
                    go_upto_region 11 with (fail)
                    repeat (go_quiet (fail); go_upto_region 11 with (fail))
                    go_cut [46] (fun v46 wc => ∃ (kq : Nat) (x46_22 : Bool), v46 = .bool x46_22 ∧ Aside0 (provisoref02_fault.j2 kq l0 x46_22 ((rd_T59 l0 a1).f0) ((rd_T59 l0 a1).f1) ((rd_T59 l0 a1).f2) = some r) ∧ Aside0 (kq ≤ k2) ∧ Aside0 (wc.heap[gb117]? = some (.cells #[.string ((rd_T59 l0 a1).f0), .int .i64 ((rd_T59 l0 a1).f1), (.slice A116_2 ((rd_T59 l0 a1).f2).length c116_2)] 59 (0, 0))) ∧ Aside0 (Below w.heap.size w wc))
                    case first =>
                      have H := HC23.out
                      clear HC23
                      by_cases c24 : ((rd_T59 l0 a1).f1) < (-1)
                      · rw [if_pos c24] at H
                        have c24b0 : decide (((rd_T59 l0 a1).f1) < (-1)) = true := decide_eq_true c24
                        clear c24
                        (first | rw [c24b0] | (simp only [i64_w, i32_w]; rw [c24b0]) | skip)
                        have H' := Aside0.mk H
                        clear H
                        have hcz25_0 : wr.cell? ⟨gb117, 0, none⟩ = some (.string ((rd_T59 l0 a1).f0)) := (blk_cell BK117.out 0).trans rfl
                        have hcz25_1 : wr.cell? ⟨gb117, 1, none⟩ = some (.int .i64 ((rd_T59 l0 a1).f1)) := (blk_cell BK117.out 1).trans rfl
                        have hcz25_2 : wr.cell? ⟨gb117, 2, none⟩ = some (.slice A116_2 ((rd_T59 l0 a1).f2).length c116_2) := (blk_cell BK117.out 2).trans rfl
                        have hfz25_0 := blk_frozen BK117.out 0
                        have hfz25_1 := blk_frozen BK117.out 1
                        have hfz25_2 := blk_frozen BK117.out 2
                        go_wp2
                        repeat (go_quiet (fail); try go_wp2)
                        go_meet
                        case rel => exact ⟨_, (true), (by first | rfl | (simp; done) | (simp [*]; done)), H', ⟨by have := HJ7.out; have := HK2.out; first | omega | exact Nat.le_refl _⟩, ⟨by (with_reducible repeat (first | refine blk_drewN ?_ _ | refine blk_drew ?_ | refine blk_alloc ?_ _)); exact BK117.out⟩, ⟨by repeat (first | (with_reducible first | exact HB.out | apply below_alloc | apply pw_below_drewN | apply below_drew1 | refine below_set ?_ GE117.out) | exact HB.out)⟩⟩
                      · rw [if_neg c24] at H
                        have c24b0 : decide (((rd_T59 l0 a1).f1) < (-1)) = false := decide_eq_false c24
                        clear c24
                        (first | rw [c24b0] | (simp only [i64_w, i32_w]; rw [c24b0]) | skip)
                        have H' := Aside0.mk H
                        clear H
                        have hcz26_0 : wr.cell? ⟨gb117, 0, none⟩ = some (.string ((rd_T59 l0 a1).f0)) := (blk_cell BK117.out 0).trans rfl
                        have hcz26_1 : wr.cell? ⟨gb117, 1, none⟩ = some (.int .i64 ((rd_T59 l0 a1).f1)) := (blk_cell BK117.out 1).trans rfl
                        have hcz26_2 : wr.cell? ⟨gb117, 2, none⟩ = some (.slice A116_2 ((rd_T59 l0 a1).f2).length c116_2) := (blk_cell BK117.out 2).trans rfl
                        have hfz26_0 := blk_frozen BK117.out 0
                        have hfz26_1 := blk_frozen BK117.out 1
                        have hfz26_2 := blk_frozen BK117.out 2
                        go_wp2
                        repeat (go_quiet (fail); try go_wp2)
                        go_meet
                        case rel => exact ⟨_, (decide (((rd_T59 l0 a1).f1) ≥ a1)), (by first | rfl | (simp; done) | (simp [*]; done)), H', ⟨by have := HJ7.out; have := HK2.out; first | omega | exact Nat.le_refl _⟩, ⟨by (with_reducible repeat (first | refine blk_drewN ?_ _ | refine blk_drew ?_ | refine blk_alloc ?_ _)); exact BK117.out⟩, ⟨by repeat (first | (with_reducible first | exact HB.out | apply below_alloc | apply pw_below_drewN | apply below_drew1 | refine below_set ?_ GE117.out) | exact HB.out)⟩⟩
                    case rest =>
                      clear HC23
                      try clear c1
                      try clear p1
                      try clear q1
                      try clear hx1
                      try clear c2
                      try clear p2
                      try clear c3
                      try clear c3b0
                      try clear c4
                      try clear c4b0
                      try clear c5
                      try clear c5b0
                      try clear c6
                      try clear p6
                      try clear c11
                      try clear p11
                      try clear q11
                      try clear hx11
                      try clear c12
                      try clear p12
                      try clear q12
                      try clear hx12
                      try clear c16
                      try clear c17
                      try clear c17b0
                      try clear c18
                      try clear c18b0
                      try clear c19
                      try clear c19b0
                      try clear c20
                      try clear c20b0
                      try clear c20b1
                      try clear c24
                      try clear c24b0
                      try clear hcz10_0
                      try clear hcz10_1
                      try clear hcz10_2
                      try clear hcz14_0
                      try clear hcz14_1
                      try clear hcz14_2
                      try clear hcz15_0
                      try clear hcz15_1
                      try clear hcz15_2
                      try clear hcz21_0
                      try clear hcz21_1
                      try clear hcz21_2
                      try clear hcz22_0
                      try clear hcz22_1
                      try clear hcz22_2
                      try clear hcz25_0
                      try clear hcz25_1
                      try clear hcz25_2
                      try clear hcz26_0
                      try clear hcz26_1
                      try clear hcz26_2
                      try clear hcz7_0
                      try clear hcz7_1
                      try clear hcz7_2
                      try clear hfz10_0
                      try clear hfz10_1
                      try clear hfz10_2
                      try clear hfz14_0
                      try clear hfz14_1
                      try clear hfz14_2
                      try clear hfz15_0
                      try clear hfz15_1
                      try clear hfz15_2
                      try clear hfz21_0
                      try clear hfz21_1
                      try clear hfz21_2
                      try clear hfz22_0
                      try clear hfz22_1
                      try clear hfz22_2
                      try clear hfz25_0
                      try clear hfz25_1
                      try clear hfz25_2
                      try clear hfz26_0
                      try clear hfz26_1
                      try clear hfz26_2
                      try clear hfz7_0
                      try clear hfz7_1
                      try clear hfz7_2
                      try clear hx116_0
                      try clear hx116_1
                      try clear hx116_2
                      try clear hx120_0
                      try clear hx120_1
                      try clear hx120_2
                      try clear p1
                      try clear p11
                      try clear p116
                      try clear p120
                      try clear p2
                      try clear q1
                      try clear q11
                      try clear q116
                      try clear q120
                      obtain ⟨kq, x46_22, rfl, HA, HJ22, BK117, HB⟩ := hcut
                      cases kq with
                      | zero => exact absurd HA.out (by simp [provisoref02_fault.j2])
                      | succ kj22 =>
                        have H := HA.out
                        clear HA
                        simp only [provisoref02_fault.j2] at H
                        by_cases c27 : x46_22 = true
                        · subst c27
                          have H1 : (some 21) = some r := by rw [if_pos rfl] at H; exact H
                          clear H
                          have H := H1
                          clear H1
                          obtain rfl := Option.some.inj H
                          go_wp2
                          repeat (go_quiet (fail); try go_wp2)
                          go_ret
                          exact ⟨by first | rfl | (simp [errW_none, errW_some] <;> rfl) | (simp [*, errW_none, errW_some] <;> rfl), by repeat (first | (with_reducible first | exact HB.out | apply below_alloc | apply pw_below_drewN | apply below_drew1 | refine below_set ?_ GE117.out) | exact HB.out)⟩
                        · replace c27 := Bool.eq_false_iff.mpr c27
                          subst c27
                          have H1 : ((provisoref02_Fields.f kj22 l0 ((rd_T59 l0 a1).f1)).bind fun t121 => (provisoref02_fault.l1 kj22 l0 t121 0 ((rd_T59 l0 a1).f0) ((rd_T59 l0 a1).f1) ((rd_T59 l0 a1).f2))) = some r := by rw [if_neg (show ¬ (false = true) by decide)] at H; exact H
                          clear H
                          have H := H1
                          clear H1
                          replace H := Option.bind_eq_some_iff.mp H
                          obtain ⟨t121, A280, H⟩ := H
                          replace H : (provisoref02_fault.l1 kj22 l0 t121 0 ((rd_T59 l0 a1).f0) ((rd_T59 l0 a1).f1) ((rd_T59 l0 a1).f2)) = some r := H
                          have A28 := Aside0.mk A280
                          clear A280
                          have H' := Aside0.mk H
                          clear H
                          have hcz29_0 : wc.cell? ⟨gb117, 0, none⟩ = some (.string ((rd_T59 l0 a1).f0)) := (blk_cell BK117.out 0).trans rfl
                          have hcz29_1 : wc.cell? ⟨gb117, 1, none⟩ = some (.int .i64 ((rd_T59 l0 a1).f1)) := (blk_cell BK117.out 1).trans rfl
                          have hcz29_2 : wc.cell? ⟨gb117, 2, none⟩ = some (.slice A116_2 ((rd_T59 l0 a1).f2).length c116_2) := (blk_cell BK117.out 2).trans rfl
                          have hfz29_0 := blk_frozen BK117.out 0
                          have hfz29_1 := blk_frozen BK117.out 1
                          have hfz29_2 := blk_frozen BK117.out 2
                          go_wp2_with (first | (go_at_call 77; (with_reducible refine (provisoref02_Fields.calls kj22 _ _ l0 ((rd_T59 l0 a1).f1) t121 _ ?side1 ?side2 A28.out).mono ?_); (case side1 => repeat (first | exact (Kd.C_below HR0.out HB.out) | (with_reducible refine Kd.C_alloc ?_ _) | (with_reducible refine Kd.C_drewN ?_ _) | (with_reducible refine Kd.C_drew ?_))); (case side2 => exact HC0.out); rintro e w30 ⟨v122, rfl, ho0, hb⟩; have n0_ := Aside0.mk (Kd.R_lower ho0 (below_size (by repeat (first | (with_reducible first | exact HB.out | apply below_alloc | apply pw_below_drewN | apply below_drew1 | refine below_set ?_ GE117.out) | exact HB.out)))); have n1_ := Aside0.mk (blk_below (g := gb117) (o := .cells #[.string ((rd_T59 l0 a1).f0), .int .i64 ((rd_T59 l0 a1).f1), .slice A116_2 ((rd_T59 l0 a1).f2).length c116_2] 59 (0, 0)) (by (with_reducible repeat (first | refine blk_drewN ?_ _ | refine blk_drew ?_ | refine blk_alloc ?_ _)); exact BK117.out) hb); have n2_ := Aside0.mk (below_step (by repeat (first | (with_reducible first | exact HB.out | apply below_alloc | apply pw_below_drewN | apply below_drew1 | refine below_set ?_ GE117.out) | exact HB.out)) hb); clear BK117; clear HB; have HO123 := n0_; have BK117 := n1_; have HB := n2_; clear n0_ n1_ n2_; (try clear hb); (try clear hb2); (try clear hk); (try clear hi); (try clear ho0)))
                          repeat (go_quiet (first | (go_at_call 77; (with_reducible refine (provisoref02_Fields.calls kj22 _ _ l0 ((rd_T59 l0 a1).f1) t121 _ ?side1 ?side2 A28.out).mono ?_); (case side1 => repeat (first | exact (Kd.C_below HR0.out HB.out) | (with_reducible refine Kd.C_alloc ?_ _) | (with_reducible refine Kd.C_drewN ?_ _) | (with_reducible refine Kd.C_drew ?_))); (case side2 => exact HC0.out); rintro e w30 ⟨v122, rfl, ho0, hb⟩; have n0_ := Aside0.mk (Kd.R_lower ho0 (below_size (by repeat (first | (with_reducible first | exact HB.out | apply below_alloc | apply pw_below_drewN | apply below_drew1 | refine below_set ?_ GE117.out) | exact HB.out)))); have n1_ := Aside0.mk (blk_below (g := gb117) (o := .cells #[.string ((rd_T59 l0 a1).f0), .int .i64 ((rd_T59 l0 a1).f1), .slice A116_2 ((rd_T59 l0 a1).f2).length c116_2] 59 (0, 0)) (by (with_reducible repeat (first | refine blk_drewN ?_ _ | refine blk_drew ?_ | refine blk_alloc ?_ _)); exact BK117.out) hb); have n2_ := Aside0.mk (below_step (by repeat (first | (with_reducible first | exact HB.out | apply below_alloc | apply pw_below_drewN | apply below_drew1 | refine below_set ?_ GE117.out) | exact HB.out)) hb); clear BK117; clear HB; have HO123 := n0_; have BK117 := n1_; have HB := n2_; clear n0_ n1_ n2_; (try clear hb); (try clear hb2); (try clear hk); (try clear hi); (try clear ho0))); try go_wp2_with (first | (go_at_call 77; (with_reducible refine (provisoref02_Fields.calls kj22 _ _ l0 ((rd_T59 l0 a1).f1) t121 _ ?side1 ?side2 A28.out).mono ?_); (case side1 => repeat (first | exact (Kd.C_below HR0.out HB.out) | (with_reducible refine Kd.C_alloc ?_ _) | (with_reducible refine Kd.C_drewN ?_ _) | (with_reducible refine Kd.C_drew ?_))); (case side2 => exact HC0.out); rintro e w30 ⟨v122, rfl, ho0, hb⟩; have n0_ := Aside0.mk (Kd.R_lower ho0 (below_size (by repeat (first | (with_reducible first | exact HB.out | apply below_alloc | apply pw_below_drewN | apply below_drew1 | refine below_set ?_ GE117.out) | exact HB.out)))); have n1_ := Aside0.mk (blk_below (g := gb117) (o := .cells #[.string ((rd_T59 l0 a1).f0), .int .i64 ((rd_T59 l0 a1).f1), .slice A116_2 ((rd_T59 l0 a1).f2).length c116_2] 59 (0, 0)) (by (with_reducible repeat (first | refine blk_drewN ?_ _ | refine blk_drew ?_ | refine blk_alloc ?_ _)); exact BK117.out) hb); have n2_ := Aside0.mk (below_step (by repeat (first | (with_reducible first | exact HB.out | apply below_alloc | apply pw_below_drewN | apply below_drew1 | refine below_set ?_ GE117.out) | exact HB.out)) hb); clear BK117; clear HB; have HO123 := n0_; have BK117 := n1_; have HB := n2_; clear n0_ n1_ n2_; (try clear hb); (try clear hb2); (try clear hk); (try clear hi); (try clear ho0))))
                          go_loopg [8] kj22 (fun kq v8 w' => ∃ (x8_4 : Int), v8 = .int .i64 x8_4 ∧ Aside0 (provisoref02_fault.l1 kq l0 t121 x8_4 ((rd_T59 l0 a1).f0) ((rd_T59 l0 a1).f1) ((rd_T59 l0 a1).f2) = some r) ∧ Aside0 (kq ≤ kj22) ∧ Aside0 (Kd.R k62 62 w' w.heap.size (fun _ => True) v122 t121) ∧ Aside0 (w'.heap[gb117]? = some (.cells #[.string ((rd_T59 l0 a1).f0), .int .i64 ((rd_T59 l0 a1).f1), (.slice A116_2 ((rd_T59 l0 a1).f2).length c116_2)] 59 (0, 0))) ∧ Aside0 (Below w.heap.size w w'))
                          case atStart => exact ⟨(0), (by first | rfl | (simp; done) | (simp [*]; done)), H', ⟨Nat.le_refl _⟩, ⟨by (with_reducible repeat (first | apply Kd.R_alloc | apply Kd.R_drewN | apply Kd.R_drew)); exact HO123.out⟩, ⟨by (with_reducible repeat (first | refine blk_drewN ?_ _ | refine blk_drew ?_ | refine blk_alloc ?_ _)); exact BK117.out⟩, ⟨by repeat (first | (with_reducible first | exact HB.out | apply below_alloc | apply pw_below_drewN | apply below_drew1 | refine below_set ?_ GE117.out) | exact HB.out)⟩⟩
                          case round =>
                            clear H'
                            try clear c1
                            try clear p1
                            try clear q1
                            try clear hx1
                            try clear c2
                            try clear p2
                            try clear c3
                            try clear c3b0
                            try clear c4
                            try clear c4b0
                            try clear c5
                            try clear c5b0
                            try clear c6
                            try clear p6
                            try clear c11
                            try clear p11
                            try clear q11
                            try clear hx11
                            try clear c12
                            try clear p12
                            try clear q12
                            try clear hx12
                            try clear c16
                            try clear c17
                            try clear c17b0
                            try clear c18
                            try clear c18b0
                            try clear c19
                            try clear c19b0
                            try clear c20
                            try clear c20b0
                            try clear c20b1
                            try clear c24
                            try clear c24b0
                            try clear c27
                            try clear hcz10_0
                            try clear hcz10_1
                            try clear hcz10_2
                            try clear hcz14_0
                            try clear hcz14_1
                            try clear hcz14_2
                            try clear hcz15_0
                            try clear hcz15_1
                            try clear hcz15_2
                            try clear hcz21_0
                            try clear hcz21_1
                            try clear hcz21_2
                            try clear hcz22_0
                            try clear hcz22_1
                            try clear hcz22_2
                            try clear hcz25_0
                            try clear hcz25_1
                            try clear hcz25_2
                            try clear hcz26_0
                            try clear hcz26_1
                            try clear hcz26_2
                            try clear hcz29_0
                            try clear hcz29_1
                            try clear hcz29_2
                            try clear hcz7_0
                            try clear hcz7_1
                            try clear hcz7_2
                            try clear hfz10_0
                            try clear hfz10_1
                            try clear hfz10_2
                            try clear hfz14_0
                            try clear hfz14_1
                            try clear hfz14_2
                            try clear hfz15_0
                            try clear hfz15_1
                            try clear hfz15_2
                            try clear hfz21_0
                            try clear hfz21_1
                            try clear hfz21_2
                            try clear hfz22_0
                            try clear hfz22_1
                            try clear hfz22_2
                            try clear hfz25_0
                            try clear hfz25_1
                            try clear hfz25_2
                            try clear hfz26_0
                            try clear hfz26_1
                            try clear hfz26_2
                            try clear hfz29_0
                            try clear hfz29_1
                            try clear hfz29_2
                            try clear hfz7_0
                            try clear hfz7_1
                            try clear hfz7_2
                            try clear hx116_0
                            try clear hx116_1
                            try clear hx116_2
                            try clear hx120_0
                            try clear hx120_1
                            try clear hx120_2
                            try clear p1
                            try clear p11
                            try clear p116
                            try clear p12
                            try clear p120
                            try clear p2
                            try clear p6
                            try clear q1
                            try clear q11
                            try clear q116
                            try clear q12
                            try clear q120
                            obtain ⟨x8_4, rfl, HA, HK4, HO_7, BK117, HB⟩ := hrel
                            cases gk with
                            | zero => exact absurd HA.out (by simp [provisoref02_fault.l1])
                            | succ k4 =>
                              have H := HA.out
                              clear HA
                              simp only [provisoref02_fault.l1] at H
                              by_cases c31 : x8_4 < (((rd_T59 l0 a1).f2).length : Int)
                              · rw [if_pos c31] at H
                                have c31b0 : decide (x8_4 < (((rd_T59 l0 a1).f2).length : Int)) = true := decide_eq_true c31
                                clear c31
                                by_cases c32 : 0 ≤ x8_4
                                · rw [if_pos c32] at H
                                  have c32b0 : decide (0 ≤ x8_4) = true := decide_eq_true c32
                                  clear c32
                                  replace H := Option.bind_eq_some_iff.mp H
                                  obtain ⟨t126, A330, H⟩ := H
                                  replace H : (if t126 = true then ((provisoref02_has.f k4 t121 ((rd_T62 ((rd_T59 l0 a1).f2) x8_4).f0)).bind fun t127 => (if t127 = true then (some 20) else (if x8_4 ≤ (((rd_T59 l0 a1).f2).length : Int) then ((provisoref02_has.f k4 (((rd_T59 l0 a1).f2).take (x8_4 : Int).toNat) ((rd_T62 ((rd_T59 l0 a1).f2) x8_4).f0)).bind fun t132 => (if t132 = true then (some 20) else ((provisoref02_Stored.f l0 ((rd_T62 ((rd_T59 l0 a1).f2) x8_4).f1)).bind fun t133 => (if t133 = true then (provisoref02_fault.l1 k4 l0 t121 (wrap64 (x8_4 + 1)) ((rd_T59 l0 a1).f0) ((rd_T59 l0 a1).f1) ((rd_T59 l0 a1).f2)) else (some 22))))) else (none)))) else (some 6)) = some r := H
                                  have A33 := Aside0.mk A330
                                  clear A330
                                  by_cases c34 : t126 = true
                                  · subst c34
                                    have H1 : ((provisoref02_has.f k4 t121 ((rd_T62 ((rd_T59 l0 a1).f2) x8_4).f0)).bind fun t127 => (if t127 = true then (some 20) else (if x8_4 ≤ (((rd_T59 l0 a1).f2).length : Int) then ((provisoref02_has.f k4 (((rd_T59 l0 a1).f2).take (x8_4 : Int).toNat) ((rd_T62 ((rd_T59 l0 a1).f2) x8_4).f0)).bind fun t132 => (if t132 = true then (some 20) else ((provisoref02_Stored.f l0 ((rd_T62 ((rd_T59 l0 a1).f2) x8_4).f1)).bind fun t133 => (if t133 = true then (provisoref02_fault.l1 k4 l0 t121 (wrap64 (x8_4 + 1)) ((rd_T59 l0 a1).f0) ((rd_T59 l0 a1).f1) ((rd_T59 l0 a1).f2)) else (some 22))))) else (none)))) = some r := by rw [if_pos rfl] at H; exact H
                                    clear H
                                    have H := H1
                                    clear H1
                                    replace H := Option.bind_eq_some_iff.mp H
                                    obtain ⟨t127, A350, H⟩ := H
                                    replace H : (if t127 = true then (some 20) else (if x8_4 ≤ (((rd_T59 l0 a1).f2).length : Int) then ((provisoref02_has.f k4 (((rd_T59 l0 a1).f2).take (x8_4 : Int).toNat) ((rd_T62 ((rd_T59 l0 a1).f2) x8_4).f0)).bind fun t132 => (if t132 = true then (some 20) else ((provisoref02_Stored.f l0 ((rd_T62 ((rd_T59 l0 a1).f2) x8_4).f1)).bind fun t133 => (if t133 = true then (provisoref02_fault.l1 k4 l0 t121 (wrap64 (x8_4 + 1)) ((rd_T59 l0 a1).f0) ((rd_T59 l0 a1).f1) ((rd_T59 l0 a1).f2)) else (some 22))))) else (none))) = some r := H
                                    have A35 := Aside0.mk A350
                                    clear A350
                                    by_cases c36 : t127 = true
                                    · subst c36
                                      have H1 : (some 20) = some r := by rw [if_pos rfl] at H; exact H
                                      clear H
                                      have H := H1
                                      clear H1
                                      obtain rfl := Option.some.inj H
                                      have hcz37_0 : wr.cell? ⟨gb117, 0, none⟩ = some (.string ((rd_T59 l0 a1).f0)) := (blk_cell BK117.out 0).trans rfl
                                      have hcz37_1 : wr.cell? ⟨gb117, 1, none⟩ = some (.int .i64 ((rd_T59 l0 a1).f1)) := (blk_cell BK117.out 1).trans rfl
                                      have hcz37_2 : wr.cell? ⟨gb117, 2, none⟩ = some (.slice A116_2 ((rd_T59 l0 a1).f2).length c116_2) := (blk_cell BK117.out 2).trans rfl
                                      have hfz37_0 := blk_frozen BK117.out 0
                                      have hfz37_1 := blk_frozen BK117.out 1
                                      have hfz37_2 := blk_frozen BK117.out 2
                                      have p124 : 0 ≤ (x8_4 : Int) := of_decide_eq_true (by first | (with_reducible assumption) | assumption)
                                      have q124 : x8_4 < (((rd_T59 l0 a1).f2).length : Int) := of_decide_eq_true (by first | (with_reducible assumption) | assumption)
                                      obtain ⟨ad124, e124, hx124_0, hx124_1⟩ := at_T62 HR116_2.out x8_4 p124 q124
                                      cases e124
                                      replace hx124_0 := (HB.out.cell (World.block_lt_of_cell? w _ hx124_0)).trans hx124_0
                                      replace hx124_1 := (HB.out.cell (World.block_lt_of_cell? w _ hx124_1)).trans hx124_1
                                      replace p124 := eq_true p124
                                      replace q124 := eq_true q124
                                      go_wp2_with (first | ((with_reducible refine gate_dst (N := 9) rfl ?_); refine box_event ?hg (N := 9) ?hd (cs := #[.string (⟨#[]⟩ : ByteArray), .int .u8 0]) (t := 62) ?hr ?_; (case hd => rfl); (case hg => rfl); (case hr => first | (go_simp; done) | (go_simp; rfl)); intro gb125 hg w38 hbox hb; have n0_ := Aside0.mk (Kd.R_below (Kd.R_elderB (by (with_reducible repeat (first | apply Kd.R_alloc | apply Kd.R_drewN | apply Kd.R_drew)); exact HO_7.out) gb125 (Nat.le_of_eq hg.symm)) hb); have n1_ := Aside0.mk (blk_below (g := gb117) (o := .cells #[.string ((rd_T59 l0 a1).f0), .int .i64 ((rd_T59 l0 a1).f1), .slice (some ad124) ((rd_T59 l0 a1).f2).length c116_2] 59 (0, 0)) (by (with_reducible repeat (first | refine blk_drewN ?_ _ | refine blk_drew ?_ | refine blk_alloc ?_ _)); exact BK117.out) hb); have n2_ := Aside0.mk (below_step (by repeat (first | (with_reducible first | exact HB.out | apply below_alloc | apply pw_below_drewN | apply below_drew1 | refine below_set ?_ GE117.out) | exact HB.out)) hb); have n3_ := Aside0.mk (hbox); have n4_ := Aside0.mk ((by rw [hg]; exact (below_size (by repeat (first | (with_reducible first | exact HB.out | apply below_alloc | apply pw_below_drewN | apply below_drew1 | refine below_set ?_ GE117.out) | exact HB.out))) : w.heap.size ≤ gb125)); have n5_ := Aside0.mk ((by rw [hg]; exact (below_size (by repeat (first | (with_reducible first | exact HB.out | apply below_alloc | apply pw_below_drewN | apply below_drew1 | refine below_set ?_ GE117.out) | exact HB.out))) : w.heap.size ≤ gb125)); have n6_ := Aside0.mk ((by rw [hg]; exact Nat.ne_of_lt (blk_lt (g := gb117) (o := .cells #[.string ((rd_T59 l0 a1).f0), .int .i64 ((rd_T59 l0 a1).f1), .slice (some ad124) ((rd_T59 l0 a1).f2).length c116_2] 59 (0, 0)) (by (with_reducible repeat (first | refine blk_drewN ?_ _ | refine blk_drew ?_ | refine blk_alloc ?_ _)); exact BK117.out)) : gb117 ≠ gb125)); have n7_ := Aside0.mk ((by rw [hg]; exact Nat.ne_of_gt (blk_lt (g := gb117) (o := .cells #[.string ((rd_T59 l0 a1).f0), .int .i64 ((rd_T59 l0 a1).f1), .slice (some ad124) ((rd_T59 l0 a1).f2).length c116_2] 59 (0, 0)) (by (with_reducible repeat (first | refine blk_drewN ?_ _ | refine blk_drew ?_ | refine blk_alloc ?_ _)); exact BK117.out)) : gb125 ≠ gb117)); clear HO_7; clear BK117; clear HB; have HO_7 := n0_; have BK117 := n1_; have HB := n2_; have BK125 := n3_; have GW125 := n4_; have GE125 := n5_; have NB117_125 := n6_; have NB125_117 := n7_; clear n0_ n1_ n2_ n3_ n4_ n5_ n6_ n7_; clear hb hbox hg; have hnb39 := NB125_117.out; have hnc39 := NB117_125.out; have hcz40_0 : w38.cell? ⟨gb125, 0, none⟩ = some (.string (⟨#[]⟩ : ByteArray)) := (blk_cell BK125.out 0).trans rfl; have hcz40_1 : w38.cell? ⟨gb125, 1, none⟩ = some (.int .u8 0) := (blk_cell BK125.out 1).trans rfl; have hfz40_0 := blk_frozen BK125.out 0; have hfz40_1 := blk_frozen BK125.out 1) | (go_at_call 75; (with_reducible refine (provisoref02_IsName.calls k4 ((rd_T62 ((rd_T59 l0 a1).f2) x8_4).f0) true _ A33.out).mono ?_); rintro e w' ⟨rfl, ⟨nd, rfl⟩⟩; (try first | exact ⟨rfl, _, World.drewN_drewN _ _ _⟩ | exact ⟨rfl, _, Eq.trans (World.drewN_drewN _ _ _) (congrArg (World.drewN _) (Nat.add_assoc _ _ _))⟩); obtain ⟨Ao41, co41, eo41⟩ := Kd.R_slice HO_7.out; subst eo41) | (go_at_call 78; (with_reducible refine (provisoref02_has.calls k4 _ _ t121 ((rd_T62 ((rd_T59 l0 a1).f2) x8_4).f0) true _ ?side1 ?side2 A35.out).mono ?_); (case side1 => refine (Kd.R_reads' (e := 62) (base := w.heap.size) (ok := fun k_ => (True ∧ k_ ≠ gb125)) (n := t121.length) (c := co41) ?_).2.2; exact (by (with_reducible repeat (first | apply Kd.R_alloc | apply Kd.R_drewN | apply Kd.R_drew)); exact (Kd.R_mono (Kd.R_far (p := ⟨gb125, 1, none⟩) (Kd.R_far (p := ⟨gb125, 0, none⟩) (Kd.R_mono HO_7.out (fun k_ hk => (⟨hk, hk.2⟩ : _ ∧ k_ ≠ gb125))) (fun _ hk => hk.2) (.string ((rd_T62 ((rd_T59 l0 a1).f2) x8_4).f0))) (fun _ hk => hk.2) (.int .u8 ((rd_T62 ((rd_T59 l0 a1).f2) x8_4).f1))) (fun _ h_ => h_.1)))); (case side2 => exact (Kd.R_reads' HO_7.out).2.1); rintro e w' ⟨rfl, ⟨nd, rfl⟩⟩; (try first | exact ⟨rfl, _, World.drewN_drewN _ _ _⟩ | exact ⟨rfl, _, Eq.trans (World.drewN_drewN _ _ _) (congrArg (World.drewN _) (Nat.add_assoc _ _ _))⟩)))
                                      repeat (go_quiet (first | ((with_reducible refine gate_dst (N := 9) rfl ?_); refine box_event ?hg (N := 9) ?hd (cs := #[.string (⟨#[]⟩ : ByteArray), .int .u8 0]) (t := 62) ?hr ?_; (case hd => rfl); (case hg => rfl); (case hr => first | (go_simp; done) | (go_simp; rfl)); intro gb125 hg w38 hbox hb; have n0_ := Aside0.mk (Kd.R_below (Kd.R_elderB (by (with_reducible repeat (first | apply Kd.R_alloc | apply Kd.R_drewN | apply Kd.R_drew)); exact HO_7.out) gb125 (Nat.le_of_eq hg.symm)) hb); have n1_ := Aside0.mk (blk_below (g := gb117) (o := .cells #[.string ((rd_T59 l0 a1).f0), .int .i64 ((rd_T59 l0 a1).f1), .slice (some ad124) ((rd_T59 l0 a1).f2).length c116_2] 59 (0, 0)) (by (with_reducible repeat (first | refine blk_drewN ?_ _ | refine blk_drew ?_ | refine blk_alloc ?_ _)); exact BK117.out) hb); have n2_ := Aside0.mk (below_step (by repeat (first | (with_reducible first | exact HB.out | apply below_alloc | apply pw_below_drewN | apply below_drew1 | refine below_set ?_ GE117.out) | exact HB.out)) hb); have n3_ := Aside0.mk (hbox); have n4_ := Aside0.mk ((by rw [hg]; exact (below_size (by repeat (first | (with_reducible first | exact HB.out | apply below_alloc | apply pw_below_drewN | apply below_drew1 | refine below_set ?_ GE117.out) | exact HB.out))) : w.heap.size ≤ gb125)); have n5_ := Aside0.mk ((by rw [hg]; exact (below_size (by repeat (first | (with_reducible first | exact HB.out | apply below_alloc | apply pw_below_drewN | apply below_drew1 | refine below_set ?_ GE117.out) | exact HB.out))) : w.heap.size ≤ gb125)); have n6_ := Aside0.mk ((by rw [hg]; exact Nat.ne_of_lt (blk_lt (g := gb117) (o := .cells #[.string ((rd_T59 l0 a1).f0), .int .i64 ((rd_T59 l0 a1).f1), .slice (some ad124) ((rd_T59 l0 a1).f2).length c116_2] 59 (0, 0)) (by (with_reducible repeat (first | refine blk_drewN ?_ _ | refine blk_drew ?_ | refine blk_alloc ?_ _)); exact BK117.out)) : gb117 ≠ gb125)); have n7_ := Aside0.mk ((by rw [hg]; exact Nat.ne_of_gt (blk_lt (g := gb117) (o := .cells #[.string ((rd_T59 l0 a1).f0), .int .i64 ((rd_T59 l0 a1).f1), .slice (some ad124) ((rd_T59 l0 a1).f2).length c116_2] 59 (0, 0)) (by (with_reducible repeat (first | refine blk_drewN ?_ _ | refine blk_drew ?_ | refine blk_alloc ?_ _)); exact BK117.out)) : gb125 ≠ gb117)); clear HO_7; clear BK117; clear HB; have HO_7 := n0_; have BK117 := n1_; have HB := n2_; have BK125 := n3_; have GW125 := n4_; have GE125 := n5_; have NB117_125 := n6_; have NB125_117 := n7_; clear n0_ n1_ n2_ n3_ n4_ n5_ n6_ n7_; clear hb hbox hg; have hnb39 := NB125_117.out; have hnc39 := NB117_125.out; have hcz40_0 : w38.cell? ⟨gb125, 0, none⟩ = some (.string (⟨#[]⟩ : ByteArray)) := (blk_cell BK125.out 0).trans rfl; have hcz40_1 : w38.cell? ⟨gb125, 1, none⟩ = some (.int .u8 0) := (blk_cell BK125.out 1).trans rfl; have hfz40_0 := blk_frozen BK125.out 0; have hfz40_1 := blk_frozen BK125.out 1) | (go_at_call 75; (with_reducible refine (provisoref02_IsName.calls k4 ((rd_T62 ((rd_T59 l0 a1).f2) x8_4).f0) true _ A33.out).mono ?_); rintro e w' ⟨rfl, ⟨nd, rfl⟩⟩; (try first | exact ⟨rfl, _, World.drewN_drewN _ _ _⟩ | exact ⟨rfl, _, Eq.trans (World.drewN_drewN _ _ _) (congrArg (World.drewN _) (Nat.add_assoc _ _ _))⟩); obtain ⟨Ao41, co41, eo41⟩ := Kd.R_slice HO_7.out; subst eo41) | (go_at_call 78; (with_reducible refine (provisoref02_has.calls k4 _ _ t121 ((rd_T62 ((rd_T59 l0 a1).f2) x8_4).f0) true _ ?side1 ?side2 A35.out).mono ?_); (case side1 => refine (Kd.R_reads' (e := 62) (base := w.heap.size) (ok := fun k_ => (True ∧ k_ ≠ gb125)) (n := t121.length) (c := co41) ?_).2.2; exact (by (with_reducible repeat (first | apply Kd.R_alloc | apply Kd.R_drewN | apply Kd.R_drew)); exact (Kd.R_mono (Kd.R_far (p := ⟨gb125, 1, none⟩) (Kd.R_far (p := ⟨gb125, 0, none⟩) (Kd.R_mono HO_7.out (fun k_ hk => (⟨hk, hk.2⟩ : _ ∧ k_ ≠ gb125))) (fun _ hk => hk.2) (.string ((rd_T62 ((rd_T59 l0 a1).f2) x8_4).f0))) (fun _ hk => hk.2) (.int .u8 ((rd_T62 ((rd_T59 l0 a1).f2) x8_4).f1))) (fun _ h_ => h_.1)))); (case side2 => exact (Kd.R_reads' HO_7.out).2.1); rintro e w' ⟨rfl, ⟨nd, rfl⟩⟩; (try first | exact ⟨rfl, _, World.drewN_drewN _ _ _⟩ | exact ⟨rfl, _, Eq.trans (World.drewN_drewN _ _ _) (congrArg (World.drewN _) (Nat.add_assoc _ _ _))⟩))); try go_wp2_with (first | ((with_reducible refine gate_dst (N := 9) rfl ?_); refine box_event ?hg (N := 9) ?hd (cs := #[.string (⟨#[]⟩ : ByteArray), .int .u8 0]) (t := 62) ?hr ?_; (case hd => rfl); (case hg => rfl); (case hr => first | (go_simp; done) | (go_simp; rfl)); intro gb125 hg w38 hbox hb; have n0_ := Aside0.mk (Kd.R_below (Kd.R_elderB (by (with_reducible repeat (first | apply Kd.R_alloc | apply Kd.R_drewN | apply Kd.R_drew)); exact HO_7.out) gb125 (Nat.le_of_eq hg.symm)) hb); have n1_ := Aside0.mk (blk_below (g := gb117) (o := .cells #[.string ((rd_T59 l0 a1).f0), .int .i64 ((rd_T59 l0 a1).f1), .slice (some ad124) ((rd_T59 l0 a1).f2).length c116_2] 59 (0, 0)) (by (with_reducible repeat (first | refine blk_drewN ?_ _ | refine blk_drew ?_ | refine blk_alloc ?_ _)); exact BK117.out) hb); have n2_ := Aside0.mk (below_step (by repeat (first | (with_reducible first | exact HB.out | apply below_alloc | apply pw_below_drewN | apply below_drew1 | refine below_set ?_ GE117.out) | exact HB.out)) hb); have n3_ := Aside0.mk (hbox); have n4_ := Aside0.mk ((by rw [hg]; exact (below_size (by repeat (first | (with_reducible first | exact HB.out | apply below_alloc | apply pw_below_drewN | apply below_drew1 | refine below_set ?_ GE117.out) | exact HB.out))) : w.heap.size ≤ gb125)); have n5_ := Aside0.mk ((by rw [hg]; exact (below_size (by repeat (first | (with_reducible first | exact HB.out | apply below_alloc | apply pw_below_drewN | apply below_drew1 | refine below_set ?_ GE117.out) | exact HB.out))) : w.heap.size ≤ gb125)); have n6_ := Aside0.mk ((by rw [hg]; exact Nat.ne_of_lt (blk_lt (g := gb117) (o := .cells #[.string ((rd_T59 l0 a1).f0), .int .i64 ((rd_T59 l0 a1).f1), .slice (some ad124) ((rd_T59 l0 a1).f2).length c116_2] 59 (0, 0)) (by (with_reducible repeat (first | refine blk_drewN ?_ _ | refine blk_drew ?_ | refine blk_alloc ?_ _)); exact BK117.out)) : gb117 ≠ gb125)); have n7_ := Aside0.mk ((by rw [hg]; exact Nat.ne_of_gt (blk_lt (g := gb117) (o := .cells #[.string ((rd_T59 l0 a1).f0), .int .i64 ((rd_T59 l0 a1).f1), .slice (some ad124) ((rd_T59 l0 a1).f2).length c116_2] 59 (0, 0)) (by (with_reducible repeat (first | refine blk_drewN ?_ _ | refine blk_drew ?_ | refine blk_alloc ?_ _)); exact BK117.out)) : gb125 ≠ gb117)); clear HO_7; clear BK117; clear HB; have HO_7 := n0_; have BK117 := n1_; have HB := n2_; have BK125 := n3_; have GW125 := n4_; have GE125 := n5_; have NB117_125 := n6_; have NB125_117 := n7_; clear n0_ n1_ n2_ n3_ n4_ n5_ n6_ n7_; clear hb hbox hg; have hnb39 := NB125_117.out; have hnc39 := NB117_125.out; have hcz40_0 : w38.cell? ⟨gb125, 0, none⟩ = some (.string (⟨#[]⟩ : ByteArray)) := (blk_cell BK125.out 0).trans rfl; have hcz40_1 : w38.cell? ⟨gb125, 1, none⟩ = some (.int .u8 0) := (blk_cell BK125.out 1).trans rfl; have hfz40_0 := blk_frozen BK125.out 0; have hfz40_1 := blk_frozen BK125.out 1) | (go_at_call 75; (with_reducible refine (provisoref02_IsName.calls k4 ((rd_T62 ((rd_T59 l0 a1).f2) x8_4).f0) true _ A33.out).mono ?_); rintro e w' ⟨rfl, ⟨nd, rfl⟩⟩; (try first | exact ⟨rfl, _, World.drewN_drewN _ _ _⟩ | exact ⟨rfl, _, Eq.trans (World.drewN_drewN _ _ _) (congrArg (World.drewN _) (Nat.add_assoc _ _ _))⟩); obtain ⟨Ao41, co41, eo41⟩ := Kd.R_slice HO_7.out; subst eo41) | (go_at_call 78; (with_reducible refine (provisoref02_has.calls k4 _ _ t121 ((rd_T62 ((rd_T59 l0 a1).f2) x8_4).f0) true _ ?side1 ?side2 A35.out).mono ?_); (case side1 => refine (Kd.R_reads' (e := 62) (base := w.heap.size) (ok := fun k_ => (True ∧ k_ ≠ gb125)) (n := t121.length) (c := co41) ?_).2.2; exact (by (with_reducible repeat (first | apply Kd.R_alloc | apply Kd.R_drewN | apply Kd.R_drew)); exact (Kd.R_mono (Kd.R_far (p := ⟨gb125, 1, none⟩) (Kd.R_far (p := ⟨gb125, 0, none⟩) (Kd.R_mono HO_7.out (fun k_ hk => (⟨hk, hk.2⟩ : _ ∧ k_ ≠ gb125))) (fun _ hk => hk.2) (.string ((rd_T62 ((rd_T59 l0 a1).f2) x8_4).f0))) (fun _ hk => hk.2) (.int .u8 ((rd_T62 ((rd_T59 l0 a1).f2) x8_4).f1))) (fun _ h_ => h_.1)))); (case side2 => exact (Kd.R_reads' HO_7.out).2.1); rintro e w' ⟨rfl, ⟨nd, rfl⟩⟩; (try first | exact ⟨rfl, _, World.drewN_drewN _ _ _⟩ | exact ⟨rfl, _, Eq.trans (World.drewN_drewN _ _ _) (congrArg (World.drewN _) (Nat.add_assoc _ _ _))⟩))))
                                      go_ret
                                      exact ⟨by first | rfl | (simp [errW_none, errW_some] <;> rfl) | (simp [*, errW_none, errW_some] <;> rfl), by repeat (first | (with_reducible first | exact HB.out | apply below_alloc | apply pw_below_drewN | apply below_drew1 | refine below_set ?_ GE117.out | refine below_set ?_ GE125.out) | exact HB.out)⟩
                                    · replace c36 := Bool.eq_false_iff.mpr c36
                                      subst c36
                                      have H1 : (if x8_4 ≤ (((rd_T59 l0 a1).f2).length : Int) then ((provisoref02_has.f k4 (((rd_T59 l0 a1).f2).take (x8_4 : Int).toNat) ((rd_T62 ((rd_T59 l0 a1).f2) x8_4).f0)).bind fun t132 => (if t132 = true then (some 20) else ((provisoref02_Stored.f l0 ((rd_T62 ((rd_T59 l0 a1).f2) x8_4).f1)).bind fun t133 => (if t133 = true then (provisoref02_fault.l1 k4 l0 t121 (wrap64 (x8_4 + 1)) ((rd_T59 l0 a1).f0) ((rd_T59 l0 a1).f1) ((rd_T59 l0 a1).f2)) else (some 22))))) else (none)) = some r := by rw [if_neg (show ¬ (false = true) by decide)] at H; exact H
                                      clear H
                                      have H := H1
                                      clear H1
                                      have c42b0 := eq_true (of_decide_eq_true (by first | (with_reducible assumption) | assumption) : 0 ≤ x8_4)
                                      by_cases c43 : x8_4 ≤ (((rd_T59 l0 a1).f2).length : Int)
                                      · rw [if_pos c43] at H
                                        have c43b0 := eq_true c43
                                        have c43b1 : decide (x8_4 ≤ (((rd_T59 l0 a1).f2).length : Int)) = true := decide_eq_true c43
                                        clear c43
                                        obtain ⟨y128, hy128⟩ : ∃ y_ : List (S62), y_ = (((rd_T59 l0 a1).f2).take (x8_4 : Int).toNat) := ⟨_, rfl⟩
                                        replace H : ((provisoref02_has.f k4 y128 ((rd_T62 ((rd_T59 l0 a1).f2) x8_4).f0)).bind fun t132 => (if t132 = true then (some 20) else ((provisoref02_Stored.f l0 ((rd_T62 ((rd_T59 l0 a1).f2) x8_4).f1)).bind fun t133 => (if t133 = true then (provisoref02_fault.l1 k4 l0 t121 (wrap64 (x8_4 + 1)) ((rd_T59 l0 a1).f0) ((rd_T59 l0 a1).f1) ((rd_T59 l0 a1).f2)) else (some 22))))) = some r := by first | (rw [hy128]; with_reducible exact H) | (have H2_ := (Option.bind_some _ _).symm.trans H; rw [hy128]; with_reducible exact H2_) | (have H2_ := (Option.bind_some _ _).symm.trans H; with_reducible exact H2_) | with_reducible exact H | (rw [hy128]; exact H) | exact H
                                        have Ny128 := Aside0.mk hy128
                                        clear hy128
                                        replace H := Option.bind_eq_some_iff.mp H
                                        obtain ⟨t132, A440, H⟩ := H
                                        replace H : (if t132 = true then (some 20) else ((provisoref02_Stored.f l0 ((rd_T62 ((rd_T59 l0 a1).f2) x8_4).f1)).bind fun t133 => (if t133 = true then (provisoref02_fault.l1 k4 l0 t121 (wrap64 (x8_4 + 1)) ((rd_T59 l0 a1).f0) ((rd_T59 l0 a1).f1) ((rd_T59 l0 a1).f2)) else (some 22)))) = some r := H
                                        have A44 := Aside0.mk A440
                                        clear A440
                                        by_cases c45 : t132 = true
                                        · subst c45
                                          have H1 : (some 20) = some r := by rw [if_pos rfl] at H; exact H
                                          clear H
                                          have H := H1
                                          clear H1
                                          obtain rfl := Option.some.inj H
                                          have hcz46_0 : wr.cell? ⟨gb117, 0, none⟩ = some (.string ((rd_T59 l0 a1).f0)) := (blk_cell BK117.out 0).trans rfl
                                          have hcz46_1 : wr.cell? ⟨gb117, 1, none⟩ = some (.int .i64 ((rd_T59 l0 a1).f1)) := (blk_cell BK117.out 1).trans rfl
                                          have hcz46_2 : wr.cell? ⟨gb117, 2, none⟩ = some (.slice A116_2 ((rd_T59 l0 a1).f2).length c116_2) := (blk_cell BK117.out 2).trans rfl
                                          have hfz46_0 := blk_frozen BK117.out 0
                                          have hfz46_1 := blk_frozen BK117.out 1
                                          have hfz46_2 := blk_frozen BK117.out 2
                                          have p124 : 0 ≤ (x8_4 : Int) := of_decide_eq_true (by first | (with_reducible assumption) | assumption)
                                          have q124 : x8_4 < (((rd_T59 l0 a1).f2).length : Int) := of_decide_eq_true (by first | (with_reducible assumption) | assumption)
                                          obtain ⟨ad124, e124, hx124_0, hx124_1⟩ := at_T62 HR116_2.out x8_4 p124 q124
                                          cases e124
                                          replace hx124_0 := (HB.out.cell (World.block_lt_of_cell? w _ hx124_0)).trans hx124_0
                                          replace hx124_1 := (HB.out.cell (World.block_lt_of_cell? w _ hx124_1)).trans hx124_1
                                          replace p124 := eq_true p124
                                          replace q124 := eq_true q124
                                          go_wp2_with (first | ((with_reducible refine gate_dst (N := 9) rfl ?_); refine box_event ?hg (N := 9) ?hd (cs := #[.string (⟨#[]⟩ : ByteArray), .int .u8 0]) (t := 62) ?hr ?_; (case hd => rfl); (case hg => rfl); (case hr => first | (go_simp; done) | (go_simp; rfl)); intro gb125 hg w47 hbox hb; have n0_ := Aside0.mk (Kd.R_below (Kd.R_elderB (by (with_reducible repeat (first | apply Kd.R_alloc | apply Kd.R_drewN | apply Kd.R_drew)); exact HO_7.out) gb125 (Nat.le_of_eq hg.symm)) hb); have n1_ := Aside0.mk (blk_below (g := gb117) (o := .cells #[.string ((rd_T59 l0 a1).f0), .int .i64 ((rd_T59 l0 a1).f1), .slice (some ad124) ((rd_T59 l0 a1).f2).length c116_2] 59 (0, 0)) (by (with_reducible repeat (first | refine blk_drewN ?_ _ | refine blk_drew ?_ | refine blk_alloc ?_ _)); exact BK117.out) hb); have n2_ := Aside0.mk (below_step (by repeat (first | (with_reducible first | exact HB.out | apply below_alloc | apply pw_below_drewN | apply below_drew1 | refine below_set ?_ GE117.out) | exact HB.out)) hb); have n3_ := Aside0.mk (hbox); have n4_ := Aside0.mk ((by rw [hg]; exact (below_size (by repeat (first | (with_reducible first | exact HB.out | apply below_alloc | apply pw_below_drewN | apply below_drew1 | refine below_set ?_ GE117.out) | exact HB.out))) : w.heap.size ≤ gb125)); have n5_ := Aside0.mk ((by rw [hg]; exact (below_size (by repeat (first | (with_reducible first | exact HB.out | apply below_alloc | apply pw_below_drewN | apply below_drew1 | refine below_set ?_ GE117.out) | exact HB.out))) : w.heap.size ≤ gb125)); have n6_ := Aside0.mk ((by rw [hg]; exact Nat.ne_of_lt (blk_lt (g := gb117) (o := .cells #[.string ((rd_T59 l0 a1).f0), .int .i64 ((rd_T59 l0 a1).f1), .slice (some ad124) ((rd_T59 l0 a1).f2).length c116_2] 59 (0, 0)) (by (with_reducible repeat (first | refine blk_drewN ?_ _ | refine blk_drew ?_ | refine blk_alloc ?_ _)); exact BK117.out)) : gb117 ≠ gb125)); have n7_ := Aside0.mk ((by rw [hg]; exact Nat.ne_of_gt (blk_lt (g := gb117) (o := .cells #[.string ((rd_T59 l0 a1).f0), .int .i64 ((rd_T59 l0 a1).f1), .slice (some ad124) ((rd_T59 l0 a1).f2).length c116_2] 59 (0, 0)) (by (with_reducible repeat (first | refine blk_drewN ?_ _ | refine blk_drew ?_ | refine blk_alloc ?_ _)); exact BK117.out)) : gb125 ≠ gb117)); clear HO_7; clear BK117; clear HB; have HO_7 := n0_; have BK117 := n1_; have HB := n2_; have BK125 := n3_; have GW125 := n4_; have GE125 := n5_; have NB117_125 := n6_; have NB125_117 := n7_; clear n0_ n1_ n2_ n3_ n4_ n5_ n6_ n7_; clear hb hbox hg; have hnb48 := NB125_117.out; have hnc48 := NB117_125.out; have hcz49_0 : w47.cell? ⟨gb125, 0, none⟩ = some (.string (⟨#[]⟩ : ByteArray)) := (blk_cell BK125.out 0).trans rfl; have hcz49_1 : w47.cell? ⟨gb125, 1, none⟩ = some (.int .u8 0) := (blk_cell BK125.out 1).trans rfl; have hfz49_0 := blk_frozen BK125.out 0; have hfz49_1 := blk_frozen BK125.out 1) | ((with_reducible refine gate_store (t := 62) (p := 9) rfl ?_); (try (rw [drewN_self w47]; generalize hq_ : World.drewN w47 _ = w47; have n0_ := Aside0.mk (Kd.R_at hq_ HO_7.out); have n1_ := Aside0.mk (blk_at hq_ BK117.out); have n2_ := Aside0.mk (blk_at hq_ BK125.out); have n3_ := Aside0.mk (below_at hq_ HB.out); clear hq_ HO_7 BK117 BK125 HB; have HO_7 := n0_; have BK117 := n1_; have BK125 := n2_; have HB := n3_; clear n0_ n1_ n2_ n3_)); refine store_event (t := 62) (p := 9) (v := ?vo_w50) (w1 := ((w47.setCell ⟨gb125, 0, none⟩ (.string ((rd_T62 ((rd_T59 l0 a1).f2) x8_4).f0))).setCell ⟨gb125, 1, none⟩ (.int .u8 ((rd_T62 ((rd_T59 l0 a1).f2) x8_4).f1)))) ?hg ?ho ?hn ?hr ?_; (case ho => rfl); (case hg => rfl); (case hn => rfl); (case hr => first | (go_simp; done) | (go_simp; rfl)); intro w50 hw; have n0_ : Aside0 (Kd.R k62 62 w50 w.heap.size (fun k_ => k_ ≠ gb125) v122 t121) := ⟨(by rw [hw]; exact (by (with_reducible repeat (first | apply Kd.R_alloc | apply Kd.R_drewN | apply Kd.R_drew)); exact Kd.R_mono (Kd.R_far (p := ⟨gb125, 1, none⟩) (Kd.R_far (p := ⟨gb125, 0, none⟩) (Kd.R_mono HO_7.out (fun k_ hk => (⟨hk, hk.2⟩ : _ ∧ k_ ≠ gb125))) (fun _ hk => hk.2) (.string ((rd_T62 ((rd_T59 l0 a1).f2) x8_4).f0))) (fun _ hk => hk.2) (.int .u8 ((rd_T62 ((rd_T59 l0 a1).f2) x8_4).f1))) (fun _ hk => hk.1.2)))⟩; have n1_ : Aside0 (w50.heap[gb117]? = some (.cells #[.string ((rd_T59 l0 a1).f0), .int .i64 ((rd_T59 l0 a1).f1), .slice (some ad124) ((rd_T59 l0 a1).f2).length c116_2] 59 (0, 0))) := ⟨(by rw [hw]; exact (by (with_reducible repeat (first | refine blk_drewN ?_ _ | refine blk_drew ?_ | refine blk_alloc ?_ _)); refine blk_far ?_ NB117_125.out _; (with_reducible repeat (first | refine blk_drewN ?_ _ | refine blk_drew ?_ | refine blk_alloc ?_ _)); refine blk_far ?_ NB117_125.out _; (with_reducible repeat (first | refine blk_drewN ?_ _ | refine blk_drew ?_ | refine blk_alloc ?_ _)); exact BK117.out))⟩; have n2_ : Aside0 (w50.heap[gb125]? = some (.cells #[.string ((rd_T62 ((rd_T59 l0 a1).f2) x8_4).f0), .int .u8 ((rd_T62 ((rd_T59 l0 a1).f2) x8_4).f1)] 62 (0, 0))) := ⟨(by rw [hw]; exact (by (with_reducible repeat (first | refine blk_drewN ?_ _ | refine blk_drew ?_ | refine blk_alloc ?_ _)); refine blk_put (cs := #[.string ((rd_T62 ((rd_T59 l0 a1).f2) x8_4).f0), .int .u8 0]) ?_ 1 _ rfl; (with_reducible repeat (first | refine blk_drewN ?_ _ | refine blk_drew ?_ | refine blk_alloc ?_ _)); refine blk_put (cs := #[.string (⟨#[]⟩ : ByteArray), .int .u8 0]) ?_ 0 _ rfl; (with_reducible repeat (first | refine blk_drewN ?_ _ | refine blk_drew ?_ | refine blk_alloc ?_ _)); exact BK125.out))⟩; have n3_ : Aside0 (Below w.heap.size w w50) := ⟨(by rw [hw]; exact (by repeat (first | (with_reducible first | exact HB.out | apply below_alloc | apply pw_below_drewN | apply below_drew1 | refine below_set ?_ GE117.out | refine below_set ?_ GE125.out) | exact HB.out)))⟩; clear hw; clear HO_7; clear BK117; clear BK125; clear HB; have HO_7 := n0_; have BK117 := n1_; have BK125 := n2_; have HB := n3_; clear n0_ n1_ n2_ n3_; have hcz51_0 : w50.cell? ⟨gb125, 0, none⟩ = some (.string ((rd_T62 ((rd_T59 l0 a1).f2) x8_4).f0)) := (blk_cell BK125.out 0).trans rfl; have hcz51_1 : w50.cell? ⟨gb125, 1, none⟩ = some (.int .u8 ((rd_T62 ((rd_T59 l0 a1).f2) x8_4).f1)) := (blk_cell BK125.out 1).trans rfl; have hfz51_0 := blk_frozen BK125.out 0; have hfz51_1 := blk_frozen BK125.out 1) | (go_at_call 75; (with_reducible refine (provisoref02_IsName.calls k4 ((rd_T62 ((rd_T59 l0 a1).f2) x8_4).f0) true _ A33.out).mono ?_); rintro e w' ⟨rfl, ⟨nd, rfl⟩⟩; (try first | exact ⟨rfl, _, World.drewN_drewN _ _ _⟩ | exact ⟨rfl, _, Eq.trans (World.drewN_drewN _ _ _) (congrArg (World.drewN _) (Nat.add_assoc _ _ _))⟩); obtain ⟨Ao52, co52, eo52⟩ := Kd.R_slice HO_7.out; subst eo52) | (go_at_call 78; (with_reducible refine (provisoref02_has.calls k4 _ _ t121 ((rd_T62 ((rd_T59 l0 a1).f2) x8_4).f0) false _ ?side1 ?side2 A35.out).mono ?_); (case side1 => repeat (first | exact (Kd.R_reads' HO_7.out).2.2 | (with_reducible refine Kd.C_alloc ?_ _) | (with_reducible refine Kd.C_drewN ?_ _) | (with_reducible refine Kd.C_drew ?_))); (case side2 => exact (Kd.R_reads' HO_7.out).2.1); rintro e w' ⟨rfl, ⟨nd, rfl⟩⟩; (try first | exact ⟨rfl, _, World.drewN_drewN _ _ _⟩ | exact ⟨rfl, _, Eq.trans (World.drewN_drewN _ _ _) (congrArg (World.drewN _) (Nat.add_assoc _ _ _))⟩); have hcz53_0 : w50.cell? ⟨gb117, 0, none⟩ = some (.string ((rd_T59 l0 a1).f0)) := (blk_cell BK117.out 0).trans rfl; have hcz53_1 : w50.cell? ⟨gb117, 1, none⟩ = some (.int .i64 ((rd_T59 l0 a1).f1)) := (blk_cell BK117.out 1).trans rfl; have hcz53_2 : w50.cell? ⟨gb117, 2, none⟩ = some (.slice (some ad124) ((rd_T59 l0 a1).f2).length c116_2) := (blk_cell BK117.out 2).trans rfl; have hfz53_0 := blk_frozen BK117.out 0; have hfz53_1 := blk_frozen BK117.out 1; have hfz53_2 := blk_frozen BK117.out 2; have q54 : (x8_4 : Int) ≤ ((((rd_T59 l0 a1).f2).length : Int) : Int) := of_decide_eq_true (by first | (with_reducible assumption) | assumption); obtain ⟨i054, hi054, _, hsz54, _⟩ := info_parts info62; have hroom54 : ((rd_T59 l0 a1).f2).length ≤ c116_2 := HC116_2.out; have hC54 : Kd.C k62 _ (some ad124) ((rd_T59 l0 a1).f2).length ((rd_T59 l0 a1).f2) := HR116_2.out; have hcut54 := cut_to (P := Try.prog) 57 62 .i64 Try.underlying57 hi054 (some ad124) ((rd_T59 l0 a1).f2).length c116_2 x8_4 (of_decide_eq_true (by first | (with_reducible assumption) | assumption)) q54 hroom54; have hr54 := Kd.C_take (m := (x8_4 : Int).toNat) hC54 (by omega); have hy54 : y128.length = (x8_4 : Int).toNat := (by rw [Ny128.out, List.length_take]; omega); rw [← Ny128.out] at hr54; rw [← hy54] at hcut54; have HR131 := Aside0.mk hr54; have HC131 := Aside0.mk (show y128.length ≤ c116_2 from by omega); clear hr54 hC54 hroom54 hi054 hsz54; have KY54 := Aside0.mk hy54; clear hy54; replace q54 := eq_true q54) | (go_at_call 78; (with_reducible refine (provisoref02_has.calls k4 _ _ y128 ((rd_T62 ((rd_T59 l0 a1).f2) x8_4).f0) true _ ?side1 ?side2 A44.out).mono ?_); (case side1 => repeat (first | exact (Kd.C_below HR131.out (by repeat (first | (with_reducible first | exact HB.out | apply below_alloc | apply pw_below_drewN | apply below_drew1 | refine below_set ?_ GE117.out | refine below_set ?_ GE125.out) | exact HB.out))) | (with_reducible refine Kd.C_alloc ?_ _) | (with_reducible refine Kd.C_drewN ?_ _) | (with_reducible refine Kd.C_drew ?_))); (case side2 => exact HC131.out); rintro e w' ⟨rfl, ⟨nd, rfl⟩⟩; (try first | exact ⟨rfl, _, World.drewN_drewN _ _ _⟩ | exact ⟨rfl, _, Eq.trans (World.drewN_drewN _ _ _) (congrArg (World.drewN _) (Nat.add_assoc _ _ _))⟩)))
                                          repeat (go_quiet (first | ((with_reducible refine gate_dst (N := 9) rfl ?_); refine box_event ?hg (N := 9) ?hd (cs := #[.string (⟨#[]⟩ : ByteArray), .int .u8 0]) (t := 62) ?hr ?_; (case hd => rfl); (case hg => rfl); (case hr => first | (go_simp; done) | (go_simp; rfl)); intro gb125 hg w47 hbox hb; have n0_ := Aside0.mk (Kd.R_below (Kd.R_elderB (by (with_reducible repeat (first | apply Kd.R_alloc | apply Kd.R_drewN | apply Kd.R_drew)); exact HO_7.out) gb125 (Nat.le_of_eq hg.symm)) hb); have n1_ := Aside0.mk (blk_below (g := gb117) (o := .cells #[.string ((rd_T59 l0 a1).f0), .int .i64 ((rd_T59 l0 a1).f1), .slice (some ad124) ((rd_T59 l0 a1).f2).length c116_2] 59 (0, 0)) (by (with_reducible repeat (first | refine blk_drewN ?_ _ | refine blk_drew ?_ | refine blk_alloc ?_ _)); exact BK117.out) hb); have n2_ := Aside0.mk (below_step (by repeat (first | (with_reducible first | exact HB.out | apply below_alloc | apply pw_below_drewN | apply below_drew1 | refine below_set ?_ GE117.out) | exact HB.out)) hb); have n3_ := Aside0.mk (hbox); have n4_ := Aside0.mk ((by rw [hg]; exact (below_size (by repeat (first | (with_reducible first | exact HB.out | apply below_alloc | apply pw_below_drewN | apply below_drew1 | refine below_set ?_ GE117.out) | exact HB.out))) : w.heap.size ≤ gb125)); have n5_ := Aside0.mk ((by rw [hg]; exact (below_size (by repeat (first | (with_reducible first | exact HB.out | apply below_alloc | apply pw_below_drewN | apply below_drew1 | refine below_set ?_ GE117.out) | exact HB.out))) : w.heap.size ≤ gb125)); have n6_ := Aside0.mk ((by rw [hg]; exact Nat.ne_of_lt (blk_lt (g := gb117) (o := .cells #[.string ((rd_T59 l0 a1).f0), .int .i64 ((rd_T59 l0 a1).f1), .slice (some ad124) ((rd_T59 l0 a1).f2).length c116_2] 59 (0, 0)) (by (with_reducible repeat (first | refine blk_drewN ?_ _ | refine blk_drew ?_ | refine blk_alloc ?_ _)); exact BK117.out)) : gb117 ≠ gb125)); have n7_ := Aside0.mk ((by rw [hg]; exact Nat.ne_of_gt (blk_lt (g := gb117) (o := .cells #[.string ((rd_T59 l0 a1).f0), .int .i64 ((rd_T59 l0 a1).f1), .slice (some ad124) ((rd_T59 l0 a1).f2).length c116_2] 59 (0, 0)) (by (with_reducible repeat (first | refine blk_drewN ?_ _ | refine blk_drew ?_ | refine blk_alloc ?_ _)); exact BK117.out)) : gb125 ≠ gb117)); clear HO_7; clear BK117; clear HB; have HO_7 := n0_; have BK117 := n1_; have HB := n2_; have BK125 := n3_; have GW125 := n4_; have GE125 := n5_; have NB117_125 := n6_; have NB125_117 := n7_; clear n0_ n1_ n2_ n3_ n4_ n5_ n6_ n7_; clear hb hbox hg; have hnb48 := NB125_117.out; have hnc48 := NB117_125.out; have hcz49_0 : w47.cell? ⟨gb125, 0, none⟩ = some (.string (⟨#[]⟩ : ByteArray)) := (blk_cell BK125.out 0).trans rfl; have hcz49_1 : w47.cell? ⟨gb125, 1, none⟩ = some (.int .u8 0) := (blk_cell BK125.out 1).trans rfl; have hfz49_0 := blk_frozen BK125.out 0; have hfz49_1 := blk_frozen BK125.out 1) | ((with_reducible refine gate_store (t := 62) (p := 9) rfl ?_); (try (rw [drewN_self w47]; generalize hq_ : World.drewN w47 _ = w47; have n0_ := Aside0.mk (Kd.R_at hq_ HO_7.out); have n1_ := Aside0.mk (blk_at hq_ BK117.out); have n2_ := Aside0.mk (blk_at hq_ BK125.out); have n3_ := Aside0.mk (below_at hq_ HB.out); clear hq_ HO_7 BK117 BK125 HB; have HO_7 := n0_; have BK117 := n1_; have BK125 := n2_; have HB := n3_; clear n0_ n1_ n2_ n3_)); refine store_event (t := 62) (p := 9) (v := ?vo_w50) (w1 := ((w47.setCell ⟨gb125, 0, none⟩ (.string ((rd_T62 ((rd_T59 l0 a1).f2) x8_4).f0))).setCell ⟨gb125, 1, none⟩ (.int .u8 ((rd_T62 ((rd_T59 l0 a1).f2) x8_4).f1)))) ?hg ?ho ?hn ?hr ?_; (case ho => rfl); (case hg => rfl); (case hn => rfl); (case hr => first | (go_simp; done) | (go_simp; rfl)); intro w50 hw; have n0_ : Aside0 (Kd.R k62 62 w50 w.heap.size (fun k_ => k_ ≠ gb125) v122 t121) := ⟨(by rw [hw]; exact (by (with_reducible repeat (first | apply Kd.R_alloc | apply Kd.R_drewN | apply Kd.R_drew)); exact Kd.R_mono (Kd.R_far (p := ⟨gb125, 1, none⟩) (Kd.R_far (p := ⟨gb125, 0, none⟩) (Kd.R_mono HO_7.out (fun k_ hk => (⟨hk, hk.2⟩ : _ ∧ k_ ≠ gb125))) (fun _ hk => hk.2) (.string ((rd_T62 ((rd_T59 l0 a1).f2) x8_4).f0))) (fun _ hk => hk.2) (.int .u8 ((rd_T62 ((rd_T59 l0 a1).f2) x8_4).f1))) (fun _ hk => hk.1.2)))⟩; have n1_ : Aside0 (w50.heap[gb117]? = some (.cells #[.string ((rd_T59 l0 a1).f0), .int .i64 ((rd_T59 l0 a1).f1), .slice (some ad124) ((rd_T59 l0 a1).f2).length c116_2] 59 (0, 0))) := ⟨(by rw [hw]; exact (by (with_reducible repeat (first | refine blk_drewN ?_ _ | refine blk_drew ?_ | refine blk_alloc ?_ _)); refine blk_far ?_ NB117_125.out _; (with_reducible repeat (first | refine blk_drewN ?_ _ | refine blk_drew ?_ | refine blk_alloc ?_ _)); refine blk_far ?_ NB117_125.out _; (with_reducible repeat (first | refine blk_drewN ?_ _ | refine blk_drew ?_ | refine blk_alloc ?_ _)); exact BK117.out))⟩; have n2_ : Aside0 (w50.heap[gb125]? = some (.cells #[.string ((rd_T62 ((rd_T59 l0 a1).f2) x8_4).f0), .int .u8 ((rd_T62 ((rd_T59 l0 a1).f2) x8_4).f1)] 62 (0, 0))) := ⟨(by rw [hw]; exact (by (with_reducible repeat (first | refine blk_drewN ?_ _ | refine blk_drew ?_ | refine blk_alloc ?_ _)); refine blk_put (cs := #[.string ((rd_T62 ((rd_T59 l0 a1).f2) x8_4).f0), .int .u8 0]) ?_ 1 _ rfl; (with_reducible repeat (first | refine blk_drewN ?_ _ | refine blk_drew ?_ | refine blk_alloc ?_ _)); refine blk_put (cs := #[.string (⟨#[]⟩ : ByteArray), .int .u8 0]) ?_ 0 _ rfl; (with_reducible repeat (first | refine blk_drewN ?_ _ | refine blk_drew ?_ | refine blk_alloc ?_ _)); exact BK125.out))⟩; have n3_ : Aside0 (Below w.heap.size w w50) := ⟨(by rw [hw]; exact (by repeat (first | (with_reducible first | exact HB.out | apply below_alloc | apply pw_below_drewN | apply below_drew1 | refine below_set ?_ GE117.out | refine below_set ?_ GE125.out) | exact HB.out)))⟩; clear hw; clear HO_7; clear BK117; clear BK125; clear HB; have HO_7 := n0_; have BK117 := n1_; have BK125 := n2_; have HB := n3_; clear n0_ n1_ n2_ n3_; have hcz51_0 : w50.cell? ⟨gb125, 0, none⟩ = some (.string ((rd_T62 ((rd_T59 l0 a1).f2) x8_4).f0)) := (blk_cell BK125.out 0).trans rfl; have hcz51_1 : w50.cell? ⟨gb125, 1, none⟩ = some (.int .u8 ((rd_T62 ((rd_T59 l0 a1).f2) x8_4).f1)) := (blk_cell BK125.out 1).trans rfl; have hfz51_0 := blk_frozen BK125.out 0; have hfz51_1 := blk_frozen BK125.out 1) | (go_at_call 75; (with_reducible refine (provisoref02_IsName.calls k4 ((rd_T62 ((rd_T59 l0 a1).f2) x8_4).f0) true _ A33.out).mono ?_); rintro e w' ⟨rfl, ⟨nd, rfl⟩⟩; (try first | exact ⟨rfl, _, World.drewN_drewN _ _ _⟩ | exact ⟨rfl, _, Eq.trans (World.drewN_drewN _ _ _) (congrArg (World.drewN _) (Nat.add_assoc _ _ _))⟩); obtain ⟨Ao52, co52, eo52⟩ := Kd.R_slice HO_7.out; subst eo52) | (go_at_call 78; (with_reducible refine (provisoref02_has.calls k4 _ _ t121 ((rd_T62 ((rd_T59 l0 a1).f2) x8_4).f0) false _ ?side1 ?side2 A35.out).mono ?_); (case side1 => repeat (first | exact (Kd.R_reads' HO_7.out).2.2 | (with_reducible refine Kd.C_alloc ?_ _) | (with_reducible refine Kd.C_drewN ?_ _) | (with_reducible refine Kd.C_drew ?_))); (case side2 => exact (Kd.R_reads' HO_7.out).2.1); rintro e w' ⟨rfl, ⟨nd, rfl⟩⟩; (try first | exact ⟨rfl, _, World.drewN_drewN _ _ _⟩ | exact ⟨rfl, _, Eq.trans (World.drewN_drewN _ _ _) (congrArg (World.drewN _) (Nat.add_assoc _ _ _))⟩); have hcz53_0 : w50.cell? ⟨gb117, 0, none⟩ = some (.string ((rd_T59 l0 a1).f0)) := (blk_cell BK117.out 0).trans rfl; have hcz53_1 : w50.cell? ⟨gb117, 1, none⟩ = some (.int .i64 ((rd_T59 l0 a1).f1)) := (blk_cell BK117.out 1).trans rfl; have hcz53_2 : w50.cell? ⟨gb117, 2, none⟩ = some (.slice (some ad124) ((rd_T59 l0 a1).f2).length c116_2) := (blk_cell BK117.out 2).trans rfl; have hfz53_0 := blk_frozen BK117.out 0; have hfz53_1 := blk_frozen BK117.out 1; have hfz53_2 := blk_frozen BK117.out 2; have q54 : (x8_4 : Int) ≤ ((((rd_T59 l0 a1).f2).length : Int) : Int) := of_decide_eq_true (by first | (with_reducible assumption) | assumption); obtain ⟨i054, hi054, _, hsz54, _⟩ := info_parts info62; have hroom54 : ((rd_T59 l0 a1).f2).length ≤ c116_2 := HC116_2.out; have hC54 : Kd.C k62 _ (some ad124) ((rd_T59 l0 a1).f2).length ((rd_T59 l0 a1).f2) := HR116_2.out; have hcut54 := cut_to (P := Try.prog) 57 62 .i64 Try.underlying57 hi054 (some ad124) ((rd_T59 l0 a1).f2).length c116_2 x8_4 (of_decide_eq_true (by first | (with_reducible assumption) | assumption)) q54 hroom54; have hr54 := Kd.C_take (m := (x8_4 : Int).toNat) hC54 (by omega); have hy54 : y128.length = (x8_4 : Int).toNat := (by rw [Ny128.out, List.length_take]; omega); rw [← Ny128.out] at hr54; rw [← hy54] at hcut54; have HR131 := Aside0.mk hr54; have HC131 := Aside0.mk (show y128.length ≤ c116_2 from by omega); clear hr54 hC54 hroom54 hi054 hsz54; have KY54 := Aside0.mk hy54; clear hy54; replace q54 := eq_true q54) | (go_at_call 78; (with_reducible refine (provisoref02_has.calls k4 _ _ y128 ((rd_T62 ((rd_T59 l0 a1).f2) x8_4).f0) true _ ?side1 ?side2 A44.out).mono ?_); (case side1 => repeat (first | exact (Kd.C_below HR131.out (by repeat (first | (with_reducible first | exact HB.out | apply below_alloc | apply pw_below_drewN | apply below_drew1 | refine below_set ?_ GE117.out | refine below_set ?_ GE125.out) | exact HB.out))) | (with_reducible refine Kd.C_alloc ?_ _) | (with_reducible refine Kd.C_drewN ?_ _) | (with_reducible refine Kd.C_drew ?_))); (case side2 => exact HC131.out); rintro e w' ⟨rfl, ⟨nd, rfl⟩⟩; (try first | exact ⟨rfl, _, World.drewN_drewN _ _ _⟩ | exact ⟨rfl, _, Eq.trans (World.drewN_drewN _ _ _) (congrArg (World.drewN _) (Nat.add_assoc _ _ _))⟩))); try go_wp2_with (first | ((with_reducible refine gate_dst (N := 9) rfl ?_); refine box_event ?hg (N := 9) ?hd (cs := #[.string (⟨#[]⟩ : ByteArray), .int .u8 0]) (t := 62) ?hr ?_; (case hd => rfl); (case hg => rfl); (case hr => first | (go_simp; done) | (go_simp; rfl)); intro gb125 hg w47 hbox hb; have n0_ := Aside0.mk (Kd.R_below (Kd.R_elderB (by (with_reducible repeat (first | apply Kd.R_alloc | apply Kd.R_drewN | apply Kd.R_drew)); exact HO_7.out) gb125 (Nat.le_of_eq hg.symm)) hb); have n1_ := Aside0.mk (blk_below (g := gb117) (o := .cells #[.string ((rd_T59 l0 a1).f0), .int .i64 ((rd_T59 l0 a1).f1), .slice (some ad124) ((rd_T59 l0 a1).f2).length c116_2] 59 (0, 0)) (by (with_reducible repeat (first | refine blk_drewN ?_ _ | refine blk_drew ?_ | refine blk_alloc ?_ _)); exact BK117.out) hb); have n2_ := Aside0.mk (below_step (by repeat (first | (with_reducible first | exact HB.out | apply below_alloc | apply pw_below_drewN | apply below_drew1 | refine below_set ?_ GE117.out) | exact HB.out)) hb); have n3_ := Aside0.mk (hbox); have n4_ := Aside0.mk ((by rw [hg]; exact (below_size (by repeat (first | (with_reducible first | exact HB.out | apply below_alloc | apply pw_below_drewN | apply below_drew1 | refine below_set ?_ GE117.out) | exact HB.out))) : w.heap.size ≤ gb125)); have n5_ := Aside0.mk ((by rw [hg]; exact (below_size (by repeat (first | (with_reducible first | exact HB.out | apply below_alloc | apply pw_below_drewN | apply below_drew1 | refine below_set ?_ GE117.out) | exact HB.out))) : w.heap.size ≤ gb125)); have n6_ := Aside0.mk ((by rw [hg]; exact Nat.ne_of_lt (blk_lt (g := gb117) (o := .cells #[.string ((rd_T59 l0 a1).f0), .int .i64 ((rd_T59 l0 a1).f1), .slice (some ad124) ((rd_T59 l0 a1).f2).length c116_2] 59 (0, 0)) (by (with_reducible repeat (first | refine blk_drewN ?_ _ | refine blk_drew ?_ | refine blk_alloc ?_ _)); exact BK117.out)) : gb117 ≠ gb125)); have n7_ := Aside0.mk ((by rw [hg]; exact Nat.ne_of_gt (blk_lt (g := gb117) (o := .cells #[.string ((rd_T59 l0 a1).f0), .int .i64 ((rd_T59 l0 a1).f1), .slice (some ad124) ((rd_T59 l0 a1).f2).length c116_2] 59 (0, 0)) (by (with_reducible repeat (first | refine blk_drewN ?_ _ | refine blk_drew ?_ | refine blk_alloc ?_ _)); exact BK117.out)) : gb125 ≠ gb117)); clear HO_7; clear BK117; clear HB; have HO_7 := n0_; have BK117 := n1_; have HB := n2_; have BK125 := n3_; have GW125 := n4_; have GE125 := n5_; have NB117_125 := n6_; have NB125_117 := n7_; clear n0_ n1_ n2_ n3_ n4_ n5_ n6_ n7_; clear hb hbox hg; have hnb48 := NB125_117.out; have hnc48 := NB117_125.out; have hcz49_0 : w47.cell? ⟨gb125, 0, none⟩ = some (.string (⟨#[]⟩ : ByteArray)) := (blk_cell BK125.out 0).trans rfl; have hcz49_1 : w47.cell? ⟨gb125, 1, none⟩ = some (.int .u8 0) := (blk_cell BK125.out 1).trans rfl; have hfz49_0 := blk_frozen BK125.out 0; have hfz49_1 := blk_frozen BK125.out 1) | ((with_reducible refine gate_store (t := 62) (p := 9) rfl ?_); (try (rw [drewN_self w47]; generalize hq_ : World.drewN w47 _ = w47; have n0_ := Aside0.mk (Kd.R_at hq_ HO_7.out); have n1_ := Aside0.mk (blk_at hq_ BK117.out); have n2_ := Aside0.mk (blk_at hq_ BK125.out); have n3_ := Aside0.mk (below_at hq_ HB.out); clear hq_ HO_7 BK117 BK125 HB; have HO_7 := n0_; have BK117 := n1_; have BK125 := n2_; have HB := n3_; clear n0_ n1_ n2_ n3_)); refine store_event (t := 62) (p := 9) (v := ?vo_w50) (w1 := ((w47.setCell ⟨gb125, 0, none⟩ (.string ((rd_T62 ((rd_T59 l0 a1).f2) x8_4).f0))).setCell ⟨gb125, 1, none⟩ (.int .u8 ((rd_T62 ((rd_T59 l0 a1).f2) x8_4).f1)))) ?hg ?ho ?hn ?hr ?_; (case ho => rfl); (case hg => rfl); (case hn => rfl); (case hr => first | (go_simp; done) | (go_simp; rfl)); intro w50 hw; have n0_ : Aside0 (Kd.R k62 62 w50 w.heap.size (fun k_ => k_ ≠ gb125) v122 t121) := ⟨(by rw [hw]; exact (by (with_reducible repeat (first | apply Kd.R_alloc | apply Kd.R_drewN | apply Kd.R_drew)); exact Kd.R_mono (Kd.R_far (p := ⟨gb125, 1, none⟩) (Kd.R_far (p := ⟨gb125, 0, none⟩) (Kd.R_mono HO_7.out (fun k_ hk => (⟨hk, hk.2⟩ : _ ∧ k_ ≠ gb125))) (fun _ hk => hk.2) (.string ((rd_T62 ((rd_T59 l0 a1).f2) x8_4).f0))) (fun _ hk => hk.2) (.int .u8 ((rd_T62 ((rd_T59 l0 a1).f2) x8_4).f1))) (fun _ hk => hk.1.2)))⟩; have n1_ : Aside0 (w50.heap[gb117]? = some (.cells #[.string ((rd_T59 l0 a1).f0), .int .i64 ((rd_T59 l0 a1).f1), .slice (some ad124) ((rd_T59 l0 a1).f2).length c116_2] 59 (0, 0))) := ⟨(by rw [hw]; exact (by (with_reducible repeat (first | refine blk_drewN ?_ _ | refine blk_drew ?_ | refine blk_alloc ?_ _)); refine blk_far ?_ NB117_125.out _; (with_reducible repeat (first | refine blk_drewN ?_ _ | refine blk_drew ?_ | refine blk_alloc ?_ _)); refine blk_far ?_ NB117_125.out _; (with_reducible repeat (first | refine blk_drewN ?_ _ | refine blk_drew ?_ | refine blk_alloc ?_ _)); exact BK117.out))⟩; have n2_ : Aside0 (w50.heap[gb125]? = some (.cells #[.string ((rd_T62 ((rd_T59 l0 a1).f2) x8_4).f0), .int .u8 ((rd_T62 ((rd_T59 l0 a1).f2) x8_4).f1)] 62 (0, 0))) := ⟨(by rw [hw]; exact (by (with_reducible repeat (first | refine blk_drewN ?_ _ | refine blk_drew ?_ | refine blk_alloc ?_ _)); refine blk_put (cs := #[.string ((rd_T62 ((rd_T59 l0 a1).f2) x8_4).f0), .int .u8 0]) ?_ 1 _ rfl; (with_reducible repeat (first | refine blk_drewN ?_ _ | refine blk_drew ?_ | refine blk_alloc ?_ _)); refine blk_put (cs := #[.string (⟨#[]⟩ : ByteArray), .int .u8 0]) ?_ 0 _ rfl; (with_reducible repeat (first | refine blk_drewN ?_ _ | refine blk_drew ?_ | refine blk_alloc ?_ _)); exact BK125.out))⟩; have n3_ : Aside0 (Below w.heap.size w w50) := ⟨(by rw [hw]; exact (by repeat (first | (with_reducible first | exact HB.out | apply below_alloc | apply pw_below_drewN | apply below_drew1 | refine below_set ?_ GE117.out | refine below_set ?_ GE125.out) | exact HB.out)))⟩; clear hw; clear HO_7; clear BK117; clear BK125; clear HB; have HO_7 := n0_; have BK117 := n1_; have BK125 := n2_; have HB := n3_; clear n0_ n1_ n2_ n3_; have hcz51_0 : w50.cell? ⟨gb125, 0, none⟩ = some (.string ((rd_T62 ((rd_T59 l0 a1).f2) x8_4).f0)) := (blk_cell BK125.out 0).trans rfl; have hcz51_1 : w50.cell? ⟨gb125, 1, none⟩ = some (.int .u8 ((rd_T62 ((rd_T59 l0 a1).f2) x8_4).f1)) := (blk_cell BK125.out 1).trans rfl; have hfz51_0 := blk_frozen BK125.out 0; have hfz51_1 := blk_frozen BK125.out 1) | (go_at_call 75; (with_reducible refine (provisoref02_IsName.calls k4 ((rd_T62 ((rd_T59 l0 a1).f2) x8_4).f0) true _ A33.out).mono ?_); rintro e w' ⟨rfl, ⟨nd, rfl⟩⟩; (try first | exact ⟨rfl, _, World.drewN_drewN _ _ _⟩ | exact ⟨rfl, _, Eq.trans (World.drewN_drewN _ _ _) (congrArg (World.drewN _) (Nat.add_assoc _ _ _))⟩); obtain ⟨Ao52, co52, eo52⟩ := Kd.R_slice HO_7.out; subst eo52) | (go_at_call 78; (with_reducible refine (provisoref02_has.calls k4 _ _ t121 ((rd_T62 ((rd_T59 l0 a1).f2) x8_4).f0) false _ ?side1 ?side2 A35.out).mono ?_); (case side1 => repeat (first | exact (Kd.R_reads' HO_7.out).2.2 | (with_reducible refine Kd.C_alloc ?_ _) | (with_reducible refine Kd.C_drewN ?_ _) | (with_reducible refine Kd.C_drew ?_))); (case side2 => exact (Kd.R_reads' HO_7.out).2.1); rintro e w' ⟨rfl, ⟨nd, rfl⟩⟩; (try first | exact ⟨rfl, _, World.drewN_drewN _ _ _⟩ | exact ⟨rfl, _, Eq.trans (World.drewN_drewN _ _ _) (congrArg (World.drewN _) (Nat.add_assoc _ _ _))⟩); have hcz53_0 : w50.cell? ⟨gb117, 0, none⟩ = some (.string ((rd_T59 l0 a1).f0)) := (blk_cell BK117.out 0).trans rfl; have hcz53_1 : w50.cell? ⟨gb117, 1, none⟩ = some (.int .i64 ((rd_T59 l0 a1).f1)) := (blk_cell BK117.out 1).trans rfl; have hcz53_2 : w50.cell? ⟨gb117, 2, none⟩ = some (.slice (some ad124) ((rd_T59 l0 a1).f2).length c116_2) := (blk_cell BK117.out 2).trans rfl; have hfz53_0 := blk_frozen BK117.out 0; have hfz53_1 := blk_frozen BK117.out 1; have hfz53_2 := blk_frozen BK117.out 2; have q54 : (x8_4 : Int) ≤ ((((rd_T59 l0 a1).f2).length : Int) : Int) := of_decide_eq_true (by first | (with_reducible assumption) | assumption); obtain ⟨i054, hi054, _, hsz54, _⟩ := info_parts info62; have hroom54 : ((rd_T59 l0 a1).f2).length ≤ c116_2 := HC116_2.out; have hC54 : Kd.C k62 _ (some ad124) ((rd_T59 l0 a1).f2).length ((rd_T59 l0 a1).f2) := HR116_2.out; have hcut54 := cut_to (P := Try.prog) 57 62 .i64 Try.underlying57 hi054 (some ad124) ((rd_T59 l0 a1).f2).length c116_2 x8_4 (of_decide_eq_true (by first | (with_reducible assumption) | assumption)) q54 hroom54; have hr54 := Kd.C_take (m := (x8_4 : Int).toNat) hC54 (by omega); have hy54 : y128.length = (x8_4 : Int).toNat := (by rw [Ny128.out, List.length_take]; omega); rw [← Ny128.out] at hr54; rw [← hy54] at hcut54; have HR131 := Aside0.mk hr54; have HC131 := Aside0.mk (show y128.length ≤ c116_2 from by omega); clear hr54 hC54 hroom54 hi054 hsz54; have KY54 := Aside0.mk hy54; clear hy54; replace q54 := eq_true q54) | (go_at_call 78; (with_reducible refine (provisoref02_has.calls k4 _ _ y128 ((rd_T62 ((rd_T59 l0 a1).f2) x8_4).f0) true _ ?side1 ?side2 A44.out).mono ?_); (case side1 => repeat (first | exact (Kd.C_below HR131.out (by repeat (first | (with_reducible first | exact HB.out | apply below_alloc | apply pw_below_drewN | apply below_drew1 | refine below_set ?_ GE117.out | refine below_set ?_ GE125.out) | exact HB.out))) | (with_reducible refine Kd.C_alloc ?_ _) | (with_reducible refine Kd.C_drewN ?_ _) | (with_reducible refine Kd.C_drew ?_))); (case side2 => exact HC131.out); rintro e w' ⟨rfl, ⟨nd, rfl⟩⟩; (try first | exact ⟨rfl, _, World.drewN_drewN _ _ _⟩ | exact ⟨rfl, _, Eq.trans (World.drewN_drewN _ _ _) (congrArg (World.drewN _) (Nat.add_assoc _ _ _))⟩))))
                                          go_ret
                                          exact ⟨by first | rfl | (simp [errW_none, errW_some] <;> rfl) | (simp [*, errW_none, errW_some] <;> rfl), by repeat (first | (with_reducible first | exact HB.out | apply below_alloc | apply pw_below_drewN | apply below_drew1 | refine below_set ?_ GE117.out | refine below_set ?_ GE125.out) | exact HB.out)⟩
                                        · replace c45 := Bool.eq_false_iff.mpr c45
                                          subst c45
                                          have H1 : ((provisoref02_Stored.f l0 ((rd_T62 ((rd_T59 l0 a1).f2) x8_4).f1)).bind fun t133 => (if t133 = true then (provisoref02_fault.l1 k4 l0 t121 (wrap64 (x8_4 + 1)) ((rd_T59 l0 a1).f0) ((rd_T59 l0 a1).f1) ((rd_T59 l0 a1).f2)) else (some 22))) = some r := by rw [if_neg (show ¬ (false = true) by decide)] at H; exact H
                                          clear H
                                          have H := H1
                                          clear H1
                                          replace H := Option.bind_eq_some_iff.mp H
                                          obtain ⟨t133, A550, H⟩ := H
                                          replace H : (if t133 = true then (provisoref02_fault.l1 k4 l0 t121 (wrap64 (x8_4 + 1)) ((rd_T59 l0 a1).f0) ((rd_T59 l0 a1).f1) ((rd_T59 l0 a1).f2)) else (some 22)) = some r := H
                                          have A55 := Aside0.mk A550
                                          clear A550
                                          by_cases c56 : t133 = true
                                          · subst c56
                                            have H1 : (provisoref02_fault.l1 k4 l0 t121 (wrap64 (x8_4 + 1)) ((rd_T59 l0 a1).f0) ((rd_T59 l0 a1).f1) ((rd_T59 l0 a1).f2)) = some r := by rw [if_pos rfl] at H; exact H
                                            clear H
                                            have H := H1
                                            clear H1
                                            have H' := Aside0.mk H
                                            clear H
                                            have hcz57_0 : wr.cell? ⟨gb117, 0, none⟩ = some (.string ((rd_T59 l0 a1).f0)) := (blk_cell BK117.out 0).trans rfl
                                            have hcz57_1 : wr.cell? ⟨gb117, 1, none⟩ = some (.int .i64 ((rd_T59 l0 a1).f1)) := (blk_cell BK117.out 1).trans rfl
                                            have hcz57_2 : wr.cell? ⟨gb117, 2, none⟩ = some (.slice A116_2 ((rd_T59 l0 a1).f2).length c116_2) := (blk_cell BK117.out 2).trans rfl
                                            have hfz57_0 := blk_frozen BK117.out 0
                                            have hfz57_1 := blk_frozen BK117.out 1
                                            have hfz57_2 := blk_frozen BK117.out 2
                                            have p124 : 0 ≤ (x8_4 : Int) := of_decide_eq_true (by first | (with_reducible assumption) | assumption)
                                            have q124 : x8_4 < (((rd_T59 l0 a1).f2).length : Int) := of_decide_eq_true (by first | (with_reducible assumption) | assumption)
                                            obtain ⟨ad124, e124, hx124_0, hx124_1⟩ := at_T62 HR116_2.out x8_4 p124 q124
                                            cases e124
                                            replace hx124_0 := (HB.out.cell (World.block_lt_of_cell? w _ hx124_0)).trans hx124_0
                                            replace hx124_1 := (HB.out.cell (World.block_lt_of_cell? w _ hx124_1)).trans hx124_1
                                            replace p124 := eq_true p124
                                            replace q124 := eq_true q124
                                            go_wp2_with (first | ((with_reducible refine gate_dst (N := 9) rfl ?_); refine box_event ?hg (N := 9) ?hd (cs := #[.string (⟨#[]⟩ : ByteArray), .int .u8 0]) (t := 62) ?hr ?_; (case hd => rfl); (case hg => rfl); (case hr => first | (go_simp; done) | (go_simp; rfl)); intro gb125 hg w58 hbox hb; have n0_ := Aside0.mk (Kd.R_below (Kd.R_elderB (by (with_reducible repeat (first | apply Kd.R_alloc | apply Kd.R_drewN | apply Kd.R_drew)); exact HO_7.out) gb125 (Nat.le_of_eq hg.symm)) hb); have n1_ := Aside0.mk (blk_below (g := gb117) (o := .cells #[.string ((rd_T59 l0 a1).f0), .int .i64 ((rd_T59 l0 a1).f1), .slice (some ad124) ((rd_T59 l0 a1).f2).length c116_2] 59 (0, 0)) (by (with_reducible repeat (first | refine blk_drewN ?_ _ | refine blk_drew ?_ | refine blk_alloc ?_ _)); exact BK117.out) hb); have n2_ := Aside0.mk (below_step (by repeat (first | (with_reducible first | exact HB.out | apply below_alloc | apply pw_below_drewN | apply below_drew1 | refine below_set ?_ GE117.out) | exact HB.out)) hb); have n3_ := Aside0.mk (hbox); have n4_ := Aside0.mk ((by rw [hg]; exact (below_size (by repeat (first | (with_reducible first | exact HB.out | apply below_alloc | apply pw_below_drewN | apply below_drew1 | refine below_set ?_ GE117.out) | exact HB.out))) : w.heap.size ≤ gb125)); have n5_ := Aside0.mk ((by rw [hg]; exact (below_size (by repeat (first | (with_reducible first | exact HB.out | apply below_alloc | apply pw_below_drewN | apply below_drew1 | refine below_set ?_ GE117.out) | exact HB.out))) : w.heap.size ≤ gb125)); have n6_ := Aside0.mk ((by rw [hg]; exact Nat.ne_of_lt (blk_lt (g := gb117) (o := .cells #[.string ((rd_T59 l0 a1).f0), .int .i64 ((rd_T59 l0 a1).f1), .slice (some ad124) ((rd_T59 l0 a1).f2).length c116_2] 59 (0, 0)) (by (with_reducible repeat (first | refine blk_drewN ?_ _ | refine blk_drew ?_ | refine blk_alloc ?_ _)); exact BK117.out)) : gb117 ≠ gb125)); have n7_ := Aside0.mk ((by rw [hg]; exact Nat.ne_of_gt (blk_lt (g := gb117) (o := .cells #[.string ((rd_T59 l0 a1).f0), .int .i64 ((rd_T59 l0 a1).f1), .slice (some ad124) ((rd_T59 l0 a1).f2).length c116_2] 59 (0, 0)) (by (with_reducible repeat (first | refine blk_drewN ?_ _ | refine blk_drew ?_ | refine blk_alloc ?_ _)); exact BK117.out)) : gb125 ≠ gb117)); clear HO_7; clear BK117; clear HB; have HO_7 := n0_; have BK117 := n1_; have HB := n2_; have BK125 := n3_; have GW125 := n4_; have GE125 := n5_; have NB117_125 := n6_; have NB125_117 := n7_; clear n0_ n1_ n2_ n3_ n4_ n5_ n6_ n7_; clear hb hbox hg; have hnb59 := NB125_117.out; have hnc59 := NB117_125.out; have hcz60_0 : w58.cell? ⟨gb125, 0, none⟩ = some (.string (⟨#[]⟩ : ByteArray)) := (blk_cell BK125.out 0).trans rfl; have hcz60_1 : w58.cell? ⟨gb125, 1, none⟩ = some (.int .u8 0) := (blk_cell BK125.out 1).trans rfl; have hfz60_0 := blk_frozen BK125.out 0; have hfz60_1 := blk_frozen BK125.out 1) | ((with_reducible refine gate_store (t := 62) (p := 9) rfl ?_); (try (rw [drewN_self w58]; generalize hq_ : World.drewN w58 _ = w58; have n0_ := Aside0.mk (Kd.R_at hq_ HO_7.out); have n1_ := Aside0.mk (blk_at hq_ BK117.out); have n2_ := Aside0.mk (blk_at hq_ BK125.out); have n3_ := Aside0.mk (below_at hq_ HB.out); clear hq_ HO_7 BK117 BK125 HB; have HO_7 := n0_; have BK117 := n1_; have BK125 := n2_; have HB := n3_; clear n0_ n1_ n2_ n3_)); refine store_event (t := 62) (p := 9) (v := ?vo_w61) (w1 := ((w58.setCell ⟨gb125, 0, none⟩ (.string ((rd_T62 ((rd_T59 l0 a1).f2) x8_4).f0))).setCell ⟨gb125, 1, none⟩ (.int .u8 ((rd_T62 ((rd_T59 l0 a1).f2) x8_4).f1)))) ?hg ?ho ?hn ?hr ?_; (case ho => rfl); (case hg => rfl); (case hn => rfl); (case hr => first | (go_simp; done) | (go_simp; rfl)); intro w61 hw; have n0_ : Aside0 (Kd.R k62 62 w61 w.heap.size (fun k_ => k_ ≠ gb125) v122 t121) := ⟨(by rw [hw]; exact (by (with_reducible repeat (first | apply Kd.R_alloc | apply Kd.R_drewN | apply Kd.R_drew)); exact Kd.R_mono (Kd.R_far (p := ⟨gb125, 1, none⟩) (Kd.R_far (p := ⟨gb125, 0, none⟩) (Kd.R_mono HO_7.out (fun k_ hk => (⟨hk, hk.2⟩ : _ ∧ k_ ≠ gb125))) (fun _ hk => hk.2) (.string ((rd_T62 ((rd_T59 l0 a1).f2) x8_4).f0))) (fun _ hk => hk.2) (.int .u8 ((rd_T62 ((rd_T59 l0 a1).f2) x8_4).f1))) (fun _ hk => hk.1.2)))⟩; have n1_ : Aside0 (w61.heap[gb117]? = some (.cells #[.string ((rd_T59 l0 a1).f0), .int .i64 ((rd_T59 l0 a1).f1), .slice (some ad124) ((rd_T59 l0 a1).f2).length c116_2] 59 (0, 0))) := ⟨(by rw [hw]; exact (by (with_reducible repeat (first | refine blk_drewN ?_ _ | refine blk_drew ?_ | refine blk_alloc ?_ _)); refine blk_far ?_ NB117_125.out _; (with_reducible repeat (first | refine blk_drewN ?_ _ | refine blk_drew ?_ | refine blk_alloc ?_ _)); refine blk_far ?_ NB117_125.out _; (with_reducible repeat (first | refine blk_drewN ?_ _ | refine blk_drew ?_ | refine blk_alloc ?_ _)); exact BK117.out))⟩; have n2_ : Aside0 (w61.heap[gb125]? = some (.cells #[.string ((rd_T62 ((rd_T59 l0 a1).f2) x8_4).f0), .int .u8 ((rd_T62 ((rd_T59 l0 a1).f2) x8_4).f1)] 62 (0, 0))) := ⟨(by rw [hw]; exact (by (with_reducible repeat (first | refine blk_drewN ?_ _ | refine blk_drew ?_ | refine blk_alloc ?_ _)); refine blk_put (cs := #[.string ((rd_T62 ((rd_T59 l0 a1).f2) x8_4).f0), .int .u8 0]) ?_ 1 _ rfl; (with_reducible repeat (first | refine blk_drewN ?_ _ | refine blk_drew ?_ | refine blk_alloc ?_ _)); refine blk_put (cs := #[.string (⟨#[]⟩ : ByteArray), .int .u8 0]) ?_ 0 _ rfl; (with_reducible repeat (first | refine blk_drewN ?_ _ | refine blk_drew ?_ | refine blk_alloc ?_ _)); exact BK125.out))⟩; have n3_ : Aside0 (Below w.heap.size w w61) := ⟨(by rw [hw]; exact (by repeat (first | (with_reducible first | exact HB.out | apply below_alloc | apply pw_below_drewN | apply below_drew1 | refine below_set ?_ GE117.out | refine below_set ?_ GE125.out) | exact HB.out)))⟩; clear hw; clear HO_7; clear BK117; clear BK125; clear HB; have HO_7 := n0_; have BK117 := n1_; have BK125 := n2_; have HB := n3_; clear n0_ n1_ n2_ n3_; have hcz62_0 : w61.cell? ⟨gb125, 0, none⟩ = some (.string ((rd_T62 ((rd_T59 l0 a1).f2) x8_4).f0)) := (blk_cell BK125.out 0).trans rfl; have hcz62_1 : w61.cell? ⟨gb125, 1, none⟩ = some (.int .u8 ((rd_T62 ((rd_T59 l0 a1).f2) x8_4).f1)) := (blk_cell BK125.out 1).trans rfl; have hfz62_0 := blk_frozen BK125.out 0; have hfz62_1 := blk_frozen BK125.out 1) | (go_at_call 75; (with_reducible refine (provisoref02_IsName.calls k4 ((rd_T62 ((rd_T59 l0 a1).f2) x8_4).f0) true _ A33.out).mono ?_); rintro e w' ⟨rfl, ⟨nd, rfl⟩⟩; (try first | exact ⟨rfl, _, World.drewN_drewN _ _ _⟩ | exact ⟨rfl, _, Eq.trans (World.drewN_drewN _ _ _) (congrArg (World.drewN _) (Nat.add_assoc _ _ _))⟩); obtain ⟨Ao63, co63, eo63⟩ := Kd.R_slice HO_7.out; subst eo63) | (go_at_call 78; (with_reducible refine (provisoref02_has.calls k4 _ _ t121 ((rd_T62 ((rd_T59 l0 a1).f2) x8_4).f0) false _ ?side1 ?side2 A35.out).mono ?_); (case side1 => repeat (first | exact (Kd.R_reads' HO_7.out).2.2 | (with_reducible refine Kd.C_alloc ?_ _) | (with_reducible refine Kd.C_drewN ?_ _) | (with_reducible refine Kd.C_drew ?_))); (case side2 => exact (Kd.R_reads' HO_7.out).2.1); rintro e w' ⟨rfl, ⟨nd, rfl⟩⟩; (try first | exact ⟨rfl, _, World.drewN_drewN _ _ _⟩ | exact ⟨rfl, _, Eq.trans (World.drewN_drewN _ _ _) (congrArg (World.drewN _) (Nat.add_assoc _ _ _))⟩); have hcz64_0 : w61.cell? ⟨gb117, 0, none⟩ = some (.string ((rd_T59 l0 a1).f0)) := (blk_cell BK117.out 0).trans rfl; have hcz64_1 : w61.cell? ⟨gb117, 1, none⟩ = some (.int .i64 ((rd_T59 l0 a1).f1)) := (blk_cell BK117.out 1).trans rfl; have hcz64_2 : w61.cell? ⟨gb117, 2, none⟩ = some (.slice (some ad124) ((rd_T59 l0 a1).f2).length c116_2) := (blk_cell BK117.out 2).trans rfl; have hfz64_0 := blk_frozen BK117.out 0; have hfz64_1 := blk_frozen BK117.out 1; have hfz64_2 := blk_frozen BK117.out 2; have q65 : (x8_4 : Int) ≤ ((((rd_T59 l0 a1).f2).length : Int) : Int) := of_decide_eq_true (by first | (with_reducible assumption) | assumption); obtain ⟨i065, hi065, _, hsz65, _⟩ := info_parts info62; have hroom65 : ((rd_T59 l0 a1).f2).length ≤ c116_2 := HC116_2.out; have hC65 : Kd.C k62 _ (some ad124) ((rd_T59 l0 a1).f2).length ((rd_T59 l0 a1).f2) := HR116_2.out; have hcut65 := cut_to (P := Try.prog) 57 62 .i64 Try.underlying57 hi065 (some ad124) ((rd_T59 l0 a1).f2).length c116_2 x8_4 (of_decide_eq_true (by first | (with_reducible assumption) | assumption)) q65 hroom65; have hr65 := Kd.C_take (m := (x8_4 : Int).toNat) hC65 (by omega); have hy65 : y128.length = (x8_4 : Int).toNat := (by rw [Ny128.out, List.length_take]; omega); rw [← Ny128.out] at hr65; rw [← hy65] at hcut65; have HR131 := Aside0.mk hr65; have HC131 := Aside0.mk (show y128.length ≤ c116_2 from by omega); clear hr65 hC65 hroom65 hi065 hsz65; have KY65 := Aside0.mk hy65; clear hy65; replace q65 := eq_true q65) | (go_at_call 78; (with_reducible refine (provisoref02_has.calls k4 _ _ y128 ((rd_T62 ((rd_T59 l0 a1).f2) x8_4).f0) false _ ?side1 ?side2 A44.out).mono ?_); (case side1 => repeat (first | exact (Kd.C_below HR131.out (by repeat (first | (with_reducible first | exact HB.out | apply below_alloc | apply pw_below_drewN | apply below_drew1 | refine below_set ?_ GE117.out | refine below_set ?_ GE125.out) | exact HB.out))) | (with_reducible refine Kd.C_alloc ?_ _) | (with_reducible refine Kd.C_drewN ?_ _) | (with_reducible refine Kd.C_drew ?_))); (case side2 => exact HC131.out); rintro e w' ⟨rfl, ⟨nd, rfl⟩⟩; (try first | exact ⟨rfl, _, World.drewN_drewN _ _ _⟩ | exact ⟨rfl, _, Eq.trans (World.drewN_drewN _ _ _) (congrArg (World.drewN _) (Nat.add_assoc _ _ _))⟩)) | (go_at_call 79; (with_reducible refine (provisoref02_Stored.calls _ _ l0 ((rd_T62 ((rd_T59 l0 a1).f2) x8_4).f1) true _ ?side1 ?side2 A55.out).mono ?_); (case side1 => repeat (first | exact (Kd.C_below HR0.out (by repeat (first | (with_reducible first | exact HB.out | apply below_alloc | apply pw_below_drewN | apply below_drew1 | refine below_set ?_ GE117.out | refine below_set ?_ GE125.out) | exact HB.out))) | (with_reducible refine Kd.C_alloc ?_ _) | (with_reducible refine Kd.C_drewN ?_ _) | (with_reducible refine Kd.C_drew ?_))); (case side2 => exact HC0.out); rintro e w' ⟨rfl, ⟨nd, rfl⟩⟩; (try first | exact ⟨rfl, _, World.drewN_drewN _ _ _⟩ | exact ⟨rfl, _, Eq.trans (World.drewN_drewN _ _ _) (congrArg (World.drewN _) (Nat.add_assoc _ _ _))⟩)))
                                            repeat (go_quiet (first | ((with_reducible refine gate_dst (N := 9) rfl ?_); refine box_event ?hg (N := 9) ?hd (cs := #[.string (⟨#[]⟩ : ByteArray), .int .u8 0]) (t := 62) ?hr ?_; (case hd => rfl); (case hg => rfl); (case hr => first | (go_simp; done) | (go_simp; rfl)); intro gb125 hg w58 hbox hb; have n0_ := Aside0.mk (Kd.R_below (Kd.R_elderB (by (with_reducible repeat (first | apply Kd.R_alloc | apply Kd.R_drewN | apply Kd.R_drew)); exact HO_7.out) gb125 (Nat.le_of_eq hg.symm)) hb); have n1_ := Aside0.mk (blk_below (g := gb117) (o := .cells #[.string ((rd_T59 l0 a1).f0), .int .i64 ((rd_T59 l0 a1).f1), .slice (some ad124) ((rd_T59 l0 a1).f2).length c116_2] 59 (0, 0)) (by (with_reducible repeat (first | refine blk_drewN ?_ _ | refine blk_drew ?_ | refine blk_alloc ?_ _)); exact BK117.out) hb); have n2_ := Aside0.mk (below_step (by repeat (first | (with_reducible first | exact HB.out | apply below_alloc | apply pw_below_drewN | apply below_drew1 | refine below_set ?_ GE117.out) | exact HB.out)) hb); have n3_ := Aside0.mk (hbox); have n4_ := Aside0.mk ((by rw [hg]; exact (below_size (by repeat (first | (with_reducible first | exact HB.out | apply below_alloc | apply pw_below_drewN | apply below_drew1 | refine below_set ?_ GE117.out) | exact HB.out))) : w.heap.size ≤ gb125)); have n5_ := Aside0.mk ((by rw [hg]; exact (below_size (by repeat (first | (with_reducible first | exact HB.out | apply below_alloc | apply pw_below_drewN | apply below_drew1 | refine below_set ?_ GE117.out) | exact HB.out))) : w.heap.size ≤ gb125)); have n6_ := Aside0.mk ((by rw [hg]; exact Nat.ne_of_lt (blk_lt (g := gb117) (o := .cells #[.string ((rd_T59 l0 a1).f0), .int .i64 ((rd_T59 l0 a1).f1), .slice (some ad124) ((rd_T59 l0 a1).f2).length c116_2] 59 (0, 0)) (by (with_reducible repeat (first | refine blk_drewN ?_ _ | refine blk_drew ?_ | refine blk_alloc ?_ _)); exact BK117.out)) : gb117 ≠ gb125)); have n7_ := Aside0.mk ((by rw [hg]; exact Nat.ne_of_gt (blk_lt (g := gb117) (o := .cells #[.string ((rd_T59 l0 a1).f0), .int .i64 ((rd_T59 l0 a1).f1), .slice (some ad124) ((rd_T59 l0 a1).f2).length c116_2] 59 (0, 0)) (by (with_reducible repeat (first | refine blk_drewN ?_ _ | refine blk_drew ?_ | refine blk_alloc ?_ _)); exact BK117.out)) : gb125 ≠ gb117)); clear HO_7; clear BK117; clear HB; have HO_7 := n0_; have BK117 := n1_; have HB := n2_; have BK125 := n3_; have GW125 := n4_; have GE125 := n5_; have NB117_125 := n6_; have NB125_117 := n7_; clear n0_ n1_ n2_ n3_ n4_ n5_ n6_ n7_; clear hb hbox hg; have hnb59 := NB125_117.out; have hnc59 := NB117_125.out; have hcz60_0 : w58.cell? ⟨gb125, 0, none⟩ = some (.string (⟨#[]⟩ : ByteArray)) := (blk_cell BK125.out 0).trans rfl; have hcz60_1 : w58.cell? ⟨gb125, 1, none⟩ = some (.int .u8 0) := (blk_cell BK125.out 1).trans rfl; have hfz60_0 := blk_frozen BK125.out 0; have hfz60_1 := blk_frozen BK125.out 1) | ((with_reducible refine gate_store (t := 62) (p := 9) rfl ?_); (try (rw [drewN_self w58]; generalize hq_ : World.drewN w58 _ = w58; have n0_ := Aside0.mk (Kd.R_at hq_ HO_7.out); have n1_ := Aside0.mk (blk_at hq_ BK117.out); have n2_ := Aside0.mk (blk_at hq_ BK125.out); have n3_ := Aside0.mk (below_at hq_ HB.out); clear hq_ HO_7 BK117 BK125 HB; have HO_7 := n0_; have BK117 := n1_; have BK125 := n2_; have HB := n3_; clear n0_ n1_ n2_ n3_)); refine store_event (t := 62) (p := 9) (v := ?vo_w61) (w1 := ((w58.setCell ⟨gb125, 0, none⟩ (.string ((rd_T62 ((rd_T59 l0 a1).f2) x8_4).f0))).setCell ⟨gb125, 1, none⟩ (.int .u8 ((rd_T62 ((rd_T59 l0 a1).f2) x8_4).f1)))) ?hg ?ho ?hn ?hr ?_; (case ho => rfl); (case hg => rfl); (case hn => rfl); (case hr => first | (go_simp; done) | (go_simp; rfl)); intro w61 hw; have n0_ : Aside0 (Kd.R k62 62 w61 w.heap.size (fun k_ => k_ ≠ gb125) v122 t121) := ⟨(by rw [hw]; exact (by (with_reducible repeat (first | apply Kd.R_alloc | apply Kd.R_drewN | apply Kd.R_drew)); exact Kd.R_mono (Kd.R_far (p := ⟨gb125, 1, none⟩) (Kd.R_far (p := ⟨gb125, 0, none⟩) (Kd.R_mono HO_7.out (fun k_ hk => (⟨hk, hk.2⟩ : _ ∧ k_ ≠ gb125))) (fun _ hk => hk.2) (.string ((rd_T62 ((rd_T59 l0 a1).f2) x8_4).f0))) (fun _ hk => hk.2) (.int .u8 ((rd_T62 ((rd_T59 l0 a1).f2) x8_4).f1))) (fun _ hk => hk.1.2)))⟩; have n1_ : Aside0 (w61.heap[gb117]? = some (.cells #[.string ((rd_T59 l0 a1).f0), .int .i64 ((rd_T59 l0 a1).f1), .slice (some ad124) ((rd_T59 l0 a1).f2).length c116_2] 59 (0, 0))) := ⟨(by rw [hw]; exact (by (with_reducible repeat (first | refine blk_drewN ?_ _ | refine blk_drew ?_ | refine blk_alloc ?_ _)); refine blk_far ?_ NB117_125.out _; (with_reducible repeat (first | refine blk_drewN ?_ _ | refine blk_drew ?_ | refine blk_alloc ?_ _)); refine blk_far ?_ NB117_125.out _; (with_reducible repeat (first | refine blk_drewN ?_ _ | refine blk_drew ?_ | refine blk_alloc ?_ _)); exact BK117.out))⟩; have n2_ : Aside0 (w61.heap[gb125]? = some (.cells #[.string ((rd_T62 ((rd_T59 l0 a1).f2) x8_4).f0), .int .u8 ((rd_T62 ((rd_T59 l0 a1).f2) x8_4).f1)] 62 (0, 0))) := ⟨(by rw [hw]; exact (by (with_reducible repeat (first | refine blk_drewN ?_ _ | refine blk_drew ?_ | refine blk_alloc ?_ _)); refine blk_put (cs := #[.string ((rd_T62 ((rd_T59 l0 a1).f2) x8_4).f0), .int .u8 0]) ?_ 1 _ rfl; (with_reducible repeat (first | refine blk_drewN ?_ _ | refine blk_drew ?_ | refine blk_alloc ?_ _)); refine blk_put (cs := #[.string (⟨#[]⟩ : ByteArray), .int .u8 0]) ?_ 0 _ rfl; (with_reducible repeat (first | refine blk_drewN ?_ _ | refine blk_drew ?_ | refine blk_alloc ?_ _)); exact BK125.out))⟩; have n3_ : Aside0 (Below w.heap.size w w61) := ⟨(by rw [hw]; exact (by repeat (first | (with_reducible first | exact HB.out | apply below_alloc | apply pw_below_drewN | apply below_drew1 | refine below_set ?_ GE117.out | refine below_set ?_ GE125.out) | exact HB.out)))⟩; clear hw; clear HO_7; clear BK117; clear BK125; clear HB; have HO_7 := n0_; have BK117 := n1_; have BK125 := n2_; have HB := n3_; clear n0_ n1_ n2_ n3_; have hcz62_0 : w61.cell? ⟨gb125, 0, none⟩ = some (.string ((rd_T62 ((rd_T59 l0 a1).f2) x8_4).f0)) := (blk_cell BK125.out 0).trans rfl; have hcz62_1 : w61.cell? ⟨gb125, 1, none⟩ = some (.int .u8 ((rd_T62 ((rd_T59 l0 a1).f2) x8_4).f1)) := (blk_cell BK125.out 1).trans rfl; have hfz62_0 := blk_frozen BK125.out 0; have hfz62_1 := blk_frozen BK125.out 1) | (go_at_call 75; (with_reducible refine (provisoref02_IsName.calls k4 ((rd_T62 ((rd_T59 l0 a1).f2) x8_4).f0) true _ A33.out).mono ?_); rintro e w' ⟨rfl, ⟨nd, rfl⟩⟩; (try first | exact ⟨rfl, _, World.drewN_drewN _ _ _⟩ | exact ⟨rfl, _, Eq.trans (World.drewN_drewN _ _ _) (congrArg (World.drewN _) (Nat.add_assoc _ _ _))⟩); obtain ⟨Ao63, co63, eo63⟩ := Kd.R_slice HO_7.out; subst eo63) | (go_at_call 78; (with_reducible refine (provisoref02_has.calls k4 _ _ t121 ((rd_T62 ((rd_T59 l0 a1).f2) x8_4).f0) false _ ?side1 ?side2 A35.out).mono ?_); (case side1 => repeat (first | exact (Kd.R_reads' HO_7.out).2.2 | (with_reducible refine Kd.C_alloc ?_ _) | (with_reducible refine Kd.C_drewN ?_ _) | (with_reducible refine Kd.C_drew ?_))); (case side2 => exact (Kd.R_reads' HO_7.out).2.1); rintro e w' ⟨rfl, ⟨nd, rfl⟩⟩; (try first | exact ⟨rfl, _, World.drewN_drewN _ _ _⟩ | exact ⟨rfl, _, Eq.trans (World.drewN_drewN _ _ _) (congrArg (World.drewN _) (Nat.add_assoc _ _ _))⟩); have hcz64_0 : w61.cell? ⟨gb117, 0, none⟩ = some (.string ((rd_T59 l0 a1).f0)) := (blk_cell BK117.out 0).trans rfl; have hcz64_1 : w61.cell? ⟨gb117, 1, none⟩ = some (.int .i64 ((rd_T59 l0 a1).f1)) := (blk_cell BK117.out 1).trans rfl; have hcz64_2 : w61.cell? ⟨gb117, 2, none⟩ = some (.slice (some ad124) ((rd_T59 l0 a1).f2).length c116_2) := (blk_cell BK117.out 2).trans rfl; have hfz64_0 := blk_frozen BK117.out 0; have hfz64_1 := blk_frozen BK117.out 1; have hfz64_2 := blk_frozen BK117.out 2; have q65 : (x8_4 : Int) ≤ ((((rd_T59 l0 a1).f2).length : Int) : Int) := of_decide_eq_true (by first | (with_reducible assumption) | assumption); obtain ⟨i065, hi065, _, hsz65, _⟩ := info_parts info62; have hroom65 : ((rd_T59 l0 a1).f2).length ≤ c116_2 := HC116_2.out; have hC65 : Kd.C k62 _ (some ad124) ((rd_T59 l0 a1).f2).length ((rd_T59 l0 a1).f2) := HR116_2.out; have hcut65 := cut_to (P := Try.prog) 57 62 .i64 Try.underlying57 hi065 (some ad124) ((rd_T59 l0 a1).f2).length c116_2 x8_4 (of_decide_eq_true (by first | (with_reducible assumption) | assumption)) q65 hroom65; have hr65 := Kd.C_take (m := (x8_4 : Int).toNat) hC65 (by omega); have hy65 : y128.length = (x8_4 : Int).toNat := (by rw [Ny128.out, List.length_take]; omega); rw [← Ny128.out] at hr65; rw [← hy65] at hcut65; have HR131 := Aside0.mk hr65; have HC131 := Aside0.mk (show y128.length ≤ c116_2 from by omega); clear hr65 hC65 hroom65 hi065 hsz65; have KY65 := Aside0.mk hy65; clear hy65; replace q65 := eq_true q65) | (go_at_call 78; (with_reducible refine (provisoref02_has.calls k4 _ _ y128 ((rd_T62 ((rd_T59 l0 a1).f2) x8_4).f0) false _ ?side1 ?side2 A44.out).mono ?_); (case side1 => repeat (first | exact (Kd.C_below HR131.out (by repeat (first | (with_reducible first | exact HB.out | apply below_alloc | apply pw_below_drewN | apply below_drew1 | refine below_set ?_ GE117.out | refine below_set ?_ GE125.out) | exact HB.out))) | (with_reducible refine Kd.C_alloc ?_ _) | (with_reducible refine Kd.C_drewN ?_ _) | (with_reducible refine Kd.C_drew ?_))); (case side2 => exact HC131.out); rintro e w' ⟨rfl, ⟨nd, rfl⟩⟩; (try first | exact ⟨rfl, _, World.drewN_drewN _ _ _⟩ | exact ⟨rfl, _, Eq.trans (World.drewN_drewN _ _ _) (congrArg (World.drewN _) (Nat.add_assoc _ _ _))⟩)) | (go_at_call 79; (with_reducible refine (provisoref02_Stored.calls _ _ l0 ((rd_T62 ((rd_T59 l0 a1).f2) x8_4).f1) true _ ?side1 ?side2 A55.out).mono ?_); (case side1 => repeat (first | exact (Kd.C_below HR0.out (by repeat (first | (with_reducible first | exact HB.out | apply below_alloc | apply pw_below_drewN | apply below_drew1 | refine below_set ?_ GE117.out | refine below_set ?_ GE125.out) | exact HB.out))) | (with_reducible refine Kd.C_alloc ?_ _) | (with_reducible refine Kd.C_drewN ?_ _) | (with_reducible refine Kd.C_drew ?_))); (case side2 => exact HC0.out); rintro e w' ⟨rfl, ⟨nd, rfl⟩⟩; (try first | exact ⟨rfl, _, World.drewN_drewN _ _ _⟩ | exact ⟨rfl, _, Eq.trans (World.drewN_drewN _ _ _) (congrArg (World.drewN _) (Nat.add_assoc _ _ _))⟩))); try go_wp2_with (first | ((with_reducible refine gate_dst (N := 9) rfl ?_); refine box_event ?hg (N := 9) ?hd (cs := #[.string (⟨#[]⟩ : ByteArray), .int .u8 0]) (t := 62) ?hr ?_; (case hd => rfl); (case hg => rfl); (case hr => first | (go_simp; done) | (go_simp; rfl)); intro gb125 hg w58 hbox hb; have n0_ := Aside0.mk (Kd.R_below (Kd.R_elderB (by (with_reducible repeat (first | apply Kd.R_alloc | apply Kd.R_drewN | apply Kd.R_drew)); exact HO_7.out) gb125 (Nat.le_of_eq hg.symm)) hb); have n1_ := Aside0.mk (blk_below (g := gb117) (o := .cells #[.string ((rd_T59 l0 a1).f0), .int .i64 ((rd_T59 l0 a1).f1), .slice (some ad124) ((rd_T59 l0 a1).f2).length c116_2] 59 (0, 0)) (by (with_reducible repeat (first | refine blk_drewN ?_ _ | refine blk_drew ?_ | refine blk_alloc ?_ _)); exact BK117.out) hb); have n2_ := Aside0.mk (below_step (by repeat (first | (with_reducible first | exact HB.out | apply below_alloc | apply pw_below_drewN | apply below_drew1 | refine below_set ?_ GE117.out) | exact HB.out)) hb); have n3_ := Aside0.mk (hbox); have n4_ := Aside0.mk ((by rw [hg]; exact (below_size (by repeat (first | (with_reducible first | exact HB.out | apply below_alloc | apply pw_below_drewN | apply below_drew1 | refine below_set ?_ GE117.out) | exact HB.out))) : w.heap.size ≤ gb125)); have n5_ := Aside0.mk ((by rw [hg]; exact (below_size (by repeat (first | (with_reducible first | exact HB.out | apply below_alloc | apply pw_below_drewN | apply below_drew1 | refine below_set ?_ GE117.out) | exact HB.out))) : w.heap.size ≤ gb125)); have n6_ := Aside0.mk ((by rw [hg]; exact Nat.ne_of_lt (blk_lt (g := gb117) (o := .cells #[.string ((rd_T59 l0 a1).f0), .int .i64 ((rd_T59 l0 a1).f1), .slice (some ad124) ((rd_T59 l0 a1).f2).length c116_2] 59 (0, 0)) (by (with_reducible repeat (first | refine blk_drewN ?_ _ | refine blk_drew ?_ | refine blk_alloc ?_ _)); exact BK117.out)) : gb117 ≠ gb125)); have n7_ := Aside0.mk ((by rw [hg]; exact Nat.ne_of_gt (blk_lt (g := gb117) (o := .cells #[.string ((rd_T59 l0 a1).f0), .int .i64 ((rd_T59 l0 a1).f1), .slice (some ad124) ((rd_T59 l0 a1).f2).length c116_2] 59 (0, 0)) (by (with_reducible repeat (first | refine blk_drewN ?_ _ | refine blk_drew ?_ | refine blk_alloc ?_ _)); exact BK117.out)) : gb125 ≠ gb117)); clear HO_7; clear BK117; clear HB; have HO_7 := n0_; have BK117 := n1_; have HB := n2_; have BK125 := n3_; have GW125 := n4_; have GE125 := n5_; have NB117_125 := n6_; have NB125_117 := n7_; clear n0_ n1_ n2_ n3_ n4_ n5_ n6_ n7_; clear hb hbox hg; have hnb59 := NB125_117.out; have hnc59 := NB117_125.out; have hcz60_0 : w58.cell? ⟨gb125, 0, none⟩ = some (.string (⟨#[]⟩ : ByteArray)) := (blk_cell BK125.out 0).trans rfl; have hcz60_1 : w58.cell? ⟨gb125, 1, none⟩ = some (.int .u8 0) := (blk_cell BK125.out 1).trans rfl; have hfz60_0 := blk_frozen BK125.out 0; have hfz60_1 := blk_frozen BK125.out 1) | ((with_reducible refine gate_store (t := 62) (p := 9) rfl ?_); (try (rw [drewN_self w58]; generalize hq_ : World.drewN w58 _ = w58; have n0_ := Aside0.mk (Kd.R_at hq_ HO_7.out); have n1_ := Aside0.mk (blk_at hq_ BK117.out); have n2_ := Aside0.mk (blk_at hq_ BK125.out); have n3_ := Aside0.mk (below_at hq_ HB.out); clear hq_ HO_7 BK117 BK125 HB; have HO_7 := n0_; have BK117 := n1_; have BK125 := n2_; have HB := n3_; clear n0_ n1_ n2_ n3_)); refine store_event (t := 62) (p := 9) (v := ?vo_w61) (w1 := ((w58.setCell ⟨gb125, 0, none⟩ (.string ((rd_T62 ((rd_T59 l0 a1).f2) x8_4).f0))).setCell ⟨gb125, 1, none⟩ (.int .u8 ((rd_T62 ((rd_T59 l0 a1).f2) x8_4).f1)))) ?hg ?ho ?hn ?hr ?_; (case ho => rfl); (case hg => rfl); (case hn => rfl); (case hr => first | (go_simp; done) | (go_simp; rfl)); intro w61 hw; have n0_ : Aside0 (Kd.R k62 62 w61 w.heap.size (fun k_ => k_ ≠ gb125) v122 t121) := ⟨(by rw [hw]; exact (by (with_reducible repeat (first | apply Kd.R_alloc | apply Kd.R_drewN | apply Kd.R_drew)); exact Kd.R_mono (Kd.R_far (p := ⟨gb125, 1, none⟩) (Kd.R_far (p := ⟨gb125, 0, none⟩) (Kd.R_mono HO_7.out (fun k_ hk => (⟨hk, hk.2⟩ : _ ∧ k_ ≠ gb125))) (fun _ hk => hk.2) (.string ((rd_T62 ((rd_T59 l0 a1).f2) x8_4).f0))) (fun _ hk => hk.2) (.int .u8 ((rd_T62 ((rd_T59 l0 a1).f2) x8_4).f1))) (fun _ hk => hk.1.2)))⟩; have n1_ : Aside0 (w61.heap[gb117]? = some (.cells #[.string ((rd_T59 l0 a1).f0), .int .i64 ((rd_T59 l0 a1).f1), .slice (some ad124) ((rd_T59 l0 a1).f2).length c116_2] 59 (0, 0))) := ⟨(by rw [hw]; exact (by (with_reducible repeat (first | refine blk_drewN ?_ _ | refine blk_drew ?_ | refine blk_alloc ?_ _)); refine blk_far ?_ NB117_125.out _; (with_reducible repeat (first | refine blk_drewN ?_ _ | refine blk_drew ?_ | refine blk_alloc ?_ _)); refine blk_far ?_ NB117_125.out _; (with_reducible repeat (first | refine blk_drewN ?_ _ | refine blk_drew ?_ | refine blk_alloc ?_ _)); exact BK117.out))⟩; have n2_ : Aside0 (w61.heap[gb125]? = some (.cells #[.string ((rd_T62 ((rd_T59 l0 a1).f2) x8_4).f0), .int .u8 ((rd_T62 ((rd_T59 l0 a1).f2) x8_4).f1)] 62 (0, 0))) := ⟨(by rw [hw]; exact (by (with_reducible repeat (first | refine blk_drewN ?_ _ | refine blk_drew ?_ | refine blk_alloc ?_ _)); refine blk_put (cs := #[.string ((rd_T62 ((rd_T59 l0 a1).f2) x8_4).f0), .int .u8 0]) ?_ 1 _ rfl; (with_reducible repeat (first | refine blk_drewN ?_ _ | refine blk_drew ?_ | refine blk_alloc ?_ _)); refine blk_put (cs := #[.string (⟨#[]⟩ : ByteArray), .int .u8 0]) ?_ 0 _ rfl; (with_reducible repeat (first | refine blk_drewN ?_ _ | refine blk_drew ?_ | refine blk_alloc ?_ _)); exact BK125.out))⟩; have n3_ : Aside0 (Below w.heap.size w w61) := ⟨(by rw [hw]; exact (by repeat (first | (with_reducible first | exact HB.out | apply below_alloc | apply pw_below_drewN | apply below_drew1 | refine below_set ?_ GE117.out | refine below_set ?_ GE125.out) | exact HB.out)))⟩; clear hw; clear HO_7; clear BK117; clear BK125; clear HB; have HO_7 := n0_; have BK117 := n1_; have BK125 := n2_; have HB := n3_; clear n0_ n1_ n2_ n3_; have hcz62_0 : w61.cell? ⟨gb125, 0, none⟩ = some (.string ((rd_T62 ((rd_T59 l0 a1).f2) x8_4).f0)) := (blk_cell BK125.out 0).trans rfl; have hcz62_1 : w61.cell? ⟨gb125, 1, none⟩ = some (.int .u8 ((rd_T62 ((rd_T59 l0 a1).f2) x8_4).f1)) := (blk_cell BK125.out 1).trans rfl; have hfz62_0 := blk_frozen BK125.out 0; have hfz62_1 := blk_frozen BK125.out 1) | (go_at_call 75; (with_reducible refine (provisoref02_IsName.calls k4 ((rd_T62 ((rd_T59 l0 a1).f2) x8_4).f0) true _ A33.out).mono ?_); rintro e w' ⟨rfl, ⟨nd, rfl⟩⟩; (try first | exact ⟨rfl, _, World.drewN_drewN _ _ _⟩ | exact ⟨rfl, _, Eq.trans (World.drewN_drewN _ _ _) (congrArg (World.drewN _) (Nat.add_assoc _ _ _))⟩); obtain ⟨Ao63, co63, eo63⟩ := Kd.R_slice HO_7.out; subst eo63) | (go_at_call 78; (with_reducible refine (provisoref02_has.calls k4 _ _ t121 ((rd_T62 ((rd_T59 l0 a1).f2) x8_4).f0) false _ ?side1 ?side2 A35.out).mono ?_); (case side1 => repeat (first | exact (Kd.R_reads' HO_7.out).2.2 | (with_reducible refine Kd.C_alloc ?_ _) | (with_reducible refine Kd.C_drewN ?_ _) | (with_reducible refine Kd.C_drew ?_))); (case side2 => exact (Kd.R_reads' HO_7.out).2.1); rintro e w' ⟨rfl, ⟨nd, rfl⟩⟩; (try first | exact ⟨rfl, _, World.drewN_drewN _ _ _⟩ | exact ⟨rfl, _, Eq.trans (World.drewN_drewN _ _ _) (congrArg (World.drewN _) (Nat.add_assoc _ _ _))⟩); have hcz64_0 : w61.cell? ⟨gb117, 0, none⟩ = some (.string ((rd_T59 l0 a1).f0)) := (blk_cell BK117.out 0).trans rfl; have hcz64_1 : w61.cell? ⟨gb117, 1, none⟩ = some (.int .i64 ((rd_T59 l0 a1).f1)) := (blk_cell BK117.out 1).trans rfl; have hcz64_2 : w61.cell? ⟨gb117, 2, none⟩ = some (.slice (some ad124) ((rd_T59 l0 a1).f2).length c116_2) := (blk_cell BK117.out 2).trans rfl; have hfz64_0 := blk_frozen BK117.out 0; have hfz64_1 := blk_frozen BK117.out 1; have hfz64_2 := blk_frozen BK117.out 2; have q65 : (x8_4 : Int) ≤ ((((rd_T59 l0 a1).f2).length : Int) : Int) := of_decide_eq_true (by first | (with_reducible assumption) | assumption); obtain ⟨i065, hi065, _, hsz65, _⟩ := info_parts info62; have hroom65 : ((rd_T59 l0 a1).f2).length ≤ c116_2 := HC116_2.out; have hC65 : Kd.C k62 _ (some ad124) ((rd_T59 l0 a1).f2).length ((rd_T59 l0 a1).f2) := HR116_2.out; have hcut65 := cut_to (P := Try.prog) 57 62 .i64 Try.underlying57 hi065 (some ad124) ((rd_T59 l0 a1).f2).length c116_2 x8_4 (of_decide_eq_true (by first | (with_reducible assumption) | assumption)) q65 hroom65; have hr65 := Kd.C_take (m := (x8_4 : Int).toNat) hC65 (by omega); have hy65 : y128.length = (x8_4 : Int).toNat := (by rw [Ny128.out, List.length_take]; omega); rw [← Ny128.out] at hr65; rw [← hy65] at hcut65; have HR131 := Aside0.mk hr65; have HC131 := Aside0.mk (show y128.length ≤ c116_2 from by omega); clear hr65 hC65 hroom65 hi065 hsz65; have KY65 := Aside0.mk hy65; clear hy65; replace q65 := eq_true q65) | (go_at_call 78; (with_reducible refine (provisoref02_has.calls k4 _ _ y128 ((rd_T62 ((rd_T59 l0 a1).f2) x8_4).f0) false _ ?side1 ?side2 A44.out).mono ?_); (case side1 => repeat (first | exact (Kd.C_below HR131.out (by repeat (first | (with_reducible first | exact HB.out | apply below_alloc | apply pw_below_drewN | apply below_drew1 | refine below_set ?_ GE117.out | refine below_set ?_ GE125.out) | exact HB.out))) | (with_reducible refine Kd.C_alloc ?_ _) | (with_reducible refine Kd.C_drewN ?_ _) | (with_reducible refine Kd.C_drew ?_))); (case side2 => exact HC131.out); rintro e w' ⟨rfl, ⟨nd, rfl⟩⟩; (try first | exact ⟨rfl, _, World.drewN_drewN _ _ _⟩ | exact ⟨rfl, _, Eq.trans (World.drewN_drewN _ _ _) (congrArg (World.drewN _) (Nat.add_assoc _ _ _))⟩)) | (go_at_call 79; (with_reducible refine (provisoref02_Stored.calls _ _ l0 ((rd_T62 ((rd_T59 l0 a1).f2) x8_4).f1) true _ ?side1 ?side2 A55.out).mono ?_); (case side1 => repeat (first | exact (Kd.C_below HR0.out (by repeat (first | (with_reducible first | exact HB.out | apply below_alloc | apply pw_below_drewN | apply below_drew1 | refine below_set ?_ GE117.out | refine below_set ?_ GE125.out) | exact HB.out))) | (with_reducible refine Kd.C_alloc ?_ _) | (with_reducible refine Kd.C_drewN ?_ _) | (with_reducible refine Kd.C_drew ?_))); (case side2 => exact HC0.out); rintro e w' ⟨rfl, ⟨nd, rfl⟩⟩; (try first | exact ⟨rfl, _, World.drewN_drewN _ _ _⟩ | exact ⟨rfl, _, Eq.trans (World.drewN_drewN _ _ _) (congrArg (World.drewN _) (Nat.add_assoc _ _ _))⟩))))
                                            go_roundg k4
                                            case measure => have := HJ7.out; have := HK2.out; have := HJ22.out; have := HK4.out; omega
                                            case rel => exact ⟨(wrap64 (x8_4 + 1)), (by first | rfl | (simp; done) | (simp [*]; done)), H', ⟨by have := HJ7.out; have := HK2.out; have := HJ22.out; have := HK4.out; omega⟩, ⟨by (with_reducible repeat (first | apply Kd.R_alloc | apply Kd.R_drewN | apply Kd.R_drew)); exact Kd.R_mono HO_7.out (fun _ hk => trivial)⟩, ⟨by (with_reducible repeat (first | refine blk_drewN ?_ _ | refine blk_drew ?_ | refine blk_alloc ?_ _)); exact BK117.out⟩, ⟨by repeat (first | (with_reducible first | exact HB.out | apply below_alloc | apply pw_below_drewN | apply below_drew1 | refine below_set ?_ GE117.out | refine below_set ?_ GE125.out) | exact HB.out)⟩⟩
                                          · replace c56 := Bool.eq_false_iff.mpr c56
                                            subst c56
                                            have H1 : (some 22) = some r := by rw [if_neg (show ¬ (false = true) by decide)] at H; exact H
                                            clear H
                                            have H := H1
                                            clear H1
                                            obtain rfl := Option.some.inj H
                                            have hcz66_0 : wr.cell? ⟨gb117, 0, none⟩ = some (.string ((rd_T59 l0 a1).f0)) := (blk_cell BK117.out 0).trans rfl
                                            have hcz66_1 : wr.cell? ⟨gb117, 1, none⟩ = some (.int .i64 ((rd_T59 l0 a1).f1)) := (blk_cell BK117.out 1).trans rfl
                                            have hcz66_2 : wr.cell? ⟨gb117, 2, none⟩ = some (.slice A116_2 ((rd_T59 l0 a1).f2).length c116_2) := (blk_cell BK117.out 2).trans rfl
                                            have hfz66_0 := blk_frozen BK117.out 0
                                            have hfz66_1 := blk_frozen BK117.out 1
                                            have hfz66_2 := blk_frozen BK117.out 2
                                            have p124 : 0 ≤ (x8_4 : Int) := of_decide_eq_true (by first | (with_reducible assumption) | assumption)
                                            have q124 : x8_4 < (((rd_T59 l0 a1).f2).length : Int) := of_decide_eq_true (by first | (with_reducible assumption) | assumption)
                                            obtain ⟨ad124, e124, hx124_0, hx124_1⟩ := at_T62 HR116_2.out x8_4 p124 q124
                                            cases e124
                                            replace hx124_0 := (HB.out.cell (World.block_lt_of_cell? w _ hx124_0)).trans hx124_0
                                            replace hx124_1 := (HB.out.cell (World.block_lt_of_cell? w _ hx124_1)).trans hx124_1
                                            replace p124 := eq_true p124
                                            replace q124 := eq_true q124
                                            go_wp2_with (first | ((with_reducible refine gate_dst (N := 9) rfl ?_); refine box_event ?hg (N := 9) ?hd (cs := #[.string (⟨#[]⟩ : ByteArray), .int .u8 0]) (t := 62) ?hr ?_; (case hd => rfl); (case hg => rfl); (case hr => first | (go_simp; done) | (go_simp; rfl)); intro gb125 hg w67 hbox hb; have n0_ := Aside0.mk (Kd.R_below (Kd.R_elderB (by (with_reducible repeat (first | apply Kd.R_alloc | apply Kd.R_drewN | apply Kd.R_drew)); exact HO_7.out) gb125 (Nat.le_of_eq hg.symm)) hb); have n1_ := Aside0.mk (blk_below (g := gb117) (o := .cells #[.string ((rd_T59 l0 a1).f0), .int .i64 ((rd_T59 l0 a1).f1), .slice (some ad124) ((rd_T59 l0 a1).f2).length c116_2] 59 (0, 0)) (by (with_reducible repeat (first | refine blk_drewN ?_ _ | refine blk_drew ?_ | refine blk_alloc ?_ _)); exact BK117.out) hb); have n2_ := Aside0.mk (below_step (by repeat (first | (with_reducible first | exact HB.out | apply below_alloc | apply pw_below_drewN | apply below_drew1 | refine below_set ?_ GE117.out) | exact HB.out)) hb); have n3_ := Aside0.mk (hbox); have n4_ := Aside0.mk ((by rw [hg]; exact (below_size (by repeat (first | (with_reducible first | exact HB.out | apply below_alloc | apply pw_below_drewN | apply below_drew1 | refine below_set ?_ GE117.out) | exact HB.out))) : w.heap.size ≤ gb125)); have n5_ := Aside0.mk ((by rw [hg]; exact (below_size (by repeat (first | (with_reducible first | exact HB.out | apply below_alloc | apply pw_below_drewN | apply below_drew1 | refine below_set ?_ GE117.out) | exact HB.out))) : w.heap.size ≤ gb125)); have n6_ := Aside0.mk ((by rw [hg]; exact Nat.ne_of_lt (blk_lt (g := gb117) (o := .cells #[.string ((rd_T59 l0 a1).f0), .int .i64 ((rd_T59 l0 a1).f1), .slice (some ad124) ((rd_T59 l0 a1).f2).length c116_2] 59 (0, 0)) (by (with_reducible repeat (first | refine blk_drewN ?_ _ | refine blk_drew ?_ | refine blk_alloc ?_ _)); exact BK117.out)) : gb117 ≠ gb125)); have n7_ := Aside0.mk ((by rw [hg]; exact Nat.ne_of_gt (blk_lt (g := gb117) (o := .cells #[.string ((rd_T59 l0 a1).f0), .int .i64 ((rd_T59 l0 a1).f1), .slice (some ad124) ((rd_T59 l0 a1).f2).length c116_2] 59 (0, 0)) (by (with_reducible repeat (first | refine blk_drewN ?_ _ | refine blk_drew ?_ | refine blk_alloc ?_ _)); exact BK117.out)) : gb125 ≠ gb117)); clear HO_7; clear BK117; clear HB; have HO_7 := n0_; have BK117 := n1_; have HB := n2_; have BK125 := n3_; have GW125 := n4_; have GE125 := n5_; have NB117_125 := n6_; have NB125_117 := n7_; clear n0_ n1_ n2_ n3_ n4_ n5_ n6_ n7_; clear hb hbox hg; have hnb68 := NB125_117.out; have hnc68 := NB117_125.out; have hcz69_0 : w67.cell? ⟨gb125, 0, none⟩ = some (.string (⟨#[]⟩ : ByteArray)) := (blk_cell BK125.out 0).trans rfl; have hcz69_1 : w67.cell? ⟨gb125, 1, none⟩ = some (.int .u8 0) := (blk_cell BK125.out 1).trans rfl; have hfz69_0 := blk_frozen BK125.out 0; have hfz69_1 := blk_frozen BK125.out 1) | ((with_reducible refine gate_store (t := 62) (p := 9) rfl ?_); (try (rw [drewN_self w67]; generalize hq_ : World.drewN w67 _ = w67; have n0_ := Aside0.mk (Kd.R_at hq_ HO_7.out); have n1_ := Aside0.mk (blk_at hq_ BK117.out); have n2_ := Aside0.mk (blk_at hq_ BK125.out); have n3_ := Aside0.mk (below_at hq_ HB.out); clear hq_ HO_7 BK117 BK125 HB; have HO_7 := n0_; have BK117 := n1_; have BK125 := n2_; have HB := n3_; clear n0_ n1_ n2_ n3_)); refine store_event (t := 62) (p := 9) (v := ?vo_w70) (w1 := ((w67.setCell ⟨gb125, 0, none⟩ (.string ((rd_T62 ((rd_T59 l0 a1).f2) x8_4).f0))).setCell ⟨gb125, 1, none⟩ (.int .u8 ((rd_T62 ((rd_T59 l0 a1).f2) x8_4).f1)))) ?hg ?ho ?hn ?hr ?_; (case ho => rfl); (case hg => rfl); (case hn => rfl); (case hr => first | (go_simp; done) | (go_simp; rfl)); intro w70 hw; have n0_ : Aside0 (Kd.R k62 62 w70 w.heap.size (fun k_ => k_ ≠ gb125) v122 t121) := ⟨(by rw [hw]; exact (by (with_reducible repeat (first | apply Kd.R_alloc | apply Kd.R_drewN | apply Kd.R_drew)); exact Kd.R_mono (Kd.R_far (p := ⟨gb125, 1, none⟩) (Kd.R_far (p := ⟨gb125, 0, none⟩) (Kd.R_mono HO_7.out (fun k_ hk => (⟨hk, hk.2⟩ : _ ∧ k_ ≠ gb125))) (fun _ hk => hk.2) (.string ((rd_T62 ((rd_T59 l0 a1).f2) x8_4).f0))) (fun _ hk => hk.2) (.int .u8 ((rd_T62 ((rd_T59 l0 a1).f2) x8_4).f1))) (fun _ hk => hk.1.2)))⟩; have n1_ : Aside0 (w70.heap[gb117]? = some (.cells #[.string ((rd_T59 l0 a1).f0), .int .i64 ((rd_T59 l0 a1).f1), .slice (some ad124) ((rd_T59 l0 a1).f2).length c116_2] 59 (0, 0))) := ⟨(by rw [hw]; exact (by (with_reducible repeat (first | refine blk_drewN ?_ _ | refine blk_drew ?_ | refine blk_alloc ?_ _)); refine blk_far ?_ NB117_125.out _; (with_reducible repeat (first | refine blk_drewN ?_ _ | refine blk_drew ?_ | refine blk_alloc ?_ _)); refine blk_far ?_ NB117_125.out _; (with_reducible repeat (first | refine blk_drewN ?_ _ | refine blk_drew ?_ | refine blk_alloc ?_ _)); exact BK117.out))⟩; have n2_ : Aside0 (w70.heap[gb125]? = some (.cells #[.string ((rd_T62 ((rd_T59 l0 a1).f2) x8_4).f0), .int .u8 ((rd_T62 ((rd_T59 l0 a1).f2) x8_4).f1)] 62 (0, 0))) := ⟨(by rw [hw]; exact (by (with_reducible repeat (first | refine blk_drewN ?_ _ | refine blk_drew ?_ | refine blk_alloc ?_ _)); refine blk_put (cs := #[.string ((rd_T62 ((rd_T59 l0 a1).f2) x8_4).f0), .int .u8 0]) ?_ 1 _ rfl; (with_reducible repeat (first | refine blk_drewN ?_ _ | refine blk_drew ?_ | refine blk_alloc ?_ _)); refine blk_put (cs := #[.string (⟨#[]⟩ : ByteArray), .int .u8 0]) ?_ 0 _ rfl; (with_reducible repeat (first | refine blk_drewN ?_ _ | refine blk_drew ?_ | refine blk_alloc ?_ _)); exact BK125.out))⟩; have n3_ : Aside0 (Below w.heap.size w w70) := ⟨(by rw [hw]; exact (by repeat (first | (with_reducible first | exact HB.out | apply below_alloc | apply pw_below_drewN | apply below_drew1 | refine below_set ?_ GE117.out | refine below_set ?_ GE125.out) | exact HB.out)))⟩; clear hw; clear HO_7; clear BK117; clear BK125; clear HB; have HO_7 := n0_; have BK117 := n1_; have BK125 := n2_; have HB := n3_; clear n0_ n1_ n2_ n3_; have hcz71_0 : w70.cell? ⟨gb125, 0, none⟩ = some (.string ((rd_T62 ((rd_T59 l0 a1).f2) x8_4).f0)) := (blk_cell BK125.out 0).trans rfl; have hcz71_1 : w70.cell? ⟨gb125, 1, none⟩ = some (.int .u8 ((rd_T62 ((rd_T59 l0 a1).f2) x8_4).f1)) := (blk_cell BK125.out 1).trans rfl; have hfz71_0 := blk_frozen BK125.out 0; have hfz71_1 := blk_frozen BK125.out 1) | (go_at_call 75; (with_reducible refine (provisoref02_IsName.calls k4 ((rd_T62 ((rd_T59 l0 a1).f2) x8_4).f0) true _ A33.out).mono ?_); rintro e w' ⟨rfl, ⟨nd, rfl⟩⟩; (try first | exact ⟨rfl, _, World.drewN_drewN _ _ _⟩ | exact ⟨rfl, _, Eq.trans (World.drewN_drewN _ _ _) (congrArg (World.drewN _) (Nat.add_assoc _ _ _))⟩); obtain ⟨Ao72, co72, eo72⟩ := Kd.R_slice HO_7.out; subst eo72) | (go_at_call 78; (with_reducible refine (provisoref02_has.calls k4 _ _ t121 ((rd_T62 ((rd_T59 l0 a1).f2) x8_4).f0) false _ ?side1 ?side2 A35.out).mono ?_); (case side1 => repeat (first | exact (Kd.R_reads' HO_7.out).2.2 | (with_reducible refine Kd.C_alloc ?_ _) | (with_reducible refine Kd.C_drewN ?_ _) | (with_reducible refine Kd.C_drew ?_))); (case side2 => exact (Kd.R_reads' HO_7.out).2.1); rintro e w' ⟨rfl, ⟨nd, rfl⟩⟩; (try first | exact ⟨rfl, _, World.drewN_drewN _ _ _⟩ | exact ⟨rfl, _, Eq.trans (World.drewN_drewN _ _ _) (congrArg (World.drewN _) (Nat.add_assoc _ _ _))⟩); have hcz73_0 : w70.cell? ⟨gb117, 0, none⟩ = some (.string ((rd_T59 l0 a1).f0)) := (blk_cell BK117.out 0).trans rfl; have hcz73_1 : w70.cell? ⟨gb117, 1, none⟩ = some (.int .i64 ((rd_T59 l0 a1).f1)) := (blk_cell BK117.out 1).trans rfl; have hcz73_2 : w70.cell? ⟨gb117, 2, none⟩ = some (.slice (some ad124) ((rd_T59 l0 a1).f2).length c116_2) := (blk_cell BK117.out 2).trans rfl; have hfz73_0 := blk_frozen BK117.out 0; have hfz73_1 := blk_frozen BK117.out 1; have hfz73_2 := blk_frozen BK117.out 2; have q74 : (x8_4 : Int) ≤ ((((rd_T59 l0 a1).f2).length : Int) : Int) := of_decide_eq_true (by first | (with_reducible assumption) | assumption); obtain ⟨i074, hi074, _, hsz74, _⟩ := info_parts info62; have hroom74 : ((rd_T59 l0 a1).f2).length ≤ c116_2 := HC116_2.out; have hC74 : Kd.C k62 _ (some ad124) ((rd_T59 l0 a1).f2).length ((rd_T59 l0 a1).f2) := HR116_2.out; have hcut74 := cut_to (P := Try.prog) 57 62 .i64 Try.underlying57 hi074 (some ad124) ((rd_T59 l0 a1).f2).length c116_2 x8_4 (of_decide_eq_true (by first | (with_reducible assumption) | assumption)) q74 hroom74; have hr74 := Kd.C_take (m := (x8_4 : Int).toNat) hC74 (by omega); have hy74 : y128.length = (x8_4 : Int).toNat := (by rw [Ny128.out, List.length_take]; omega); rw [← Ny128.out] at hr74; rw [← hy74] at hcut74; have HR131 := Aside0.mk hr74; have HC131 := Aside0.mk (show y128.length ≤ c116_2 from by omega); clear hr74 hC74 hroom74 hi074 hsz74; have KY74 := Aside0.mk hy74; clear hy74; replace q74 := eq_true q74) | (go_at_call 78; (with_reducible refine (provisoref02_has.calls k4 _ _ y128 ((rd_T62 ((rd_T59 l0 a1).f2) x8_4).f0) false _ ?side1 ?side2 A44.out).mono ?_); (case side1 => repeat (first | exact (Kd.C_below HR131.out (by repeat (first | (with_reducible first | exact HB.out | apply below_alloc | apply pw_below_drewN | apply below_drew1 | refine below_set ?_ GE117.out | refine below_set ?_ GE125.out) | exact HB.out))) | (with_reducible refine Kd.C_alloc ?_ _) | (with_reducible refine Kd.C_drewN ?_ _) | (with_reducible refine Kd.C_drew ?_))); (case side2 => exact HC131.out); rintro e w' ⟨rfl, ⟨nd, rfl⟩⟩; (try first | exact ⟨rfl, _, World.drewN_drewN _ _ _⟩ | exact ⟨rfl, _, Eq.trans (World.drewN_drewN _ _ _) (congrArg (World.drewN _) (Nat.add_assoc _ _ _))⟩)) | (go_at_call 79; (with_reducible refine (provisoref02_Stored.calls _ _ l0 ((rd_T62 ((rd_T59 l0 a1).f2) x8_4).f1) false _ ?side1 ?side2 A55.out).mono ?_); (case side1 => repeat (first | exact (Kd.C_below HR0.out (by repeat (first | (with_reducible first | exact HB.out | apply below_alloc | apply pw_below_drewN | apply below_drew1 | refine below_set ?_ GE117.out | refine below_set ?_ GE125.out) | exact HB.out))) | (with_reducible refine Kd.C_alloc ?_ _) | (with_reducible refine Kd.C_drewN ?_ _) | (with_reducible refine Kd.C_drew ?_))); (case side2 => exact HC0.out); rintro e w' ⟨rfl, ⟨nd, rfl⟩⟩; (try first | exact ⟨rfl, _, World.drewN_drewN _ _ _⟩ | exact ⟨rfl, _, Eq.trans (World.drewN_drewN _ _ _) (congrArg (World.drewN _) (Nat.add_assoc _ _ _))⟩)))
                                            repeat (go_quiet (first | ((with_reducible refine gate_dst (N := 9) rfl ?_); refine box_event ?hg (N := 9) ?hd (cs := #[.string (⟨#[]⟩ : ByteArray), .int .u8 0]) (t := 62) ?hr ?_; (case hd => rfl); (case hg => rfl); (case hr => first | (go_simp; done) | (go_simp; rfl)); intro gb125 hg w67 hbox hb; have n0_ := Aside0.mk (Kd.R_below (Kd.R_elderB (by (with_reducible repeat (first | apply Kd.R_alloc | apply Kd.R_drewN | apply Kd.R_drew)); exact HO_7.out) gb125 (Nat.le_of_eq hg.symm)) hb); have n1_ := Aside0.mk (blk_below (g := gb117) (o := .cells #[.string ((rd_T59 l0 a1).f0), .int .i64 ((rd_T59 l0 a1).f1), .slice (some ad124) ((rd_T59 l0 a1).f2).length c116_2] 59 (0, 0)) (by (with_reducible repeat (first | refine blk_drewN ?_ _ | refine blk_drew ?_ | refine blk_alloc ?_ _)); exact BK117.out) hb); have n2_ := Aside0.mk (below_step (by repeat (first | (with_reducible first | exact HB.out | apply below_alloc | apply pw_below_drewN | apply below_drew1 | refine below_set ?_ GE117.out) | exact HB.out)) hb); have n3_ := Aside0.mk (hbox); have n4_ := Aside0.mk ((by rw [hg]; exact (below_size (by repeat (first | (with_reducible first | exact HB.out | apply below_alloc | apply pw_below_drewN | apply below_drew1 | refine below_set ?_ GE117.out) | exact HB.out))) : w.heap.size ≤ gb125)); have n5_ := Aside0.mk ((by rw [hg]; exact (below_size (by repeat (first | (with_reducible first | exact HB.out | apply below_alloc | apply pw_below_drewN | apply below_drew1 | refine below_set ?_ GE117.out) | exact HB.out))) : w.heap.size ≤ gb125)); have n6_ := Aside0.mk ((by rw [hg]; exact Nat.ne_of_lt (blk_lt (g := gb117) (o := .cells #[.string ((rd_T59 l0 a1).f0), .int .i64 ((rd_T59 l0 a1).f1), .slice (some ad124) ((rd_T59 l0 a1).f2).length c116_2] 59 (0, 0)) (by (with_reducible repeat (first | refine blk_drewN ?_ _ | refine blk_drew ?_ | refine blk_alloc ?_ _)); exact BK117.out)) : gb117 ≠ gb125)); have n7_ := Aside0.mk ((by rw [hg]; exact Nat.ne_of_gt (blk_lt (g := gb117) (o := .cells #[.string ((rd_T59 l0 a1).f0), .int .i64 ((rd_T59 l0 a1).f1), .slice (some ad124) ((rd_T59 l0 a1).f2).length c116_2] 59 (0, 0)) (by (with_reducible repeat (first | refine blk_drewN ?_ _ | refine blk_drew ?_ | refine blk_alloc ?_ _)); exact BK117.out)) : gb125 ≠ gb117)); clear HO_7; clear BK117; clear HB; have HO_7 := n0_; have BK117 := n1_; have HB := n2_; have BK125 := n3_; have GW125 := n4_; have GE125 := n5_; have NB117_125 := n6_; have NB125_117 := n7_; clear n0_ n1_ n2_ n3_ n4_ n5_ n6_ n7_; clear hb hbox hg; have hnb68 := NB125_117.out; have hnc68 := NB117_125.out; have hcz69_0 : w67.cell? ⟨gb125, 0, none⟩ = some (.string (⟨#[]⟩ : ByteArray)) := (blk_cell BK125.out 0).trans rfl; have hcz69_1 : w67.cell? ⟨gb125, 1, none⟩ = some (.int .u8 0) := (blk_cell BK125.out 1).trans rfl; have hfz69_0 := blk_frozen BK125.out 0; have hfz69_1 := blk_frozen BK125.out 1) | ((with_reducible refine gate_store (t := 62) (p := 9) rfl ?_); (try (rw [drewN_self w67]; generalize hq_ : World.drewN w67 _ = w67; have n0_ := Aside0.mk (Kd.R_at hq_ HO_7.out); have n1_ := Aside0.mk (blk_at hq_ BK117.out); have n2_ := Aside0.mk (blk_at hq_ BK125.out); have n3_ := Aside0.mk (below_at hq_ HB.out); clear hq_ HO_7 BK117 BK125 HB; have HO_7 := n0_; have BK117 := n1_; have BK125 := n2_; have HB := n3_; clear n0_ n1_ n2_ n3_)); refine store_event (t := 62) (p := 9) (v := ?vo_w70) (w1 := ((w67.setCell ⟨gb125, 0, none⟩ (.string ((rd_T62 ((rd_T59 l0 a1).f2) x8_4).f0))).setCell ⟨gb125, 1, none⟩ (.int .u8 ((rd_T62 ((rd_T59 l0 a1).f2) x8_4).f1)))) ?hg ?ho ?hn ?hr ?_; (case ho => rfl); (case hg => rfl); (case hn => rfl); (case hr => first | (go_simp; done) | (go_simp; rfl)); intro w70 hw; have n0_ : Aside0 (Kd.R k62 62 w70 w.heap.size (fun k_ => k_ ≠ gb125) v122 t121) := ⟨(by rw [hw]; exact (by (with_reducible repeat (first | apply Kd.R_alloc | apply Kd.R_drewN | apply Kd.R_drew)); exact Kd.R_mono (Kd.R_far (p := ⟨gb125, 1, none⟩) (Kd.R_far (p := ⟨gb125, 0, none⟩) (Kd.R_mono HO_7.out (fun k_ hk => (⟨hk, hk.2⟩ : _ ∧ k_ ≠ gb125))) (fun _ hk => hk.2) (.string ((rd_T62 ((rd_T59 l0 a1).f2) x8_4).f0))) (fun _ hk => hk.2) (.int .u8 ((rd_T62 ((rd_T59 l0 a1).f2) x8_4).f1))) (fun _ hk => hk.1.2)))⟩; have n1_ : Aside0 (w70.heap[gb117]? = some (.cells #[.string ((rd_T59 l0 a1).f0), .int .i64 ((rd_T59 l0 a1).f1), .slice (some ad124) ((rd_T59 l0 a1).f2).length c116_2] 59 (0, 0))) := ⟨(by rw [hw]; exact (by (with_reducible repeat (first | refine blk_drewN ?_ _ | refine blk_drew ?_ | refine blk_alloc ?_ _)); refine blk_far ?_ NB117_125.out _; (with_reducible repeat (first | refine blk_drewN ?_ _ | refine blk_drew ?_ | refine blk_alloc ?_ _)); refine blk_far ?_ NB117_125.out _; (with_reducible repeat (first | refine blk_drewN ?_ _ | refine blk_drew ?_ | refine blk_alloc ?_ _)); exact BK117.out))⟩; have n2_ : Aside0 (w70.heap[gb125]? = some (.cells #[.string ((rd_T62 ((rd_T59 l0 a1).f2) x8_4).f0), .int .u8 ((rd_T62 ((rd_T59 l0 a1).f2) x8_4).f1)] 62 (0, 0))) := ⟨(by rw [hw]; exact (by (with_reducible repeat (first | refine blk_drewN ?_ _ | refine blk_drew ?_ | refine blk_alloc ?_ _)); refine blk_put (cs := #[.string ((rd_T62 ((rd_T59 l0 a1).f2) x8_4).f0), .int .u8 0]) ?_ 1 _ rfl; (with_reducible repeat (first | refine blk_drewN ?_ _ | refine blk_drew ?_ | refine blk_alloc ?_ _)); refine blk_put (cs := #[.string (⟨#[]⟩ : ByteArray), .int .u8 0]) ?_ 0 _ rfl; (with_reducible repeat (first | refine blk_drewN ?_ _ | refine blk_drew ?_ | refine blk_alloc ?_ _)); exact BK125.out))⟩; have n3_ : Aside0 (Below w.heap.size w w70) := ⟨(by rw [hw]; exact (by repeat (first | (with_reducible first | exact HB.out | apply below_alloc | apply pw_below_drewN | apply below_drew1 | refine below_set ?_ GE117.out | refine below_set ?_ GE125.out) | exact HB.out)))⟩; clear hw; clear HO_7; clear BK117; clear BK125; clear HB; have HO_7 := n0_; have BK117 := n1_; have BK125 := n2_; have HB := n3_; clear n0_ n1_ n2_ n3_; have hcz71_0 : w70.cell? ⟨gb125, 0, none⟩ = some (.string ((rd_T62 ((rd_T59 l0 a1).f2) x8_4).f0)) := (blk_cell BK125.out 0).trans rfl; have hcz71_1 : w70.cell? ⟨gb125, 1, none⟩ = some (.int .u8 ((rd_T62 ((rd_T59 l0 a1).f2) x8_4).f1)) := (blk_cell BK125.out 1).trans rfl; have hfz71_0 := blk_frozen BK125.out 0; have hfz71_1 := blk_frozen BK125.out 1) | (go_at_call 75; (with_reducible refine (provisoref02_IsName.calls k4 ((rd_T62 ((rd_T59 l0 a1).f2) x8_4).f0) true _ A33.out).mono ?_); rintro e w' ⟨rfl, ⟨nd, rfl⟩⟩; (try first | exact ⟨rfl, _, World.drewN_drewN _ _ _⟩ | exact ⟨rfl, _, Eq.trans (World.drewN_drewN _ _ _) (congrArg (World.drewN _) (Nat.add_assoc _ _ _))⟩); obtain ⟨Ao72, co72, eo72⟩ := Kd.R_slice HO_7.out; subst eo72) | (go_at_call 78; (with_reducible refine (provisoref02_has.calls k4 _ _ t121 ((rd_T62 ((rd_T59 l0 a1).f2) x8_4).f0) false _ ?side1 ?side2 A35.out).mono ?_); (case side1 => repeat (first | exact (Kd.R_reads' HO_7.out).2.2 | (with_reducible refine Kd.C_alloc ?_ _) | (with_reducible refine Kd.C_drewN ?_ _) | (with_reducible refine Kd.C_drew ?_))); (case side2 => exact (Kd.R_reads' HO_7.out).2.1); rintro e w' ⟨rfl, ⟨nd, rfl⟩⟩; (try first | exact ⟨rfl, _, World.drewN_drewN _ _ _⟩ | exact ⟨rfl, _, Eq.trans (World.drewN_drewN _ _ _) (congrArg (World.drewN _) (Nat.add_assoc _ _ _))⟩); have hcz73_0 : w70.cell? ⟨gb117, 0, none⟩ = some (.string ((rd_T59 l0 a1).f0)) := (blk_cell BK117.out 0).trans rfl; have hcz73_1 : w70.cell? ⟨gb117, 1, none⟩ = some (.int .i64 ((rd_T59 l0 a1).f1)) := (blk_cell BK117.out 1).trans rfl; have hcz73_2 : w70.cell? ⟨gb117, 2, none⟩ = some (.slice (some ad124) ((rd_T59 l0 a1).f2).length c116_2) := (blk_cell BK117.out 2).trans rfl; have hfz73_0 := blk_frozen BK117.out 0; have hfz73_1 := blk_frozen BK117.out 1; have hfz73_2 := blk_frozen BK117.out 2; have q74 : (x8_4 : Int) ≤ ((((rd_T59 l0 a1).f2).length : Int) : Int) := of_decide_eq_true (by first | (with_reducible assumption) | assumption); obtain ⟨i074, hi074, _, hsz74, _⟩ := info_parts info62; have hroom74 : ((rd_T59 l0 a1).f2).length ≤ c116_2 := HC116_2.out; have hC74 : Kd.C k62 _ (some ad124) ((rd_T59 l0 a1).f2).length ((rd_T59 l0 a1).f2) := HR116_2.out; have hcut74 := cut_to (P := Try.prog) 57 62 .i64 Try.underlying57 hi074 (some ad124) ((rd_T59 l0 a1).f2).length c116_2 x8_4 (of_decide_eq_true (by first | (with_reducible assumption) | assumption)) q74 hroom74; have hr74 := Kd.C_take (m := (x8_4 : Int).toNat) hC74 (by omega); have hy74 : y128.length = (x8_4 : Int).toNat := (by rw [Ny128.out, List.length_take]; omega); rw [← Ny128.out] at hr74; rw [← hy74] at hcut74; have HR131 := Aside0.mk hr74; have HC131 := Aside0.mk (show y128.length ≤ c116_2 from by omega); clear hr74 hC74 hroom74 hi074 hsz74; have KY74 := Aside0.mk hy74; clear hy74; replace q74 := eq_true q74) | (go_at_call 78; (with_reducible refine (provisoref02_has.calls k4 _ _ y128 ((rd_T62 ((rd_T59 l0 a1).f2) x8_4).f0) false _ ?side1 ?side2 A44.out).mono ?_); (case side1 => repeat (first | exact (Kd.C_below HR131.out (by repeat (first | (with_reducible first | exact HB.out | apply below_alloc | apply pw_below_drewN | apply below_drew1 | refine below_set ?_ GE117.out | refine below_set ?_ GE125.out) | exact HB.out))) | (with_reducible refine Kd.C_alloc ?_ _) | (with_reducible refine Kd.C_drewN ?_ _) | (with_reducible refine Kd.C_drew ?_))); (case side2 => exact HC131.out); rintro e w' ⟨rfl, ⟨nd, rfl⟩⟩; (try first | exact ⟨rfl, _, World.drewN_drewN _ _ _⟩ | exact ⟨rfl, _, Eq.trans (World.drewN_drewN _ _ _) (congrArg (World.drewN _) (Nat.add_assoc _ _ _))⟩)) | (go_at_call 79; (with_reducible refine (provisoref02_Stored.calls _ _ l0 ((rd_T62 ((rd_T59 l0 a1).f2) x8_4).f1) false _ ?side1 ?side2 A55.out).mono ?_); (case side1 => repeat (first | exact (Kd.C_below HR0.out (by repeat (first | (with_reducible first | exact HB.out | apply below_alloc | apply pw_below_drewN | apply below_drew1 | refine below_set ?_ GE117.out | refine below_set ?_ GE125.out) | exact HB.out))) | (with_reducible refine Kd.C_alloc ?_ _) | (with_reducible refine Kd.C_drewN ?_ _) | (with_reducible refine Kd.C_drew ?_))); (case side2 => exact HC0.out); rintro e w' ⟨rfl, ⟨nd, rfl⟩⟩; (try first | exact ⟨rfl, _, World.drewN_drewN _ _ _⟩ | exact ⟨rfl, _, Eq.trans (World.drewN_drewN _ _ _) (congrArg (World.drewN _) (Nat.add_assoc _ _ _))⟩))); try go_wp2_with (first | ((with_reducible refine gate_dst (N := 9) rfl ?_); refine box_event ?hg (N := 9) ?hd (cs := #[.string (⟨#[]⟩ : ByteArray), .int .u8 0]) (t := 62) ?hr ?_; (case hd => rfl); (case hg => rfl); (case hr => first | (go_simp; done) | (go_simp; rfl)); intro gb125 hg w67 hbox hb; have n0_ := Aside0.mk (Kd.R_below (Kd.R_elderB (by (with_reducible repeat (first | apply Kd.R_alloc | apply Kd.R_drewN | apply Kd.R_drew)); exact HO_7.out) gb125 (Nat.le_of_eq hg.symm)) hb); have n1_ := Aside0.mk (blk_below (g := gb117) (o := .cells #[.string ((rd_T59 l0 a1).f0), .int .i64 ((rd_T59 l0 a1).f1), .slice (some ad124) ((rd_T59 l0 a1).f2).length c116_2] 59 (0, 0)) (by (with_reducible repeat (first | refine blk_drewN ?_ _ | refine blk_drew ?_ | refine blk_alloc ?_ _)); exact BK117.out) hb); have n2_ := Aside0.mk (below_step (by repeat (first | (with_reducible first | exact HB.out | apply below_alloc | apply pw_below_drewN | apply below_drew1 | refine below_set ?_ GE117.out) | exact HB.out)) hb); have n3_ := Aside0.mk (hbox); have n4_ := Aside0.mk ((by rw [hg]; exact (below_size (by repeat (first | (with_reducible first | exact HB.out | apply below_alloc | apply pw_below_drewN | apply below_drew1 | refine below_set ?_ GE117.out) | exact HB.out))) : w.heap.size ≤ gb125)); have n5_ := Aside0.mk ((by rw [hg]; exact (below_size (by repeat (first | (with_reducible first | exact HB.out | apply below_alloc | apply pw_below_drewN | apply below_drew1 | refine below_set ?_ GE117.out) | exact HB.out))) : w.heap.size ≤ gb125)); have n6_ := Aside0.mk ((by rw [hg]; exact Nat.ne_of_lt (blk_lt (g := gb117) (o := .cells #[.string ((rd_T59 l0 a1).f0), .int .i64 ((rd_T59 l0 a1).f1), .slice (some ad124) ((rd_T59 l0 a1).f2).length c116_2] 59 (0, 0)) (by (with_reducible repeat (first | refine blk_drewN ?_ _ | refine blk_drew ?_ | refine blk_alloc ?_ _)); exact BK117.out)) : gb117 ≠ gb125)); have n7_ := Aside0.mk ((by rw [hg]; exact Nat.ne_of_gt (blk_lt (g := gb117) (o := .cells #[.string ((rd_T59 l0 a1).f0), .int .i64 ((rd_T59 l0 a1).f1), .slice (some ad124) ((rd_T59 l0 a1).f2).length c116_2] 59 (0, 0)) (by (with_reducible repeat (first | refine blk_drewN ?_ _ | refine blk_drew ?_ | refine blk_alloc ?_ _)); exact BK117.out)) : gb125 ≠ gb117)); clear HO_7; clear BK117; clear HB; have HO_7 := n0_; have BK117 := n1_; have HB := n2_; have BK125 := n3_; have GW125 := n4_; have GE125 := n5_; have NB117_125 := n6_; have NB125_117 := n7_; clear n0_ n1_ n2_ n3_ n4_ n5_ n6_ n7_; clear hb hbox hg; have hnb68 := NB125_117.out; have hnc68 := NB117_125.out; have hcz69_0 : w67.cell? ⟨gb125, 0, none⟩ = some (.string (⟨#[]⟩ : ByteArray)) := (blk_cell BK125.out 0).trans rfl; have hcz69_1 : w67.cell? ⟨gb125, 1, none⟩ = some (.int .u8 0) := (blk_cell BK125.out 1).trans rfl; have hfz69_0 := blk_frozen BK125.out 0; have hfz69_1 := blk_frozen BK125.out 1) | ((with_reducible refine gate_store (t := 62) (p := 9) rfl ?_); (try (rw [drewN_self w67]; generalize hq_ : World.drewN w67 _ = w67; have n0_ := Aside0.mk (Kd.R_at hq_ HO_7.out); have n1_ := Aside0.mk (blk_at hq_ BK117.out); have n2_ := Aside0.mk (blk_at hq_ BK125.out); have n3_ := Aside0.mk (below_at hq_ HB.out); clear hq_ HO_7 BK117 BK125 HB; have HO_7 := n0_; have BK117 := n1_; have BK125 := n2_; have HB := n3_; clear n0_ n1_ n2_ n3_)); refine store_event (t := 62) (p := 9) (v := ?vo_w70) (w1 := ((w67.setCell ⟨gb125, 0, none⟩ (.string ((rd_T62 ((rd_T59 l0 a1).f2) x8_4).f0))).setCell ⟨gb125, 1, none⟩ (.int .u8 ((rd_T62 ((rd_T59 l0 a1).f2) x8_4).f1)))) ?hg ?ho ?hn ?hr ?_; (case ho => rfl); (case hg => rfl); (case hn => rfl); (case hr => first | (go_simp; done) | (go_simp; rfl)); intro w70 hw; have n0_ : Aside0 (Kd.R k62 62 w70 w.heap.size (fun k_ => k_ ≠ gb125) v122 t121) := ⟨(by rw [hw]; exact (by (with_reducible repeat (first | apply Kd.R_alloc | apply Kd.R_drewN | apply Kd.R_drew)); exact Kd.R_mono (Kd.R_far (p := ⟨gb125, 1, none⟩) (Kd.R_far (p := ⟨gb125, 0, none⟩) (Kd.R_mono HO_7.out (fun k_ hk => (⟨hk, hk.2⟩ : _ ∧ k_ ≠ gb125))) (fun _ hk => hk.2) (.string ((rd_T62 ((rd_T59 l0 a1).f2) x8_4).f0))) (fun _ hk => hk.2) (.int .u8 ((rd_T62 ((rd_T59 l0 a1).f2) x8_4).f1))) (fun _ hk => hk.1.2)))⟩; have n1_ : Aside0 (w70.heap[gb117]? = some (.cells #[.string ((rd_T59 l0 a1).f0), .int .i64 ((rd_T59 l0 a1).f1), .slice (some ad124) ((rd_T59 l0 a1).f2).length c116_2] 59 (0, 0))) := ⟨(by rw [hw]; exact (by (with_reducible repeat (first | refine blk_drewN ?_ _ | refine blk_drew ?_ | refine blk_alloc ?_ _)); refine blk_far ?_ NB117_125.out _; (with_reducible repeat (first | refine blk_drewN ?_ _ | refine blk_drew ?_ | refine blk_alloc ?_ _)); refine blk_far ?_ NB117_125.out _; (with_reducible repeat (first | refine blk_drewN ?_ _ | refine blk_drew ?_ | refine blk_alloc ?_ _)); exact BK117.out))⟩; have n2_ : Aside0 (w70.heap[gb125]? = some (.cells #[.string ((rd_T62 ((rd_T59 l0 a1).f2) x8_4).f0), .int .u8 ((rd_T62 ((rd_T59 l0 a1).f2) x8_4).f1)] 62 (0, 0))) := ⟨(by rw [hw]; exact (by (with_reducible repeat (first | refine blk_drewN ?_ _ | refine blk_drew ?_ | refine blk_alloc ?_ _)); refine blk_put (cs := #[.string ((rd_T62 ((rd_T59 l0 a1).f2) x8_4).f0), .int .u8 0]) ?_ 1 _ rfl; (with_reducible repeat (first | refine blk_drewN ?_ _ | refine blk_drew ?_ | refine blk_alloc ?_ _)); refine blk_put (cs := #[.string (⟨#[]⟩ : ByteArray), .int .u8 0]) ?_ 0 _ rfl; (with_reducible repeat (first | refine blk_drewN ?_ _ | refine blk_drew ?_ | refine blk_alloc ?_ _)); exact BK125.out))⟩; have n3_ : Aside0 (Below w.heap.size w w70) := ⟨(by rw [hw]; exact (by repeat (first | (with_reducible first | exact HB.out | apply below_alloc | apply pw_below_drewN | apply below_drew1 | refine below_set ?_ GE117.out | refine below_set ?_ GE125.out) | exact HB.out)))⟩; clear hw; clear HO_7; clear BK117; clear BK125; clear HB; have HO_7 := n0_; have BK117 := n1_; have BK125 := n2_; have HB := n3_; clear n0_ n1_ n2_ n3_; have hcz71_0 : w70.cell? ⟨gb125, 0, none⟩ = some (.string ((rd_T62 ((rd_T59 l0 a1).f2) x8_4).f0)) := (blk_cell BK125.out 0).trans rfl; have hcz71_1 : w70.cell? ⟨gb125, 1, none⟩ = some (.int .u8 ((rd_T62 ((rd_T59 l0 a1).f2) x8_4).f1)) := (blk_cell BK125.out 1).trans rfl; have hfz71_0 := blk_frozen BK125.out 0; have hfz71_1 := blk_frozen BK125.out 1) | (go_at_call 75; (with_reducible refine (provisoref02_IsName.calls k4 ((rd_T62 ((rd_T59 l0 a1).f2) x8_4).f0) true _ A33.out).mono ?_); rintro e w' ⟨rfl, ⟨nd, rfl⟩⟩; (try first | exact ⟨rfl, _, World.drewN_drewN _ _ _⟩ | exact ⟨rfl, _, Eq.trans (World.drewN_drewN _ _ _) (congrArg (World.drewN _) (Nat.add_assoc _ _ _))⟩); obtain ⟨Ao72, co72, eo72⟩ := Kd.R_slice HO_7.out; subst eo72) | (go_at_call 78; (with_reducible refine (provisoref02_has.calls k4 _ _ t121 ((rd_T62 ((rd_T59 l0 a1).f2) x8_4).f0) false _ ?side1 ?side2 A35.out).mono ?_); (case side1 => repeat (first | exact (Kd.R_reads' HO_7.out).2.2 | (with_reducible refine Kd.C_alloc ?_ _) | (with_reducible refine Kd.C_drewN ?_ _) | (with_reducible refine Kd.C_drew ?_))); (case side2 => exact (Kd.R_reads' HO_7.out).2.1); rintro e w' ⟨rfl, ⟨nd, rfl⟩⟩; (try first | exact ⟨rfl, _, World.drewN_drewN _ _ _⟩ | exact ⟨rfl, _, Eq.trans (World.drewN_drewN _ _ _) (congrArg (World.drewN _) (Nat.add_assoc _ _ _))⟩); have hcz73_0 : w70.cell? ⟨gb117, 0, none⟩ = some (.string ((rd_T59 l0 a1).f0)) := (blk_cell BK117.out 0).trans rfl; have hcz73_1 : w70.cell? ⟨gb117, 1, none⟩ = some (.int .i64 ((rd_T59 l0 a1).f1)) := (blk_cell BK117.out 1).trans rfl; have hcz73_2 : w70.cell? ⟨gb117, 2, none⟩ = some (.slice (some ad124) ((rd_T59 l0 a1).f2).length c116_2) := (blk_cell BK117.out 2).trans rfl; have hfz73_0 := blk_frozen BK117.out 0; have hfz73_1 := blk_frozen BK117.out 1; have hfz73_2 := blk_frozen BK117.out 2; have q74 : (x8_4 : Int) ≤ ((((rd_T59 l0 a1).f2).length : Int) : Int) := of_decide_eq_true (by first | (with_reducible assumption) | assumption); obtain ⟨i074, hi074, _, hsz74, _⟩ := info_parts info62; have hroom74 : ((rd_T59 l0 a1).f2).length ≤ c116_2 := HC116_2.out; have hC74 : Kd.C k62 _ (some ad124) ((rd_T59 l0 a1).f2).length ((rd_T59 l0 a1).f2) := HR116_2.out; have hcut74 := cut_to (P := Try.prog) 57 62 .i64 Try.underlying57 hi074 (some ad124) ((rd_T59 l0 a1).f2).length c116_2 x8_4 (of_decide_eq_true (by first | (with_reducible assumption) | assumption)) q74 hroom74; have hr74 := Kd.C_take (m := (x8_4 : Int).toNat) hC74 (by omega); have hy74 : y128.length = (x8_4 : Int).toNat := (by rw [Ny128.out, List.length_take]; omega); rw [← Ny128.out] at hr74; rw [← hy74] at hcut74; have HR131 := Aside0.mk hr74; have HC131 := Aside0.mk (show y128.length ≤ c116_2 from by omega); clear hr74 hC74 hroom74 hi074 hsz74; have KY74 := Aside0.mk hy74; clear hy74; replace q74 := eq_true q74) | (go_at_call 78; (with_reducible refine (provisoref02_has.calls k4 _ _ y128 ((rd_T62 ((rd_T59 l0 a1).f2) x8_4).f0) false _ ?side1 ?side2 A44.out).mono ?_); (case side1 => repeat (first | exact (Kd.C_below HR131.out (by repeat (first | (with_reducible first | exact HB.out | apply below_alloc | apply pw_below_drewN | apply below_drew1 | refine below_set ?_ GE117.out | refine below_set ?_ GE125.out) | exact HB.out))) | (with_reducible refine Kd.C_alloc ?_ _) | (with_reducible refine Kd.C_drewN ?_ _) | (with_reducible refine Kd.C_drew ?_))); (case side2 => exact HC131.out); rintro e w' ⟨rfl, ⟨nd, rfl⟩⟩; (try first | exact ⟨rfl, _, World.drewN_drewN _ _ _⟩ | exact ⟨rfl, _, Eq.trans (World.drewN_drewN _ _ _) (congrArg (World.drewN _) (Nat.add_assoc _ _ _))⟩)) | (go_at_call 79; (with_reducible refine (provisoref02_Stored.calls _ _ l0 ((rd_T62 ((rd_T59 l0 a1).f2) x8_4).f1) false _ ?side1 ?side2 A55.out).mono ?_); (case side1 => repeat (first | exact (Kd.C_below HR0.out (by repeat (first | (with_reducible first | exact HB.out | apply below_alloc | apply pw_below_drewN | apply below_drew1 | refine below_set ?_ GE117.out | refine below_set ?_ GE125.out) | exact HB.out))) | (with_reducible refine Kd.C_alloc ?_ _) | (with_reducible refine Kd.C_drewN ?_ _) | (with_reducible refine Kd.C_drew ?_))); (case side2 => exact HC0.out); rintro e w' ⟨rfl, ⟨nd, rfl⟩⟩; (try first | exact ⟨rfl, _, World.drewN_drewN _ _ _⟩ | exact ⟨rfl, _, Eq.trans (World.drewN_drewN _ _ _) (congrArg (World.drewN _) (Nat.add_assoc _ _ _))⟩))))
                                            go_ret
                                            exact ⟨by first | rfl | (simp [errW_none, errW_some] <;> rfl) | (simp [*, errW_none, errW_some] <;> rfl), by repeat (first | (with_reducible first | exact HB.out | apply below_alloc | apply pw_below_drewN | apply below_drew1 | refine below_set ?_ GE117.out | refine below_set ?_ GE125.out) | exact HB.out)⟩
                                      · rw [if_neg c43] at H
                                        exact absurd H (by simp)
                                  · replace c34 := Bool.eq_false_iff.mpr c34
                                    subst c34
                                    have H1 : (some 6) = some r := by rw [if_neg (show ¬ (false = true) by decide)] at H; exact H
                                    clear H
                                    have H := H1
                                    clear H1
                                    obtain rfl := Option.some.inj H
                                    have hcz75_0 : wr.cell? ⟨gb117, 0, none⟩ = some (.string ((rd_T59 l0 a1).f0)) := (blk_cell BK117.out 0).trans rfl
                                    have hcz75_1 : wr.cell? ⟨gb117, 1, none⟩ = some (.int .i64 ((rd_T59 l0 a1).f1)) := (blk_cell BK117.out 1).trans rfl
                                    have hcz75_2 : wr.cell? ⟨gb117, 2, none⟩ = some (.slice A116_2 ((rd_T59 l0 a1).f2).length c116_2) := (blk_cell BK117.out 2).trans rfl
                                    have hfz75_0 := blk_frozen BK117.out 0
                                    have hfz75_1 := blk_frozen BK117.out 1
                                    have hfz75_2 := blk_frozen BK117.out 2
                                    have p124 : 0 ≤ (x8_4 : Int) := of_decide_eq_true (by first | (with_reducible assumption) | assumption)
                                    have q124 : x8_4 < (((rd_T59 l0 a1).f2).length : Int) := of_decide_eq_true (by first | (with_reducible assumption) | assumption)
                                    obtain ⟨ad124, e124, hx124_0, hx124_1⟩ := at_T62 HR116_2.out x8_4 p124 q124
                                    cases e124
                                    replace hx124_0 := (HB.out.cell (World.block_lt_of_cell? w _ hx124_0)).trans hx124_0
                                    replace hx124_1 := (HB.out.cell (World.block_lt_of_cell? w _ hx124_1)).trans hx124_1
                                    replace p124 := eq_true p124
                                    replace q124 := eq_true q124
                                    go_wp2_with (first | ((with_reducible refine gate_dst (N := 9) rfl ?_); refine box_event ?hg (N := 9) ?hd (cs := #[.string (⟨#[]⟩ : ByteArray), .int .u8 0]) (t := 62) ?hr ?_; (case hd => rfl); (case hg => rfl); (case hr => first | (go_simp; done) | (go_simp; rfl)); intro gb125 hg w76 hbox hb; have n0_ := Aside0.mk (Kd.R_below (Kd.R_elderB (by (with_reducible repeat (first | apply Kd.R_alloc | apply Kd.R_drewN | apply Kd.R_drew)); exact HO_7.out) gb125 (Nat.le_of_eq hg.symm)) hb); have n1_ := Aside0.mk (blk_below (g := gb117) (o := .cells #[.string ((rd_T59 l0 a1).f0), .int .i64 ((rd_T59 l0 a1).f1), .slice (some ad124) ((rd_T59 l0 a1).f2).length c116_2] 59 (0, 0)) (by (with_reducible repeat (first | refine blk_drewN ?_ _ | refine blk_drew ?_ | refine blk_alloc ?_ _)); exact BK117.out) hb); have n2_ := Aside0.mk (below_step (by repeat (first | (with_reducible first | exact HB.out | apply below_alloc | apply pw_below_drewN | apply below_drew1 | refine below_set ?_ GE117.out) | exact HB.out)) hb); have n3_ := Aside0.mk (hbox); have n4_ := Aside0.mk ((by rw [hg]; exact (below_size (by repeat (first | (with_reducible first | exact HB.out | apply below_alloc | apply pw_below_drewN | apply below_drew1 | refine below_set ?_ GE117.out) | exact HB.out))) : w.heap.size ≤ gb125)); have n5_ := Aside0.mk ((by rw [hg]; exact (below_size (by repeat (first | (with_reducible first | exact HB.out | apply below_alloc | apply pw_below_drewN | apply below_drew1 | refine below_set ?_ GE117.out) | exact HB.out))) : w.heap.size ≤ gb125)); have n6_ := Aside0.mk ((by rw [hg]; exact Nat.ne_of_lt (blk_lt (g := gb117) (o := .cells #[.string ((rd_T59 l0 a1).f0), .int .i64 ((rd_T59 l0 a1).f1), .slice (some ad124) ((rd_T59 l0 a1).f2).length c116_2] 59 (0, 0)) (by (with_reducible repeat (first | refine blk_drewN ?_ _ | refine blk_drew ?_ | refine blk_alloc ?_ _)); exact BK117.out)) : gb117 ≠ gb125)); have n7_ := Aside0.mk ((by rw [hg]; exact Nat.ne_of_gt (blk_lt (g := gb117) (o := .cells #[.string ((rd_T59 l0 a1).f0), .int .i64 ((rd_T59 l0 a1).f1), .slice (some ad124) ((rd_T59 l0 a1).f2).length c116_2] 59 (0, 0)) (by (with_reducible repeat (first | refine blk_drewN ?_ _ | refine blk_drew ?_ | refine blk_alloc ?_ _)); exact BK117.out)) : gb125 ≠ gb117)); clear HO_7; clear BK117; clear HB; have HO_7 := n0_; have BK117 := n1_; have HB := n2_; have BK125 := n3_; have GW125 := n4_; have GE125 := n5_; have NB117_125 := n6_; have NB125_117 := n7_; clear n0_ n1_ n2_ n3_ n4_ n5_ n6_ n7_; clear hb hbox hg; have hnb77 := NB125_117.out; have hnc77 := NB117_125.out; have hcz78_0 : w76.cell? ⟨gb125, 0, none⟩ = some (.string (⟨#[]⟩ : ByteArray)) := (blk_cell BK125.out 0).trans rfl; have hcz78_1 : w76.cell? ⟨gb125, 1, none⟩ = some (.int .u8 0) := (blk_cell BK125.out 1).trans rfl; have hfz78_0 := blk_frozen BK125.out 0; have hfz78_1 := blk_frozen BK125.out 1) | (go_at_call 75; (with_reducible refine (provisoref02_IsName.calls k4 ((rd_T62 ((rd_T59 l0 a1).f2) x8_4).f0) false _ A33.out).mono ?_); rintro e w' ⟨rfl, ⟨nd, rfl⟩⟩; (try first | exact ⟨rfl, _, World.drewN_drewN _ _ _⟩ | exact ⟨rfl, _, Eq.trans (World.drewN_drewN _ _ _) (congrArg (World.drewN _) (Nat.add_assoc _ _ _))⟩)))
                                    repeat (go_quiet (first | ((with_reducible refine gate_dst (N := 9) rfl ?_); refine box_event ?hg (N := 9) ?hd (cs := #[.string (⟨#[]⟩ : ByteArray), .int .u8 0]) (t := 62) ?hr ?_; (case hd => rfl); (case hg => rfl); (case hr => first | (go_simp; done) | (go_simp; rfl)); intro gb125 hg w76 hbox hb; have n0_ := Aside0.mk (Kd.R_below (Kd.R_elderB (by (with_reducible repeat (first | apply Kd.R_alloc | apply Kd.R_drewN | apply Kd.R_drew)); exact HO_7.out) gb125 (Nat.le_of_eq hg.symm)) hb); have n1_ := Aside0.mk (blk_below (g := gb117) (o := .cells #[.string ((rd_T59 l0 a1).f0), .int .i64 ((rd_T59 l0 a1).f1), .slice (some ad124) ((rd_T59 l0 a1).f2).length c116_2] 59 (0, 0)) (by (with_reducible repeat (first | refine blk_drewN ?_ _ | refine blk_drew ?_ | refine blk_alloc ?_ _)); exact BK117.out) hb); have n2_ := Aside0.mk (below_step (by repeat (first | (with_reducible first | exact HB.out | apply below_alloc | apply pw_below_drewN | apply below_drew1 | refine below_set ?_ GE117.out) | exact HB.out)) hb); have n3_ := Aside0.mk (hbox); have n4_ := Aside0.mk ((by rw [hg]; exact (below_size (by repeat (first | (with_reducible first | exact HB.out | apply below_alloc | apply pw_below_drewN | apply below_drew1 | refine below_set ?_ GE117.out) | exact HB.out))) : w.heap.size ≤ gb125)); have n5_ := Aside0.mk ((by rw [hg]; exact (below_size (by repeat (first | (with_reducible first | exact HB.out | apply below_alloc | apply pw_below_drewN | apply below_drew1 | refine below_set ?_ GE117.out) | exact HB.out))) : w.heap.size ≤ gb125)); have n6_ := Aside0.mk ((by rw [hg]; exact Nat.ne_of_lt (blk_lt (g := gb117) (o := .cells #[.string ((rd_T59 l0 a1).f0), .int .i64 ((rd_T59 l0 a1).f1), .slice (some ad124) ((rd_T59 l0 a1).f2).length c116_2] 59 (0, 0)) (by (with_reducible repeat (first | refine blk_drewN ?_ _ | refine blk_drew ?_ | refine blk_alloc ?_ _)); exact BK117.out)) : gb117 ≠ gb125)); have n7_ := Aside0.mk ((by rw [hg]; exact Nat.ne_of_gt (blk_lt (g := gb117) (o := .cells #[.string ((rd_T59 l0 a1).f0), .int .i64 ((rd_T59 l0 a1).f1), .slice (some ad124) ((rd_T59 l0 a1).f2).length c116_2] 59 (0, 0)) (by (with_reducible repeat (first | refine blk_drewN ?_ _ | refine blk_drew ?_ | refine blk_alloc ?_ _)); exact BK117.out)) : gb125 ≠ gb117)); clear HO_7; clear BK117; clear HB; have HO_7 := n0_; have BK117 := n1_; have HB := n2_; have BK125 := n3_; have GW125 := n4_; have GE125 := n5_; have NB117_125 := n6_; have NB125_117 := n7_; clear n0_ n1_ n2_ n3_ n4_ n5_ n6_ n7_; clear hb hbox hg; have hnb77 := NB125_117.out; have hnc77 := NB117_125.out; have hcz78_0 : w76.cell? ⟨gb125, 0, none⟩ = some (.string (⟨#[]⟩ : ByteArray)) := (blk_cell BK125.out 0).trans rfl; have hcz78_1 : w76.cell? ⟨gb125, 1, none⟩ = some (.int .u8 0) := (blk_cell BK125.out 1).trans rfl; have hfz78_0 := blk_frozen BK125.out 0; have hfz78_1 := blk_frozen BK125.out 1) | (go_at_call 75; (with_reducible refine (provisoref02_IsName.calls k4 ((rd_T62 ((rd_T59 l0 a1).f2) x8_4).f0) false _ A33.out).mono ?_); rintro e w' ⟨rfl, ⟨nd, rfl⟩⟩; (try first | exact ⟨rfl, _, World.drewN_drewN _ _ _⟩ | exact ⟨rfl, _, Eq.trans (World.drewN_drewN _ _ _) (congrArg (World.drewN _) (Nat.add_assoc _ _ _))⟩))); try go_wp2_with (first | ((with_reducible refine gate_dst (N := 9) rfl ?_); refine box_event ?hg (N := 9) ?hd (cs := #[.string (⟨#[]⟩ : ByteArray), .int .u8 0]) (t := 62) ?hr ?_; (case hd => rfl); (case hg => rfl); (case hr => first | (go_simp; done) | (go_simp; rfl)); intro gb125 hg w76 hbox hb; have n0_ := Aside0.mk (Kd.R_below (Kd.R_elderB (by (with_reducible repeat (first | apply Kd.R_alloc | apply Kd.R_drewN | apply Kd.R_drew)); exact HO_7.out) gb125 (Nat.le_of_eq hg.symm)) hb); have n1_ := Aside0.mk (blk_below (g := gb117) (o := .cells #[.string ((rd_T59 l0 a1).f0), .int .i64 ((rd_T59 l0 a1).f1), .slice (some ad124) ((rd_T59 l0 a1).f2).length c116_2] 59 (0, 0)) (by (with_reducible repeat (first | refine blk_drewN ?_ _ | refine blk_drew ?_ | refine blk_alloc ?_ _)); exact BK117.out) hb); have n2_ := Aside0.mk (below_step (by repeat (first | (with_reducible first | exact HB.out | apply below_alloc | apply pw_below_drewN | apply below_drew1 | refine below_set ?_ GE117.out) | exact HB.out)) hb); have n3_ := Aside0.mk (hbox); have n4_ := Aside0.mk ((by rw [hg]; exact (below_size (by repeat (first | (with_reducible first | exact HB.out | apply below_alloc | apply pw_below_drewN | apply below_drew1 | refine below_set ?_ GE117.out) | exact HB.out))) : w.heap.size ≤ gb125)); have n5_ := Aside0.mk ((by rw [hg]; exact (below_size (by repeat (first | (with_reducible first | exact HB.out | apply below_alloc | apply pw_below_drewN | apply below_drew1 | refine below_set ?_ GE117.out) | exact HB.out))) : w.heap.size ≤ gb125)); have n6_ := Aside0.mk ((by rw [hg]; exact Nat.ne_of_lt (blk_lt (g := gb117) (o := .cells #[.string ((rd_T59 l0 a1).f0), .int .i64 ((rd_T59 l0 a1).f1), .slice (some ad124) ((rd_T59 l0 a1).f2).length c116_2] 59 (0, 0)) (by (with_reducible repeat (first | refine blk_drewN ?_ _ | refine blk_drew ?_ | refine blk_alloc ?_ _)); exact BK117.out)) : gb117 ≠ gb125)); have n7_ := Aside0.mk ((by rw [hg]; exact Nat.ne_of_gt (blk_lt (g := gb117) (o := .cells #[.string ((rd_T59 l0 a1).f0), .int .i64 ((rd_T59 l0 a1).f1), .slice (some ad124) ((rd_T59 l0 a1).f2).length c116_2] 59 (0, 0)) (by (with_reducible repeat (first | refine blk_drewN ?_ _ | refine blk_drew ?_ | refine blk_alloc ?_ _)); exact BK117.out)) : gb125 ≠ gb117)); clear HO_7; clear BK117; clear HB; have HO_7 := n0_; have BK117 := n1_; have HB := n2_; have BK125 := n3_; have GW125 := n4_; have GE125 := n5_; have NB117_125 := n6_; have NB125_117 := n7_; clear n0_ n1_ n2_ n3_ n4_ n5_ n6_ n7_; clear hb hbox hg; have hnb77 := NB125_117.out; have hnc77 := NB117_125.out; have hcz78_0 : w76.cell? ⟨gb125, 0, none⟩ = some (.string (⟨#[]⟩ : ByteArray)) := (blk_cell BK125.out 0).trans rfl; have hcz78_1 : w76.cell? ⟨gb125, 1, none⟩ = some (.int .u8 0) := (blk_cell BK125.out 1).trans rfl; have hfz78_0 := blk_frozen BK125.out 0; have hfz78_1 := blk_frozen BK125.out 1) | (go_at_call 75; (with_reducible refine (provisoref02_IsName.calls k4 ((rd_T62 ((rd_T59 l0 a1).f2) x8_4).f0) false _ A33.out).mono ?_); rintro e w' ⟨rfl, ⟨nd, rfl⟩⟩; (try first | exact ⟨rfl, _, World.drewN_drewN _ _ _⟩ | exact ⟨rfl, _, Eq.trans (World.drewN_drewN _ _ _) (congrArg (World.drewN _) (Nat.add_assoc _ _ _))⟩))))
                                    go_ret
                                    exact ⟨by first | rfl | (simp [errW_none, errW_some] <;> rfl) | (simp [*, errW_none, errW_some] <;> rfl), by repeat (first | (with_reducible first | exact HB.out | apply below_alloc | apply pw_below_drewN | apply below_drew1 | refine below_set ?_ GE117.out | refine below_set ?_ GE125.out) | exact HB.out)⟩
                                · rw [if_neg c32] at H
                                  exact absurd H (by simp)
                              · rw [if_neg c31] at H
                                have c31b0 : decide (x8_4 < (((rd_T59 l0 a1).f2).length : Int)) = false := decide_eq_false c31
                                clear c31
                                by_cases c79 : (((rd_T59 l0 a1).f2).length : Int) > (wrap64 (32 - (t121.length : Int)))
                                · rw [if_pos c79] at H
                                  have c79b0 : decide ((wrap64 (32 - (t121.length : Int))) < (((rd_T59 l0 a1).f2).length : Int)) = true := decide_eq_true c79
                                  clear c79
                                  obtain rfl := Option.some.inj H
                                  have hcz80_0 : wr.cell? ⟨gb117, 0, none⟩ = some (.string ((rd_T59 l0 a1).f0)) := (blk_cell BK117.out 0).trans rfl
                                  have hcz80_1 : wr.cell? ⟨gb117, 1, none⟩ = some (.int .i64 ((rd_T59 l0 a1).f1)) := (blk_cell BK117.out 1).trans rfl
                                  have hcz80_2 : wr.cell? ⟨gb117, 2, none⟩ = some (.slice A116_2 ((rd_T59 l0 a1).f2).length c116_2) := (blk_cell BK117.out 2).trans rfl
                                  have hfz80_0 := blk_frozen BK117.out 0
                                  have hfz80_1 := blk_frozen BK117.out 1
                                  have hfz80_2 := blk_frozen BK117.out 2
                                  obtain ⟨Ao81, co81, eo81⟩ := Kd.R_slice HO_7.out
                                  subst eo81
                                  go_wp2
                                  repeat (go_quiet (fail); try go_wp2)
                                  go_ret
                                  exact ⟨by first | rfl | (simp [errW_none, errW_some] <;> rfl) | (simp [*, errW_none, errW_some] <;> rfl), by repeat (first | (with_reducible first | exact HB.out | apply below_alloc | apply pw_below_drewN | apply below_drew1 | refine below_set ?_ GE117.out) | exact HB.out)⟩
                                · rw [if_neg c79] at H
                                  have c79b0 : decide ((wrap64 (32 - (t121.length : Int))) < (((rd_T59 l0 a1).f2).length : Int)) = false := decide_eq_false c79
                                  clear c79
                                  obtain rfl := Option.some.inj H
                                  have hcz82_0 : wr.cell? ⟨gb117, 0, none⟩ = some (.string ((rd_T59 l0 a1).f0)) := (blk_cell BK117.out 0).trans rfl
                                  have hcz82_1 : wr.cell? ⟨gb117, 1, none⟩ = some (.int .i64 ((rd_T59 l0 a1).f1)) := (blk_cell BK117.out 1).trans rfl
                                  have hcz82_2 : wr.cell? ⟨gb117, 2, none⟩ = some (.slice A116_2 ((rd_T59 l0 a1).f2).length c116_2) := (blk_cell BK117.out 2).trans rfl
                                  have hfz82_0 := blk_frozen BK117.out 0
                                  have hfz82_1 := blk_frozen BK117.out 1
                                  have hfz82_2 := blk_frozen BK117.out 2
                                  obtain ⟨Ao83, co83, eo83⟩ := Kd.R_slice HO_7.out
                                  subst eo83
                                  go_wp2
                                  repeat (go_quiet (fail); try go_wp2)
                                  go_ret
                                  exact ⟨by first | rfl | (simp [errW_none, errW_some] <;> rfl) | (simp [*, errW_none, errW_some] <;> rfl), by repeat (first | (with_reducible first | exact HB.out | apply below_alloc | apply pw_below_drewN | apply below_drew1 | refine below_set ?_ GE117.out) | exact HB.out)⟩
    · rw [if_neg c4] at H
      exact absurd H (by simp)
  · rw [if_neg c3] at H
    exact absurd H (by simp)

end Go.Proofs.Ytgjnmpgmbhbbhaa.P

end

section
namespace Go.Proofs.Ytgjnmpgmbhbbhaa.P
open Go.RowKit Go.Proofs.YtgjnmpgmbhbbhaaW.PrintWords Go.Proofs.YtgjnmpgmbhbbhaaW.PrintLast Go.Proofs.YtgjnmpgmbhbbhaaW.PrintMore
attribute [local go_sem] max2_int min2_int max_two min_two max_three min_three max_four min_four   -- for this text's walks alone
set_option linter.unusedVariables false
set_option linter.unusedSimpArgs false

attribute [local go_sem high] eqA62
def provisoref02_Check.l0 : Nat → List (S59) → Int → Option (Int × Int)
  | 0, _, _ => none
  | k + 1, x0, x4 => if x4 < (x0.length : Int) then ((provisoref02_fault.f k x0 x4).bind fun t134 => (if t134 = 0 then (provisoref02_Check.l0 k x0 (wrap64 (x4 + 1))) else (some (x4, t134)))) else (some (0, 0))
def provisoref02_Check.f (k : Nat) (l0 : List (S59)) : Option (Int × Int) := provisoref02_Check.l0 k l0 0
set_option maxHeartbeats 8000000 in
set_option maxRecDepth 100000 in
theorem provisoref02_Check.calls (k : Nat) (A0 : Option Addr) (c0 : Nat) (l0 : List (S59)) (r1 : Int) (r2 : Int) (w : World) (hr0 : Kd.C k59 w A0 l0.length l0) (hc0 : l0.length ≤ c0) (h : provisoref02_Check.f k l0 = some (r1, r2)) :
    Calls Try.prog 40 #[.slice A0 l0.length c0] w fun e w' => e = .returned (.tuple #[.int .i64 r1, .int .i64 r2]) ∧ Below w.heap.size w w' := by
  have HR0 := Aside0.mk hr0
  have HC0 := Aside0.mk hc0
  clear hr0 hc0
  have HB := Aside0.mk (Below.refl w.heap.size w)
  have H : (provisoref02_Check.l0 k l0 0) = some (r1, r2) := h
  clear h
  have H' := Aside0.mk H
  clear H
  go_enter Try.func40, Try.ntmps40
  go_wp2
  go_loopg [4] k (fun kq v4 w' => ∃ (x4_1 : Int), v4 = .int .i64 x4_1 ∧ Aside0 (provisoref02_Check.l0 kq l0 x4_1 = some (r1, r2)) ∧ Aside0 (kq ≤ k) ∧ Aside0 (Below w.heap.size w w'))
  case atStart => exact ⟨(0), (by first | rfl | (simp; done) | (simp [*]; done)), H', ⟨Nat.le_refl _⟩, ⟨by repeat (first | (with_reducible first | exact HB.out | apply below_alloc | apply pw_below_drewN | apply below_drew1) | exact HB.out)⟩⟩
  case round =>
    clear H'
    obtain ⟨x4_1, rfl, HA, HK1, HB⟩ := hrel
    cases gk with
    | zero => exact absurd HA.out (by simp [provisoref02_Check.l0])
    | succ k1 =>
      have H := HA.out
      clear HA
      simp only [provisoref02_Check.l0] at H
      by_cases c2 : x4_1 < (l0.length : Int)
      · rw [if_pos c2] at H
        have c2b0 : decide (x4_1 < (l0.length : Int)) = true := decide_eq_true c2
        clear c2
        replace H := Option.bind_eq_some_iff.mp H
        obtain ⟨t134, A30, H⟩ := H
        replace H : (if t134 = 0 then (provisoref02_Check.l0 k1 l0 (wrap64 (x4_1 + 1))) else (some (x4_1, t134))) = some (r1, r2) := H
        have A3 := Aside0.mk A30
        clear A30
        by_cases c4 : t134 = 0
        · rw [if_pos c4] at H
          have c4b0 : (t134 == 0) = true := beq_iff_eq.mpr c4
          have c4b1 : (t134 != 0) = false := bne_eq_false_iff_eq.mpr c4
          clear c4
          have H' := Aside0.mk H
          clear H
          go_wp2_with (first | ((with_reducible refine gate_callee (f := 60) rfl ?_); refine goesL_ (some 14) rfl rfl Try.func60 (by kernel_rfl) rfl #[.slice A0 l0.length c0, .int .i64 x4_1] rfl (by (try simp only [List.map_toArray, List.map_cons, List.map_nil]); first | done | rfl | (simp only [List.length_drop, List.length_take]; rfl)) ?_; (with_reducible refine (provisoref02_fault.calls k1 _ _ l0 x4_1 t134 _ ?side1 ?side2 A3.out).mono ?_); (case side1 => repeat (first | exact (Kd.C_below HR0.out HB.out) | (with_reducible refine Kd.C_alloc ?_ _) | (with_reducible refine Kd.C_drewN ?_ _) | (with_reducible refine Kd.C_drew ?_))); (case side2 => exact HC0.out); rintro e w5 ⟨rfl, hb⟩; refine ⟨_, rfl, ?_⟩; have n0_ := Aside0.mk (below_step (by repeat (first | (with_reducible first | exact HB.out | apply below_alloc | apply pw_below_drewN | apply below_drew1) | exact HB.out)) hb); clear HB; have HB := n0_; clear n0_; (try clear hb); (try clear hb2); (try clear hk); (try clear hi)))
          go_roundg k1
          case measure => have := HK1.out; omega
          case rel => exact ⟨(wrap64 (x4_1 + 1)), (by first | rfl | (simp; done) | (simp [*]; done)), H', ⟨by have := HK1.out; omega⟩, ⟨by repeat (first | (with_reducible first | exact HB.out | apply below_alloc | apply pw_below_drewN | apply below_drew1) | exact HB.out)⟩⟩
        · rw [if_neg c4] at H
          have c4b0 : (t134 == 0) = false := beq_eq_false_iff_ne.mpr c4
          have c4b1 : (t134 != 0) = true := bne_iff_ne.mpr c4
          simp only [Option.some.injEq, Prod.mk.injEq] at H
          obtain ⟨rfl, rfl⟩ := H
          go_wp2_with (first | ((with_reducible refine gate_callee (f := 60) rfl ?_); refine goesL_ (some 14) rfl rfl Try.func60 (by kernel_rfl) rfl #[.slice A0 l0.length c0, .int .i64 x4_1] rfl (by (try simp only [List.map_toArray, List.map_cons, List.map_nil]); first | done | rfl | (simp only [List.length_drop, List.length_take]; rfl)) ?_; (with_reducible refine (provisoref02_fault.calls k1 _ _ l0 x4_1 t134 _ ?side1 ?side2 A3.out).mono ?_); (case side1 => repeat (first | exact (Kd.C_below HR0.out HB.out) | (with_reducible refine Kd.C_alloc ?_ _) | (with_reducible refine Kd.C_drewN ?_ _) | (with_reducible refine Kd.C_drew ?_))); (case side2 => exact HC0.out); rintro e w6 ⟨rfl, hb⟩; refine ⟨_, rfl, ?_⟩; have n0_ := Aside0.mk (below_step (by repeat (first | (with_reducible first | exact HB.out | apply below_alloc | apply pw_below_drewN | apply below_drew1) | exact HB.out)) hb); clear HB; have HB := n0_; clear n0_; (try clear hb); (try clear hb2); (try clear hk); (try clear hi)))
          go_ret2
          exact ⟨by first | rfl | (simp [errW_none, errW_some] <;> rfl) | (simp [*, errW_none, errW_some] <;> rfl), by repeat (first | (with_reducible first | exact HB.out | apply below_alloc | apply pw_below_drewN | apply below_drew1) | exact HB.out)⟩
      · rw [if_neg c2] at H
        have c2b0 : decide (x4_1 < (l0.length : Int)) = false := decide_eq_false c2
        clear c2
        simp only [Option.some.injEq, Prod.mk.injEq] at H
        obtain ⟨rfl, rfl⟩ := H
        go_wp2
        go_ret2
        exact ⟨by first | rfl | (simp [errW_none, errW_some] <;> rfl) | (simp [*, errW_none, errW_some] <;> rfl), by repeat (first | (with_reducible first | exact HB.out | apply below_alloc | apply pw_below_drewN | apply below_drew1) | exact HB.out)⟩

def provisolaw03_table.f (k : Nat) (l0 : List (S59)) : Option (Bool) := (provisoref02_Check.f k l0).bind fun bt135 => (some (bt135.2 == 0))
set_option maxHeartbeats 8000000 in
set_option maxRecDepth 100000 in
theorem provisolaw03_table.calls (k : Nat) (A0 : Option Addr) (c0 : Nat) (l0 : List (S59)) (r : Bool) (w : World) (hr0 : Kd.C k59 w A0 l0.length l0) (hc0 : l0.length ≤ c0) (h : provisolaw03_table.f k l0 = some r) :
    Calls Try.prog 13 #[.slice A0 l0.length c0] w fun e w' => e = .returned (.bool r) ∧ Below w.heap.size w w' := by
  have HR0 := Aside0.mk hr0
  have HC0 := Aside0.mk hc0
  clear hr0 hc0
  have HB := Aside0.mk (Below.refl w.heap.size w)
  have H : ((provisoref02_Check.f k l0).bind fun bt135 => (some (bt135.2 == 0))) = some r := h
  clear h
  replace H := Option.bind_eq_some_iff.mp H
  obtain ⟨⟨t135, t136⟩, A20, H⟩ := H
  replace H : (some (t136 == 0)) = some r := H
  have A2 := Aside0.mk A20
  clear A20
  obtain rfl := Option.some.inj H
  go_enter Try.func13, Try.ntmps13
  go_wp2_with (first | ((with_reducible refine gate_callee (f := 40) rfl ?_); refine goesL_ (some 7) rfl rfl Try.func40 (by kernel_rfl) rfl #[.slice A0 l0.length c0] rfl (by (try simp only [List.map_toArray, List.map_cons, List.map_nil]); first | done | rfl | (simp only [List.length_drop, List.length_take]; rfl)) ?_; (with_reducible refine (provisoref02_Check.calls k _ _ l0 t135 t136 _ ?side1 ?side2 A2.out).mono ?_); (case side1 => repeat (first | exact HR0.out | (with_reducible refine Kd.C_alloc ?_ _) | (with_reducible refine Kd.C_drewN ?_ _) | (with_reducible refine Kd.C_drew ?_))); (case side2 => exact HC0.out); rintro e w3 ⟨rfl, hb⟩; refine ⟨_, rfl, ?_⟩; have n0_ := Aside0.mk (below_step (by repeat (first | (with_reducible first | exact HB.out | apply below_alloc | apply pw_below_drewN | apply below_drew1) | exact HB.out)) hb); clear HB; have HB := n0_; clear n0_; (try clear hb); (try clear hb2); (try clear hk); (try clear hi)))
  go_ret
  exact ⟨by first | rfl | (simp [errW_none, errW_some] <;> rfl) | (simp [*, errW_none, errW_some] <;> rfl), by repeat (first | (with_reducible first | exact HB.out | apply below_alloc | apply pw_below_drewN | apply below_drew1) | exact HB.out)⟩

def api_Field_41.f (l0 : List S62) : Option (List S62) := if l0.length < 5864062014805 then some l0 else none
set_option maxHeartbeats 800000 in
set_option maxRecDepth 100000 in
theorem api_Field_41.calls (A0 : Option Addr) (c0 : Nat) (l0 : List S62) (r : List S62) (w : World) (hr0 : Kd.C k62 w A0 l0.length l0) (hc0 : l0.length ≤ c0) (h : api_Field_41.f l0 = some r) :
    Calls Try.prog 41 #[.slice A0 l0.length c0] w fun e w' => ∃ v0_ : Value, e = .returned v0_ ∧ Kd.R k62 62 w' w.heap.size (fun _ => True) v0_ r ∧ Below w.heap.size w w' := by
  obtain ⟨hlim, rfl⟩ : l0.length < 5864062014805 ∧ r = l0 := by
    unfold api_Field_41.f at h
    split at h
    · rename_i h9
      exact ⟨h9, (Option.some.inj h).symm⟩
    · cases h
  have hnil := Lib.run_eql_slice_nil (P := Try.prog) (h := Try.underlying57)
  have HR := Aside0.mk hr0
  have HL := Aside0.mk hlim
  cases A0 with
  | none =>
    have e0 : r = [] := by
      rcases Nat.eq_zero_or_pos r.length with h0 | h0
      · exact List.length_eq_zero_iff.1 h0
      · obtain ⟨ad, e, _⟩ := hr0.2.2 h0
        cases e
    have E0 := Aside0.mk e0
    clear h hr0 hlim e0
    go_enter Try.func41, Try.ntmps41
    go_wp2
    go_ret
    refine ⟨_, rfl, ?_, Below.refl _ _⟩
    rw [E0.out]
    exact Kd.R_nil _ _ _ _ _
  | some ad =>
    clear h hr0 hlim
    go_enter Try.func41, Try.ntmps41
    go_wp2_with (first | ((with_reducible refine gate_dst (N := 5) rfl ?_); refine Kd.R_lit k62 _ 62 ?hg (N := 5) ?hd (xs := ([] : List S62)) (inner := []) (ok := fun _ => True) (okp := fun _ => True) ?hr ?hp (fun _ hk => hk) trivial (Below.refl _ _) (Nat.le_refl _) (by simp) ?_; (case hd => rfl); (case hg => rfl); (case hr => first | (go_simp; done) | (go_simp; rfl)); (case hp => exact (Reps.none _ _)); intro v1 w1 ho1 hb1 _ _; have n1 := Aside0.mk ho1; have n2 := Aside0.mk hb1; clear ho1 hb1; obtain ⟨A1, c1, e1⟩ := Kd.R_slice n1.out; subst e1) | ((with_reducible refine gate_builtin (b := .append) (xs := #[.tmp 5, .tmp 6]) rfl ?_); at_builtin; refine Kd.R_append_rows k62 (w0 := w) w.heap.size rfl (.tmp 5) (.tmp 6) 57 62 (.agg #[(.string ⟨#[]⟩), (.int .u8 0)]) 24 rfl Try.underlying57 info62 rfl (by decide) (by omega) (.slice A1 (([] : List S62)).length c1) ([] : List S62) r _ _ _ (fun _ => True) (fun _ => False) rfl rfl ?aO ?aR (fun _ _ h => h) (fun _ h => h.elim) ?aF ?aB ?aS ?aL ?_; (case aR => exact Kd.C_below HR.out n2.out); (case aB => exact n2.out); (case aF => exact (fun _ _ => trivial)); (case aO => exact n1.out); (case aS => exact n2.out.size); (case aL => have h9 := HL.out; simp only [List.length_nil]; omega); intro v2 w2 ho2 hb2 _ _; have n3 := Aside0.mk ho2; have n4 := Aside0.mk hb2; clear ho2 hb2))
    go_ret
    exact ⟨_, rfl, n3.out, n4.out⟩

def provisoplain_Classes.l0 : Nat → List (S59) → List (S59) → Int → Int → Option ((List (S59)))
  | 0, _, _, _, _ => none
  | k + 1, x3, x6, x7, x8 => if x8 < x7 then (if 0 ≤ x8 then (if x8 < (x6.length : Int) then ((api_Field_41.f ((rd_T59 x6 x8).f2)).bind fun t139 => (if x3.length < 2932031007402 then (provisoplain_Classes.l0 k (x3 ++ [(⟨(rd_T59 x6 x8).f0, (rd_T59 x6 x8).f1, t139⟩ : S59)]) x6 x7 (wrap64 (x8 + 1))) else (none))) else (none)) else (none)) else (some x3)
def provisoplain_Classes.f (k : Nat) (l0 : List (S59)) : Option ((List (S59))) := provisoplain_Classes.l0 k ([] : List (S59)) l0 (l0.length : Int) 0
set_option maxHeartbeats 8000000 in
set_option maxRecDepth 100000 in
theorem provisoplain_Classes.calls (k : Nat) (A0 : Option Addr) (c0 : Nat) (l0 : List (S59)) (r : List (S59)) (w : World) (hr0 : Kd.C k59 w A0 l0.length l0) (hc0 : l0.length ≤ c0) (h : provisoplain_Classes.f k l0 = some r) :
    Calls Try.prog 14 #[.slice A0 l0.length c0] w fun e w' => ∃ v0_ : Value, e = .returned (v0_) ∧ Kd.S k59 59 w' w.heap.size (fun _ => True) v0_ r ∧ Below w.heap.size w w' := by
  have hu59 := Try.underlying59
  have HR0 := Aside0.mk hr0
  have HC0 := Aside0.mk hc0
  clear hr0 hc0
  have HB := Aside0.mk (Below.refl w.heap.size w)
  have H : (provisoplain_Classes.l0 k ([] : List (S59)) l0 (l0.length : Int) 0) = some r := h
  clear h
  have H' := Aside0.mk H
  clear H
  go_enter Try.func14, Try.ntmps14
  go_wp2
  go_loopg [3, 8] k (fun kq v3 v8 w' => ∃ (x3_1 : List (S59)) (x8_1 : Int), v8 = .int .i64 x8_1 ∧ Aside0 (provisoplain_Classes.l0 kq x3_1 l0 (l0.length : Int) x8_1 = some r) ∧ Aside0 (kq ≤ k) ∧ Aside0 (Kd.S k59 59 w' w.heap.size (fun _ => True) v3 x3_1) ∧ Aside0 (Below w.heap.size w w'))
  case atStart => exact ⟨(([] : List (S59))), (0), (by first | rfl | (simp; done) | (simp [*]; done)), H', ⟨Nat.le_refl _⟩, ⟨by first | exact Kd.S_nil _ _ _ _ _ | exact Kd.N_nil _ _ _ _ _ | exact Kd.V_nil _ _ _ _ _ | exact Kd.Q_nil _ _ _ _ _ | exact Kd.R_nil _ _ _ _ _⟩, ⟨by repeat (first | (with_reducible first | exact HB.out | apply below_alloc | apply pw_below_drewN | apply below_drew1) | exact HB.out)⟩⟩
  case round =>
    clear H'
    try clear c1
    obtain ⟨x3_1, x8_1, rfl, HA, HK1, HO_3, HB⟩ := hrel
    cases gk with
    | zero => exact absurd HA.out (by simp [provisoplain_Classes.l0])
    | succ k1 =>
      have H := HA.out
      clear HA
      simp only [provisoplain_Classes.l0] at H
      by_cases c2 : x8_1 < (l0.length : Int)
      · rw [if_pos c2] at H
        have c2b0 : decide (x8_1 < (l0.length : Int)) = true := decide_eq_true c2
        clear c2
        by_cases c3 : 0 ≤ x8_1
        · rw [if_pos c3] at H
          have c3b0 : decide (0 ≤ x8_1) = true := decide_eq_true c3
          clear c3
          by_cases c4 : x8_1 < (l0.length : Int)
          · rw [if_pos c4] at H
            have c4b0 : decide (x8_1 < (l0.length : Int)) = true := decide_eq_true c4
            clear c4
            replace H := Option.bind_eq_some_iff.mp H
            obtain ⟨t139, A50, H⟩ := H
            replace H : (if x3_1.length < 2932031007402 then (provisoplain_Classes.l0 k1 (x3_1 ++ [(⟨(rd_T59 l0 x8_1).f0, (rd_T59 l0 x8_1).f1, t139⟩ : S59)]) l0 (l0.length : Int) (wrap64 (x8_1 + 1))) else (none)) = some r := H
            have A5 := Aside0.mk A50
            clear A50
            by_cases c6 : x3_1.length < 2932031007402
            · rw [if_pos c6] at H
              have LMc6 := Aside0.mk c6
              clear c6
              obtain ⟨y142, hy142⟩ : ∃ y_ : List (S59), y_ = (x3_1 ++ [(⟨(rd_T59 l0 x8_1).f0, (rd_T59 l0 x8_1).f1, t139⟩ : S59)]) := ⟨_, rfl⟩
              replace H : (provisoplain_Classes.l0 k1 y142 l0 (l0.length : Int) (wrap64 (x8_1 + 1))) = some r := by first | (rw [hy142]; with_reducible exact H) | (have H2_ := (Option.bind_some _ _).symm.trans H; rw [hy142]; with_reducible exact H2_) | (have H2_ := (Option.bind_some _ _).symm.trans H; with_reducible exact H2_) | with_reducible exact H | (rw [hy142]; exact H) | exact H
              have Ny142 := Aside0.mk hy142
              clear hy142
              have H' := Aside0.mk H
              clear H
              have p137 : 0 ≤ (x8_1 : Int) := of_decide_eq_true (by first | (with_reducible assumption) | assumption)
              have q137 : x8_1 < (l0.length : Int) := of_decide_eq_true (by first | (with_reducible assumption) | assumption)
              obtain ⟨ad137, A137_2, c137_2, e137, hx137_0, hx137_1, hx137_2, hl137_2, hi137_2⟩ := at_T59 HR0.out x8_1 p137 q137
              cases e137
              replace hx137_0 := (HB.out.cell (World.block_lt_of_cell? w _ hx137_0)).trans hx137_0
              replace hx137_1 := (HB.out.cell (World.block_lt_of_cell? w _ hx137_1)).trans hx137_1
              replace hx137_2 := (HB.out.cell (World.block_lt_of_cell? w _ hx137_2)).trans hx137_2
              have HR137_2 := Aside0.mk hi137_2
              have HC137_2 := Aside0.mk hl137_2
              clear hi137_2 hl137_2
              replace p137 := eq_true p137
              replace q137 := eq_true q137
              go_wp2_with (first | ((with_reducible refine gate_dst (N := 5) rfl ?_); refine box_event ?hg (N := 5) ?hd (cs := #[.string (⟨#[]⟩ : ByteArray), .int .i64 0, .slice none 0 0]) (t := 59) ?hr ?_; (case hd => rfl); (case hg => rfl); (case hr => first | (go_simp; done) | (go_simp; rfl)); intro gb138 hg w7 hbox hb; have n0_ := Aside0.mk (Kd.S_below (Kd.S_elderB (by (with_reducible repeat (first | apply Kd.S_alloc | apply Kd.S_drewN | apply Kd.S_drew)); exact HO_3.out) gb138 (Nat.le_of_eq hg.symm)) hb); have n1_ := Aside0.mk (below_step (by repeat (first | (with_reducible first | exact HB.out | apply below_alloc | apply pw_below_drewN | apply below_drew1) | exact HB.out)) hb); have n2_ := Aside0.mk (hbox); have n3_ := Aside0.mk ((by rw [hg]; exact (below_size (by repeat (first | (with_reducible first | exact HB.out | apply below_alloc | apply pw_below_drewN | apply below_drew1) | exact HB.out))) : w.heap.size ≤ gb138)); have n4_ := Aside0.mk ((by rw [hg]; exact (below_size (by repeat (first | (with_reducible first | exact HB.out | apply below_alloc | apply pw_below_drewN | apply below_drew1) | exact HB.out))) : w.heap.size ≤ gb138)); clear HO_3; clear HB; have HO_3 := n0_; have HB := n1_; have BK138 := n2_; have GW138 := n3_; have GE138 := n4_; clear n0_ n1_ n2_ n3_ n4_; clear hb hbox hg; have hcz8_0 : w7.cell? ⟨gb138, 0, none⟩ = some (.string (⟨#[]⟩ : ByteArray)) := (blk_cell BK138.out 0).trans rfl; have hcz8_1 : w7.cell? ⟨gb138, 1, none⟩ = some (.int .i64 0) := (blk_cell BK138.out 1).trans rfl; have hcz8_2 : w7.cell? ⟨gb138, 2, none⟩ = some (.slice none 0 0) := (blk_cell BK138.out 2).trans rfl; have hfz8_0 := blk_frozen BK138.out 0; have hfz8_1 := blk_frozen BK138.out 1; have hfz8_2 := blk_frozen BK138.out 2) | ((with_reducible refine gate_callee (f := 41) rfl ?_); refine goesL_ (some 14) rfl rfl Try.func41 (by kernel_rfl) rfl #[.slice A137_2 ((rd_T59 l0 x8_1).f2).length c137_2] rfl (by (try simp only [List.map_toArray, List.map_cons, List.map_nil]); first | done | rfl | (simp only [List.length_drop, List.length_take]; rfl)) ?_; (with_reducible refine (api_Field_41.calls _ _ ((rd_T59 l0 x8_1).f2) t139 _ ?side1 ?side2 A5.out).mono ?_); (case side1 => exact Kd.C_below HR137_2.out (by repeat (first | (with_reducible first | exact HB.out | apply below_alloc | apply pw_below_drewN | apply below_drew1 | refine below_set ?_ GE138.out) | exact HB.out))); (case side2 => exact HC137_2.out); rintro e w9 ⟨v140, rfl, ho0, hb⟩; refine ⟨_, rfl, ?_⟩; have n0_ := Aside0.mk (Kd.S_elder' (by (with_reducible repeat (first | apply Kd.S_alloc | apply Kd.S_drewN | apply Kd.S_drew)); exact (Kd.S_mono (Kd.S_far (p := ⟨gb138, 2, none⟩) (Kd.S_far (p := ⟨gb138, 1, none⟩) (Kd.S_far (p := ⟨gb138, 0, none⟩) (Kd.S_mono HO_3.out (fun k_ hk => (⟨hk, hk.2⟩ : _ ∧ k_ ≠ gb138))) (fun _ hk => hk.2) (.string ((rd_T59 l0 x8_1).f0))) (fun _ hk => hk.2) (.int .i64 ((rd_T59 l0 x8_1).f1))) (fun _ hk => hk.2) (.slice A137_2 ((rd_T59 l0 x8_1).f2).length c137_2)) (fun _ h_ => h_.1))) (Kd.R_base ho0) hb); have n1_ := Aside0.mk (Kd.R_lower ho0 (below_size (by repeat (first | (with_reducible first | exact HB.out | apply below_alloc | apply pw_below_drewN | apply below_drew1 | refine below_set ?_ GE138.out) | exact HB.out)))); have n2_ := Aside0.mk (blk_below (g := gb138) (o := .cells #[.string ((rd_T59 l0 x8_1).f0), .int .i64 ((rd_T59 l0 x8_1).f1), .slice A137_2 ((rd_T59 l0 x8_1).f2).length c137_2] 59 (0, 0)) (by (with_reducible repeat (first | refine blk_drewN ?_ _ | refine blk_drew ?_ | refine blk_alloc ?_ _)); refine blk_put (cs := #[.string ((rd_T59 l0 x8_1).f0), .int .i64 ((rd_T59 l0 x8_1).f1), .slice none 0 0]) ?_ 2 _ rfl; (with_reducible repeat (first | refine blk_drewN ?_ _ | refine blk_drew ?_ | refine blk_alloc ?_ _)); refine blk_put (cs := #[.string ((rd_T59 l0 x8_1).f0), .int .i64 0, .slice none 0 0]) ?_ 1 _ rfl; (with_reducible repeat (first | refine blk_drewN ?_ _ | refine blk_drew ?_ | refine blk_alloc ?_ _)); refine blk_put (cs := #[.string (⟨#[]⟩ : ByteArray), .int .i64 0, .slice none 0 0]) ?_ 0 _ rfl; (with_reducible repeat (first | refine blk_drewN ?_ _ | refine blk_drew ?_ | refine blk_alloc ?_ _)); exact BK138.out) hb); have n3_ := Aside0.mk (below_step (by repeat (first | (with_reducible first | exact HB.out | apply below_alloc | apply pw_below_drewN | apply below_drew1 | refine below_set ?_ GE138.out) | exact HB.out)) hb); clear HO_3; clear BK138; clear HB; have HO_3 := n0_; have HO141 := n1_; have BK138 := n2_; have HB := n3_; clear n0_ n1_ n2_ n3_; (try clear hb); (try clear hb2); (try clear hk); (try clear hi); (try clear ho0); obtain ⟨Ao10, co10, eo10⟩ := Kd.R_slice HO141.out; subst eo10; have hcz11_0 : w9.cell? ⟨gb138, 0, none⟩ = some (.string ((rd_T59 l0 x8_1).f0)) := (blk_cell BK138.out 0).trans rfl; have hcz11_1 : w9.cell? ⟨gb138, 1, none⟩ = some (.int .i64 ((rd_T59 l0 x8_1).f1)) := (blk_cell BK138.out 1).trans rfl; have hcz11_2 : w9.cell? ⟨gb138, 2, none⟩ = some (.slice A137_2 ((rd_T59 l0 x8_1).f2).length c137_2) := (blk_cell BK138.out 2).trans rfl; have hfz11_0 := blk_frozen BK138.out 0; have hfz11_1 := blk_frozen BK138.out 1; have hfz11_2 := blk_frozen BK138.out 2) | ((with_reducible refine gate_store (t := 57) (p := 15) rfl ?_); refine store_event (t := 57) (p := 15) (v := ?vo_w12) (w1 := (w9.setCell ⟨gb138, 2, none⟩ (.slice Ao10 t139.length co10))) ?hg ?ho ?hn ?hr ?_; (case ho => rfl); (case hg => rfl); (case hn => rfl); (case hr => first | (go_simp; done) | (go_simp; rfl)); intro w12 hw; have n0_ : Aside0 (Kd.S k59 59 w12 w.heap.size (fun k_ => some k_ ≠ (.slice Ao10 t139.length co10 : Value).ownBlock ∧ k_ ≠ gb138) u3 x3_1) := ⟨(by rw [hw]; exact (by (with_reducible repeat (first | apply Kd.S_alloc | apply Kd.S_drewN | apply Kd.S_drew)); exact Kd.S_mono (Kd.S_far (p := ⟨gb138, 2, none⟩) (Kd.S_mono HO_3.out (fun k_ hk => (⟨hk, hk.1.2⟩ : _ ∧ k_ ≠ gb138))) (fun _ hk => hk.2) (.slice Ao10 t139.length co10)) (fun _ hk => ⟨hk.1.2, hk.1.1.2⟩)))⟩; have n1_ : Aside0 (Kd.R k62 62 w12 w.heap.size (fun _ => True) (.slice Ao10 t139.length co10) t139) := ⟨(by rw [hw]; exact (by (with_reducible repeat (first | apply Kd.R_alloc | apply Kd.R_drewN | apply Kd.R_drew)); exact Kd.R_mono (Kd.R_far (p := ⟨gb138, 2, none⟩) (Kd.R_types HO141.out BK138.out (by decide)) (fun _ hk => hk.2) (.slice Ao10 t139.length co10)) (fun _ hk => trivial)))⟩; have n2_ : Aside0 (w12.heap[gb138]? = some (.cells #[.string ((rd_T59 l0 x8_1).f0), .int .i64 ((rd_T59 l0 x8_1).f1), .slice Ao10 t139.length co10] 59 (0, 0))) := ⟨(by rw [hw]; exact (by (with_reducible repeat (first | refine blk_drewN ?_ _ | refine blk_drew ?_ | refine blk_alloc ?_ _)); refine blk_put (cs := #[.string ((rd_T59 l0 x8_1).f0), .int .i64 ((rd_T59 l0 x8_1).f1), .slice A137_2 ((rd_T59 l0 x8_1).f2).length c137_2]) ?_ 2 _ rfl; (with_reducible repeat (first | refine blk_drewN ?_ _ | refine blk_drew ?_ | refine blk_alloc ?_ _)); exact BK138.out))⟩; have n3_ : Aside0 (Below w.heap.size w w12) := ⟨(by rw [hw]; exact (by repeat (first | (with_reducible first | exact HB.out | apply below_alloc | apply pw_below_drewN | apply below_drew1 | refine below_set ?_ GE138.out) | exact HB.out)))⟩; clear hw; clear HO_3; clear HO141; clear BK138; clear HB; have HO_3 := n0_; have HO141 := n1_; have BK138 := n2_; have HB := n3_; clear n0_ n1_ n2_ n3_; have hcz13_0 : w12.cell? ⟨gb138, 0, none⟩ = some (.string ((rd_T59 l0 x8_1).f0)) := (blk_cell BK138.out 0).trans rfl; have hcz13_1 : w12.cell? ⟨gb138, 1, none⟩ = some (.int .i64 ((rd_T59 l0 x8_1).f1)) := (blk_cell BK138.out 1).trans rfl; have hcz13_2 : w12.cell? ⟨gb138, 2, none⟩ = some (.slice Ao10 t139.length co10) := (blk_cell BK138.out 2).trans rfl; have hfz13_0 := blk_frozen BK138.out 0; have hfz13_1 := blk_frozen BK138.out 1; have hfz13_2 := blk_frozen BK138.out 2) | ((with_reducible refine gate_builtin (b := .append) (xs := #[.tmp 16, .tmp 18]) rfl ?_); at_builtin; refine Kd.S_append k59 (w0 := w) w.heap.size rfl (.tmp 16) (.tmp 18) 22 59 (.agg #[(.string ⟨#[]⟩), (.int .i64 0), (.slice none 0 0)]) 48 rfl Try.underlying22 info59 rfl (by decide) (by omega) u3 x3_1 (⟨(rd_T59 l0 x8_1).f0, (rd_T59 l0 x8_1).f1, t139⟩ : S59) [.string ((rd_T59 l0 x8_1).f0), .int .i64 ((rd_T59 l0 x8_1).f1), .slice Ao10 t139.length co10] (fun k_ => k_ ≠ gb138) (fun k_ => some k_ = (.slice Ao10 t139.length co10 : Value).ownBlock) rfl rfl ?aP (fun k_ hk_ => ((Kd.R_mono (ok' := fun k_ => ((fun k_ => k_ ≠ gb138)) k_ ∧ some k_ ≠ (u3 : Value).ownBlock) (Kd.R_types (Kd.R_apart' (HO141.out) (Kd.S_typed HO_3.out) (by decide)) BK138.out (by decide)) (fun k_ hk => ⟨hk.2, hk.1.2⟩))).1 k_ hk_.symm) ?aF ?aO ?aB ?aS ?aL ?_; (case aP => exact k59_mkM _ _ _ (⟨(rd_T59 l0 x8_1).f0, (rd_T59 l0 x8_1).f1, t139⟩ : S59) (Kd.R_mono (Kd.R_tight rfl (Kd.R_mono (ok' := fun k_ => ((fun k_ => k_ ≠ gb138)) k_ ∧ some k_ ≠ (u3 : Value).ownBlock) (Kd.R_types (Kd.R_apart' (HO141.out) (Kd.S_typed HO_3.out) (by decide)) BK138.out (by decide)) (fun k_ hk => ⟨hk.2, hk.1.2⟩))) (fun _ h_ => h_))); (case aB => exact (by repeat (first | (with_reducible first | exact HB.out | apply below_alloc | apply pw_below_drewN | apply below_drew1 | refine below_set ?_ GE138.out) | exact HB.out))); (case aF => exact (fun k_ hk => Kd.freshB (g := gb138) (o := .cells #[.string ((rd_T59 l0 x8_1).f0), .int .i64 ((rd_T59 l0 x8_1).f1), .slice Ao10 t139.length co10] 59 (0, 0)) (by (with_reducible repeat (first | refine blk_drewN ?_ _ | refine blk_drew ?_ | refine blk_alloc ?_ _)); exact BK138.out) k_ hk)); (case aO => exact (by (with_reducible repeat (first | apply Kd.S_alloc | apply Kd.S_drewN | apply Kd.S_drew)); exact Kd.S_mono HO_3.out (fun k_ hk => ⟨hk.2, fun e_ => hk.1 e_⟩))); (case aS => exact (below_size (by repeat (first | (with_reducible first | exact HB.out | apply below_alloc | apply pw_below_drewN | apply below_drew1 | refine below_set ?_ GE138.out) | exact HB.out)))); (case aL => have := LMc6.out; omega); intro v143 w14 ho hb hg hat; rw [← Ny142.out] at ho; have n0_ := Aside0.mk (blk_grown (g := gb138) (o := .cells #[.string ((rd_T59 l0 x8_1).f0), .int .i64 ((rd_T59 l0 x8_1).f1), .slice Ao10 t139.length co10] 59 (0, 0)) (by (with_reducible repeat (first | refine blk_drewN ?_ _ | refine blk_drew ?_ | refine blk_alloc ?_ _)); exact BK138.out) hg (Kd.S_away HO_3.out (fun _ hk => hk.2))); have n1_ := Aside0.mk (hb); have n2_ := Aside0.mk (ho); clear BK138; clear HB; clear HO_3; clear HO141; have BK138 := n0_; have HB := n1_; have HO144 := n2_; clear n0_ n1_ n2_; clear ho hb hg hat))
              go_roundg k1
              case measure => have := HK1.out; omega
              case rel => exact ⟨(y142), (wrap64 (x8_1 + 1)), (by first | rfl | (simp; done) | (simp [*]; done)), H', ⟨by have := HK1.out; omega⟩, ⟨by (with_reducible repeat (first | apply Kd.S_alloc | apply Kd.S_drewN | apply Kd.S_drew)); exact Kd.S_mono HO144.out (fun _ hk => trivial)⟩, ⟨by repeat (first | (with_reducible first | exact HB.out | apply below_alloc | apply pw_below_drewN | apply below_drew1 | refine below_set ?_ GE138.out) | exact HB.out)⟩⟩
            · rw [if_neg c6] at H
              exact absurd H (by simp)
          · rw [if_neg c4] at H
            exact absurd H (by simp)
        · rw [if_neg c3] at H
          exact absurd H (by simp)
      · rw [if_neg c2] at H
        have c2b0 : decide (x8_1 < (l0.length : Int)) = false := decide_eq_false c2
        clear c2
        obtain rfl := Option.some.inj H
        go_wp2
        go_ret
        exact ⟨_, by first | rfl | (simp [errW_none, errW_some] <;> rfl) | (simp [*, errW_none, errW_some] <;> rfl), by (with_reducible repeat (first | apply Kd.S_alloc | apply Kd.S_drewN | apply Kd.S_drew)); exact HO_3.out, by repeat (first | (with_reducible first | exact HB.out | apply below_alloc | apply pw_below_drewN | apply below_drew1) | exact HB.out)⟩

def types_class.f (l0 : List (S59)) (a1 : Int) : Option (Int) := if a1 < 16 then (some (-1)) else (if ((a1 - 16) % 256) ≥ (l0.length : Int) then (some (-1)) else (some ((a1 - 16) % 256)))
set_option maxHeartbeats 8000000 in
set_option maxRecDepth 100000 in
theorem types_class.calls (A0 : Option Addr) (c0 : Nat) (l0 : List (S59)) (a1 : Int) (r : Int) (w : World) (hr0 : Kd.C k59 w A0 l0.length l0) (hc0 : l0.length ≤ c0) (h : types_class.f l0 a1 = some r) :
    Calls Try.prog 61 #[.slice A0 l0.length c0, .int .u8 a1] w fun e w' => e = .returned (.int .i64 r) ∧ Drawn0 w w' := by
  have HR0 := Aside0.mk hr0
  have HC0 := Aside0.mk hc0
  clear hr0 hc0
  have H : (if a1 < 16 then (some (-1)) else (if ((a1 - 16) % 256) ≥ (l0.length : Int) then (some (-1)) else (some ((a1 - 16) % 256)))) = some r := h
  clear h
  by_cases c3 : a1 < 16
  · rw [if_pos c3] at H
    have c3b0 : decide (a1 < 16) = true := decide_eq_true c3
    clear c3
    obtain rfl := Option.some.inj H
    go_enter Try.func61, Try.ntmps61
    go_wp2
    go_ret
    exact ⟨by first | rfl | (simp; done) | (simp [*]; done), by repeat (first | exact Drawn0.refl _ | apply Drawn0.step)⟩
  · rw [if_neg c3] at H
    have c3b0 : decide (a1 < 16) = false := decide_eq_false c3
    clear c3
    by_cases c4 : ((a1 - 16) % 256) ≥ (l0.length : Int)
    · rw [if_pos c4] at H
      have c4b0 : decide ((l0.length : Int) ≤ ((a1 - 16) % 256)) = true := decide_eq_true c4
      clear c4
      obtain rfl := Option.some.inj H
      go_enter Try.func61, Try.ntmps61
      go_wp2
      go_ret
      exact ⟨by first | rfl | (simp; done) | (simp [*]; done), by repeat (first | exact Drawn0.refl _ | apply Drawn0.step)⟩
    · rw [if_neg c4] at H
      have c4b0 : decide ((l0.length : Int) ≤ ((a1 - 16) % 256)) = false := decide_eq_false c4
      clear c4
      obtain rfl := Option.some.inj H
      go_enter Try.func61, Try.ntmps61
      go_wp2
      go_ret
      exact ⟨by first | rfl | (simp; done) | (simp [*]; done), by repeat (first | exact Drawn0.refl _ | apply Drawn0.step)⟩

def types_Valid.f (l0 : List (S59)) (a1 : Int) : Option (Bool) := if a1 ≤ 5 then (some true) else ((types_class.f l0 a1).bind fun t145 => (some (decide (t145 ≥ 0))))
set_option maxHeartbeats 8000000 in
set_option maxRecDepth 100000 in
theorem types_Valid.calls (A0 : Option Addr) (c0 : Nat) (l0 : List (S59)) (a1 : Int) (r : Bool) (w : World) (hr0 : Kd.C k59 w A0 l0.length l0) (hc0 : l0.length ≤ c0) (h : types_Valid.f l0 a1 = some r) :
    Calls Try.prog 42 #[.slice A0 l0.length c0, .int .u8 a1] w fun e w' => e = .returned (.bool r) ∧ Drawn0 w w' := by
  have HR0 := Aside0.mk hr0
  have HC0 := Aside0.mk hc0
  clear hr0 hc0
  have H : (if a1 ≤ 5 then (some true) else ((types_class.f l0 a1).bind fun t145 => (some (decide (t145 ≥ 0))))) = some r := h
  clear h
  by_cases c3 : a1 ≤ 5
  · rw [if_pos c3] at H
    have c3b0 : decide (a1 ≤ 5) = true := decide_eq_true c3
    clear c3
    obtain rfl := Option.some.inj H
    go_enter Try.func42, Try.ntmps42
    go_wp2
    go_ret
    exact ⟨by first | rfl | (simp; done) | (simp [*]; done), by repeat (first | exact Drawn0.refl _ | apply Drawn0.step)⟩
  · rw [if_neg c3] at H
    have c3b0 : decide (a1 ≤ 5) = false := decide_eq_false c3
    clear c3
    replace H := Option.bind_eq_some_iff.mp H
    obtain ⟨t145, A40, H⟩ := H
    replace H : (some (decide (t145 ≥ 0))) = some r := H
    have A4 := Aside0.mk A40
    clear A40
    obtain rfl := Option.some.inj H
    go_enter Try.func42, Try.ntmps42
    go_wp2_with (first | (go_at_call 61; (with_reducible refine (types_class.calls _ _ l0 a1 t145 _ ?side1 ?side2 A4.out).mono ?_); (case side1 => repeat (first | exact HR0.out | (with_reducible refine Kd.C_alloc ?_ _) | (with_reducible refine Kd.C_drewN ?_ _) | (with_reducible refine Kd.C_drew ?_))); (case side2 => exact HC0.out); rintro e w' ⟨rfl, ⟨nd, rfl⟩⟩))
    go_ret
    exact ⟨by first | rfl | (simp; done) | (simp [*]; done), by repeat (first | exact Drawn0.refl _ | apply Drawn0.step)⟩


end Go.Proofs.Ytgjnmpgmbhbbhaa.P

end

section
namespace Go.Proofs.Ytgjnmpgmbhbbhaa.P
open Go.RowKit Go.Proofs.YtgjnmpgmbhbbhaaW.PrintWords Go.Proofs.YtgjnmpgmbhbbhaaW.PrintLast Go.Proofs.YtgjnmpgmbhbbhaaW.PrintMore
attribute [local go_sem] max2_int min2_int max_two min_two max_three min_three max_four min_four   -- for this text's walks alone
set_option linter.unusedVariables false
set_option linter.unusedSimpArgs false

section
variable {P : Program} {ops : Array Oper} {md : Region.Mode} {Q : Exit → Act → World → Prop} {S : World → Prop}
theorem take_dst {i : Nat} (N : Tmp) {oi : Oper} {v : Value} {fuel : Nat} {listed : Array Bool} {a : Act} {w : World} (hi : ops[i]? = some oi) (hN : oi.dst = some N)
    (hs : Region.noSelect ops = true) (hf : Region.free md ops listed i = true) (hr : (Region.ready md ops listed).contains i = true)
    (hQ : ∀ c a w, Q (.panic c) (a.put (some N) v) w → Q (.panic c) a w) (hy : YieldsIf P ops S oi v a) (hS : S w)
    (h : wpAnyH P md ops Q S fuel (listed.setIfInBounds i true) (a.put (some N) v) w) : wpAnyH P md ops Q S (fuel + 1) listed a w :=
  wpAnyH_take hi hs hf hr (by rw [hN]; exact hQ) hy hS (by rw [hN]; exact h)
end
def checkS (vb : Int → Bool) (f : Fr) : Int := if f.shp = true then (if frEq (bareF f) f = true then (if f.sl.all vb = true then 0 else 22) else 32) else 32
section
variable {ops : Array Oper} {op : Oper} {a : Act} {S : World → Prop}
theorem fr_yields {w0 : World} {l : List (Nat × Fr)} (hw : Region.wanted op (yielded ops a.tmps) = true) {x : Operand} (ho : op.op = .load 27 x) {g : Nat} (hx : a.eval x = .pointer (some ⟨g, 0, none⟩)) (hS : ∀ w, S w → Frs w0 l w) {f : Fr} (hm : (g, f) ∈ l) : YieldsIf Try.prog ops S op (.agg f.a) a :=
  .inl ⟨hw, fun w hw' => by
    have h := (hS w hw').mem hm
    unfold execOp
    simp only [ho, hx, Instr.loadAt, Instr.sureAddr, Sem.run_bind, Sem.run_pure, Result.andThen_ok, run_loadVar_row w g 27 27 f.a (0, 0) _ h.1.blk Try.underlying27 rfl (Fr.info h.2)]⟩
theorem fr_yields_neq (hw : Region.wanted op (yielded ops a.tmps) = true) {x y : Operand} {r : TypeId} (ho : op.op = .binOp .neq 27 x y r) {f g : Fr} (hx : a.eval x = .agg f.a) (hy : a.eval y = .agg g.a) (hf : f.ok) (hg : g.ok) : YieldsIf Try.prog ops S op (.bool (!frEq f g)) a :=
  .inl ⟨hw, fun w _ => by
    unfold execOp
    have hq : Try.prog.eqGuardType Try.prog.depth 27 = false := by kernel_rfl
    simp only [ho, hx, hy]
    simp [eqGuard, hq, binOp, frEq_run f g hf hg]⟩
end
section
variable {ops : Array Oper} {rest : List Oper} {o : Oper} {a : Act} {Q : Exit → Act → World → Prop}
theorem fr_larr (hgd : o.guard = none) {x : Operand} (ho : o.op = .load 25 x) {g : Nat} (hx : a.eval x = .pointer (some ⟨g, 2, none⟩)) {w0 W : World} {l : List (Nat × Fr)} (hl : Frs w0 l W) {f : Fr} (hm : (g, f) ∈ l)
    (h : wpList Try.prog ops Q rest (a.put o.dst (.agg (f.sl.map (Value.int .u8)).toArray)) W) : wpList Try.prog ops Q (o :: rest) a W := by
  have h1 := hl.mem hm
  have hlen : f.sl.length = 24 := h1.2
  refine wpList_load_mid hgd 25 x ho g 2 hx (f.sl.map (Value.int .u8)) _ (fun j v hv => ?_) Try.underlying25 rfl (by rw [List.length_map, hlen]; kernel_rfl) h
  have hj : j < f.sl.length := by
    have := (List.getElem?_eq_some_iff.1 hv).1
    rwa [List.length_map] at this
  rw [h1.1.cs j hj]
  rw [List.getElem?_map, List.getElem?_eq_getElem hj] at hv
  exact hv
theorem fr_idx (hgd : o.guard = none) {x y : Operand} (ho : o.op = .index 25 x y) {sl : List Int} (hx : a.eval x = .agg (sl.map (Value.int .u8)).toArray) {i : Nat} (hy : a.eval y = .int .i64 (i : Int)) (hl : sl.length = 24) (hi : i < 24) {t : Int} (ht : sl.getD i 0 = t) {W : World}
    (h : wpList Try.prog ops Q rest (a.put o.dst (.int .u8 t)) W) : wpList Try.prog ops Q (o :: rest) a W :=
  Kd.event_run hgd (by
    have hsz : (sizeOf 24).run Try.prog W = .ok 1 W := by kernel_rfl
    unfold execOp
    simp only [ho, hx, hy]
    simp [Instr.index, asIntOf, run_underlying Try.underlying25, part, isAgg, run_underlying Try.underlying24, hsz, Sem.run_bind, show (i : Int) < 24 by omega]
    rw [if_pos hi, List.getElem?_eq_getElem (by omega), ← ht, List.getD_eq_getElem?_getD, List.getElem?_eq_getElem (by omega)]
    rfl) h
end
set_option maxHeartbeats 3200000 in
set_option maxRecDepth 100000 in
theorem Check_calls (A0 : Option Addr) (c0 : Nat) (l0 : List S59) (f : Fr) (hf : f.ok) (vb : Int → Bool) (w : World) (hr0 : Kd.C k59 w A0 l0.length l0) (hc0 : l0.length ≤ c0) (hv : ∀ t ∈ f.sl, types_Valid.f l0 t = some (vb t)) : Calls Try.prog 36 #[.slice A0 l0.length c0, .agg f.a] w fun e w' => e = .returned (.int .i64 (checkS vb f)) ∧ Below w.heap.size w w' := by
  have HF := Aside0.mk hf
  have HR0 := Aside0.mk hr0
  have HC0 := Aside0.mk hc0
  have HV := Aside0.mk hv
  have HA := Aside0.mk (Frs.nil w)
  clear hr0 hc0 hv
  by_cases hs : f.shp = true
  · obtain ⟨L, H, sl, rfl, hL, hLH⟩ := Fr.shp_nat hs
    have HS := Aside0.mk hs
    have HLH := Aside0.mk hLH
    have HB := Aside0.mk (Fr.bare_ok (L := L) (H := H) HF.out hLH)
    clear hf hs
    go_enter Try.func36, Try.ntmps36
    go_upto_region 1 with (first | (refine fr_guard rfl (by rfl) ?_; dsimp only) | (refine fr_load rfl rfl rfl HA.out (by first | exact List.mem_cons_self | exact List.mem_cons_of_mem _ List.mem_cons_self | exact List.mem_cons_of_mem _ (List.mem_cons_of_mem _ List.mem_cons_self) | exact List.mem_cons_of_mem _ (List.mem_cons_of_mem _ (List.mem_cons_of_mem _ List.mem_cons_self))) ?_) | (refine fr_load0 rfl rfl rfl HA.out (by first | exact List.mem_cons_self | exact List.mem_cons_of_mem _ List.mem_cons_self | exact List.mem_cons_of_mem _ (List.mem_cons_of_mem _ List.mem_cons_self) | exact List.mem_cons_of_mem _ (List.mem_cons_of_mem _ (List.mem_cons_of_mem _ List.mem_cons_self))) ?_) | (refine fr_load1 rfl rfl rfl HA.out (by first | exact List.mem_cons_self | exact List.mem_cons_of_mem _ List.mem_cons_self | exact List.mem_cons_of_mem _ (List.mem_cons_of_mem _ List.mem_cons_self) | exact List.mem_cons_of_mem _ (List.mem_cons_of_mem _ (List.mem_cons_of_mem _ List.mem_cons_self))) ?_) | (refine fr_store rfl rfl rfl rfl (by first | exact HF.out | exact Fr.zero_ok) [] HA.out ?_; intro w_ hA; (try simp only [List.cons_append, List.nil_append] at hA); replace HA := Aside0.mk hA; clear hA) | (refine fr_store rfl rfl rfl rfl (by first | exact HF.out | exact Fr.zero_ok) [_] HA.out ?_; intro w_ hA; (try simp only [List.cons_append, List.nil_append] at hA); replace HA := Aside0.mk hA; clear hA) | (refine fr_store rfl rfl rfl rfl (by first | exact HF.out | exact Fr.zero_ok) [_, _] HA.out ?_; intro w_ hA; (try simp only [List.cons_append, List.nil_append] at hA); replace HA := Aside0.mk hA; clear hA) | (refine fr_store rfl rfl rfl rfl (by first | exact HF.out | exact Fr.zero_ok) [_, _, _] HA.out ?_; intro w_ hA; (try simp only [List.cons_append, List.nil_append] at hA); replace HA := Aside0.mk hA; clear hA) | (refine fr_box rfl rfl rfl (by first | exact HF.out | exact Fr.zero_ok) HA.out ?_; intro gp w_ hA; (try simp only [List.cons_append, List.nil_append] at hA); replace HA := Aside0.mk hA; clear hA) | (refine fr_alloc rfl rfl HA.out ?_; intro gr w_ hA; (try simp only [List.cons_append, List.nil_append] at hA); replace HA := Aside0.mk hA; clear hA) | (refine fr_build0 rfl rfl ?_) | (refine fr_build1 rfl rfl rfl ?_) | (refine fr_build2 rfl rfl rfl rfl ?_) | (refine fr_slot rfl rfl rfl rfl [] HA.out HQ.out ?_; intro w_ hA; (try simp only [List.cons_append, List.nil_append] at hA); replace HA := Aside0.mk hA; clear hA) | (refine fr_slot rfl rfl rfl rfl [_] HA.out HQ.out ?_; intro w_ hA; (try simp only [List.cons_append, List.nil_append] at hA); replace HA := Aside0.mk hA; clear hA) | (refine fr_slot rfl rfl rfl rfl [_, _] HA.out HQ.out ?_; intro w_ hA; (try simp only [List.cons_append, List.nil_append] at hA); replace HA := Aside0.mk hA; clear hA) | (refine fr_high rfl rfl rfl rfl [] HA.out ?_; intro w_ hA; (try simp only [List.cons_append, List.nil_append] at hA); replace HA := Aside0.mk hA; clear hA) | (refine fr_high rfl rfl rfl rfl [_] HA.out ?_; intro w_ hA; (try simp only [List.cons_append, List.nil_append] at hA); replace HA := Aside0.mk hA; clear hA) | (refine fr_high rfl rfl rfl rfl [_, _] HA.out ?_; intro w_ hA; (try simp only [List.cons_append, List.nil_append] at hA); replace HA := Aside0.mk hA; clear hA) | (refine fr_loads rfl rfl rfl HA.out (by first | exact List.mem_cons_self | exact List.mem_cons_of_mem _ List.mem_cons_self | exact List.mem_cons_of_mem _ (List.mem_cons_of_mem _ List.mem_cons_self) | exact List.mem_cons_of_mem _ (List.mem_cons_of_mem _ (List.mem_cons_of_mem _ List.mem_cons_self))) HQ.out ?_))
    have hA := HA.out
    (try simp only [Act.put, List.setIfInBounds_toArray, List.set_cons_zero, List.set_cons_succ])
    refine wp_region_held_drew (S := fun w' => Frs w [(gp, (⟨(L : Int), (H : Int), sl⟩ : Fr))] w') (by kernel_rfl) ?_ (fun hHeld => ?_)
    · exact hA.drewN 1
    refine take_dst (i := 0) 7 rfl rfl (by kernel_rfl) (by kernel_rfl) (by kernel_rfl) (fun _ _ _ h => h) (fr_yields rfl rfl rfl (fun _ h => h) List.mem_cons_self) (by assumption) ?_
    (try simp only [Act.put, List.setIfInBounds_toArray, List.set_cons_zero, List.set_cons_succ])
    refine wpAnyH_ready (rs := [1]) (by kernel_rfl) (by simp) ?_
    refine AllReadyH.cons rfl (fun K hK => ?_) AllReadyH.nil
    go_simp
    refine (shaped_true HS.out HF.out _).mono ?_
    rintro e w9 ⟨rfl, hb⟩
    have h9 : Frs w [(gp, (⟨(L : Int), (H : Int), sl⟩ : Fr))] w9 := hHeld.step hb
    go_simp
    refine hK.out _ _ h9 (fun hHeld => ?_)
    (try simp only [Act.put, List.setIfInBounds_toArray, List.set_cons_zero, List.set_cons_succ])
    clear hK K h9 hb
    refine take_dst (i := 2) (v := ?_) 9 rfl rfl (by kernel_rfl) (by kernel_rfl) (by kernel_rfl) (fun _ _ _ h => h) (Or.inl ⟨by rfl, ?_⟩) (by assumption) ?_
    rotate_left
    · intro w hSw
      go_simp
      try with_reducible rfl
    (try simp only [Act.put, List.setIfInBounds_toArray, List.set_cons_zero, List.set_cons_succ])
    refine take_dst (i := 3) (v := ?_) 10 rfl rfl (by kernel_rfl) (by kernel_rfl) (by kernel_rfl) (fun _ _ _ h => h) (Or.inl ⟨by rfl, ?_⟩) (by assumption) ?_
    rotate_left
    · intro w hSw
      go_simp
      try with_reducible rfl
    (try simp only [Act.put, List.setIfInBounds_toArray, List.set_cons_zero, List.set_cons_succ])
    refine take_dst (i := 4) 11 rfl rfl (by kernel_rfl) (by kernel_rfl) (by kernel_rfl) (fun _ _ _ h => h) (fr_yields rfl rfl rfl (fun _ h => h) List.mem_cons_self) (by assumption) ?_
    (try simp only [Act.put, List.setIfInBounds_toArray, List.set_cons_zero, List.set_cons_succ])
    refine take_dst (i := 6) 13 rfl rfl (by kernel_rfl) (by kernel_rfl) (by kernel_rfl) (fun _ _ _ h => h) (fr_yields rfl rfl rfl (fun _ h => h) List.mem_cons_self) (by assumption) ?_
    (try simp only [Act.put, List.setIfInBounds_toArray, List.set_cons_zero, List.set_cons_succ])
    refine wpAnyH_ready (rs := [5]) (by kernel_rfl) (by simp) ?_
    refine AllReadyH.cons rfl (fun K hK => ?_) AllReadyH.nil
    go_simp
    refine (bare_calls L H sl HF.out HLH.out _).mono ?_
    rintro e w10 ⟨rfl, hb⟩
    have h9 : Frs w [(gp, (⟨(L : Int), (H : Int), sl⟩ : Fr))] w10 := hHeld.step hb
    go_simp
    refine hK.out _ _ h9 (fun hHeld => ?_)
    (try simp only [Act.put, List.setIfInBounds_toArray, List.set_cons_zero, List.set_cons_succ])
    clear hK K h9 hb
    refine take_dst (i := 7) 14 rfl rfl (by kernel_rfl) (by kernel_rfl) (by kernel_rfl) (fun _ _ _ h => h) (fr_yields_neq rfl rfl rfl rfl HB.out HF.out) (by assumption) ?_
    (try simp only [Act.put, List.setIfInBounds_toArray, List.set_cons_zero, List.set_cons_succ])
    refine take_dst (i := 8) (v := ?_) 15 rfl rfl (by kernel_rfl) (by kernel_rfl) (by kernel_rfl) (fun _ _ _ h => h) (Or.inl ⟨by rfl, ?_⟩) (by assumption) ?_
    rotate_left
    · intro w hSw
      go_simp
      try with_reducible rfl
    (try simp only [Act.put, List.setIfInBounds_toArray, List.set_cons_zero, List.set_cons_succ])
    refine wpAnyH_done (by kernel_rfl) ?_ _
    have HA := Aside0.mk hHeld
    clear hHeld hA
    by_cases hq : frEq (Fr.bare L H sl) (⟨(L : Int), (H : Int), sl⟩ : Fr) = true
    · have HQ1 := Aside0.mk hq
      rw [hq]
      clear hq
      go_wp2_with (first | (refine fr_larr rfl rfl rfl HA.out (by first | exact List.mem_cons_self | exact List.mem_cons_of_mem _ List.mem_cons_self | exact List.mem_cons_of_mem _ (List.mem_cons_of_mem _ List.mem_cons_self) | exact List.mem_cons_of_mem _ (List.mem_cons_of_mem _ (List.mem_cons_of_mem _ List.mem_cons_self))) ?_) | (refine fr_guard rfl (by rfl) ?_; dsimp only) | (refine fr_load rfl rfl rfl HA.out (by first | exact List.mem_cons_self | exact List.mem_cons_of_mem _ List.mem_cons_self | exact List.mem_cons_of_mem _ (List.mem_cons_of_mem _ List.mem_cons_self) | exact List.mem_cons_of_mem _ (List.mem_cons_of_mem _ (List.mem_cons_of_mem _ List.mem_cons_self))) ?_) | (refine fr_load0 rfl rfl rfl HA.out (by first | exact List.mem_cons_self | exact List.mem_cons_of_mem _ List.mem_cons_self | exact List.mem_cons_of_mem _ (List.mem_cons_of_mem _ List.mem_cons_self) | exact List.mem_cons_of_mem _ (List.mem_cons_of_mem _ (List.mem_cons_of_mem _ List.mem_cons_self))) ?_) | (refine fr_load1 rfl rfl rfl HA.out (by first | exact List.mem_cons_self | exact List.mem_cons_of_mem _ List.mem_cons_self | exact List.mem_cons_of_mem _ (List.mem_cons_of_mem _ List.mem_cons_self) | exact List.mem_cons_of_mem _ (List.mem_cons_of_mem _ (List.mem_cons_of_mem _ List.mem_cons_self))) ?_) | (refine fr_store rfl rfl rfl rfl (by first | exact HF.out | exact Fr.zero_ok) [] HA.out ?_; intro w_ hA; (try simp only [List.cons_append, List.nil_append] at hA); replace HA := Aside0.mk hA; clear hA) | (refine fr_store rfl rfl rfl rfl (by first | exact HF.out | exact Fr.zero_ok) [_] HA.out ?_; intro w_ hA; (try simp only [List.cons_append, List.nil_append] at hA); replace HA := Aside0.mk hA; clear hA) | (refine fr_store rfl rfl rfl rfl (by first | exact HF.out | exact Fr.zero_ok) [_, _] HA.out ?_; intro w_ hA; (try simp only [List.cons_append, List.nil_append] at hA); replace HA := Aside0.mk hA; clear hA) | (refine fr_store rfl rfl rfl rfl (by first | exact HF.out | exact Fr.zero_ok) [_, _, _] HA.out ?_; intro w_ hA; (try simp only [List.cons_append, List.nil_append] at hA); replace HA := Aside0.mk hA; clear hA) | (refine fr_box rfl rfl rfl (by first | exact HF.out | exact Fr.zero_ok) HA.out ?_; intro gp w_ hA; (try simp only [List.cons_append, List.nil_append] at hA); replace HA := Aside0.mk hA; clear hA) | (refine fr_alloc rfl rfl HA.out ?_; intro gr w_ hA; (try simp only [List.cons_append, List.nil_append] at hA); replace HA := Aside0.mk hA; clear hA) | (refine fr_build0 rfl rfl ?_) | (refine fr_build1 rfl rfl rfl ?_) | (refine fr_build2 rfl rfl rfl rfl ?_) | (refine fr_slot rfl rfl rfl rfl [] HA.out HQ.out ?_; intro w_ hA; (try simp only [List.cons_append, List.nil_append] at hA); replace HA := Aside0.mk hA; clear hA) | (refine fr_slot rfl rfl rfl rfl [_] HA.out HQ.out ?_; intro w_ hA; (try simp only [List.cons_append, List.nil_append] at hA); replace HA := Aside0.mk hA; clear hA) | (refine fr_slot rfl rfl rfl rfl [_, _] HA.out HQ.out ?_; intro w_ hA; (try simp only [List.cons_append, List.nil_append] at hA); replace HA := Aside0.mk hA; clear hA) | (refine fr_high rfl rfl rfl rfl [] HA.out ?_; intro w_ hA; (try simp only [List.cons_append, List.nil_append] at hA); replace HA := Aside0.mk hA; clear hA) | (refine fr_high rfl rfl rfl rfl [_] HA.out ?_; intro w_ hA; (try simp only [List.cons_append, List.nil_append] at hA); replace HA := Aside0.mk hA; clear hA) | (refine fr_high rfl rfl rfl rfl [_, _] HA.out ?_; intro w_ hA; (try simp only [List.cons_append, List.nil_append] at hA); replace HA := Aside0.mk hA; clear hA) | (refine fr_loads rfl rfl rfl HA.out (by first | exact List.mem_cons_self | exact List.mem_cons_of_mem _ List.mem_cons_self | exact List.mem_cons_of_mem _ (List.mem_cons_of_mem _ List.mem_cons_self) | exact List.mem_cons_of_mem _ (List.mem_cons_of_mem _ (List.mem_cons_of_mem _ List.mem_cons_self))) HQ.out ?_))
      go_loopw [18, 6] (fun v18 v6 wr => ∃ i : Nat, v18 = .int .i64 (i : Int) ∧ i ≤ 24 ∧ Aside0 ((sl.take i).all vb = true) ∧ Aside0 (Frs w [(gp, (⟨(L : Int), (H : Int), sl⟩ : Fr))] wr)) (fun v18 _ _ => (24 - intOf v18).toNat)
      case atStart => exact ⟨0, rfl, Nat.zero_le _, ⟨rfl⟩, HA⟩
      case round =>
        obtain ⟨i, rfl, hi, HP, HA⟩ := hrel
        by_cases c1 : i < 24
        · have c1b : decide ((i : Int) < 24) = true := decide_eq_true (by omega)
          have HI : Aside0 (i < 24) := ⟨c1⟩
          have hil : i < sl.length := by have := HF.out; unfold Fr.ok at this; simp only at this; omega
          have hg : sl.getD i 0 = sl[i] := by rw [List.getD_eq_getElem?_getD, List.getElem?_eq_getElem hil]; rfl
          have hvv := HV.out sl[i] (List.getElem_mem hil)
          rw [← hg] at hvv
          have HVV := Aside0.mk hvv
          have HTK : Aside0 ((sl.take (i + 1)).all vb = ((sl.take i).all vb && vb (sl.getD i 0))) := ⟨by rw [List.take_succ_eq_append_getElem hil, List.all_append, hg]; simp⟩
          have HAL : Aside0 (sl.all vb = true → vb (sl.getD i 0) = true) := ⟨fun h => by rw [hg]; exact List.all_eq_true.1 h _ (List.getElem_mem hil)⟩
          obtain ⟨t, htt⟩ : ∃ t, sl.getD i 0 = t := ⟨_, rfl⟩
          rw [htt] at HVV HTK HAL
          have HTT := Aside0.mk htt
          clear hvv hg hil htt
          go_wp2_with (first | ((with_reducible refine gate_dst (N := 20) rfl ?_); refine fr_idx rfl rfl (sl := sl) rfl (i := i) rfl HF.out HI.out HTT.out ?_))
          refine (types_Valid.calls A0 c0 l0 t (vb t) _ (Kd.C_below HR0.out HA.out.below) HC0.out HVV.out).mono ?_
          rintro e w_ ⟨rfl, m, rfl⟩
          replace HA := Aside0.mk (HA.out.drewN m)
          generalize World.drewN _ m = w_ at HA ⊢
          by_cases hb : vb t = true
          · have HT2 : Aside0 ((sl.take (i + 1)).all vb = true) := ⟨by rw [HTK.out, HP.out, hb]; rfl⟩
            rw [hb]
            clear hb
            go_wp2
            exact ⟨⟨i + 1, rfl, by omega, HT2, HA⟩, by simp [intOf]; omega⟩
          · have hb := Bool.eq_false_iff.mpr hb
            have HB9 := Aside0.mk hb
            rw [hb]
            clear hb
            go_wp2
            go_ret
            refine ⟨?_, HA.out.below⟩
            unfold checkS
            rw [if_pos HS.out, if_pos (by rw [bareF_nat, HQ1.out]), if_neg (fun h => by have := HAL.out h; rw [HB9.out] at this; cases this)]
            rfl
        · have c1b : decide ((i : Int) < 24) = false := decide_eq_false (by omega)
          have hall : sl.all vb = true := by
            have h := HP.out
            rwa [List.take_of_length_le (by have := HF.out; unfold Fr.ok at this; simp only at this; omega)] at h
          have HALL := Aside0.mk hall
          clear hall
          go_wp2
          go_ret
          refine ⟨?_, HA.out.below⟩
          unfold checkS
          rw [if_pos HS.out, if_pos (by rw [bareF_nat, HQ1.out]), if_pos HALL.out]
          rfl
    · have hq := Bool.eq_false_iff.mpr hq
      have HQ1 := Aside0.mk hq
      rw [hq]
      clear hq
      go_wp2_with (first | (refine fr_larr rfl rfl rfl HA.out (by first | exact List.mem_cons_self | exact List.mem_cons_of_mem _ List.mem_cons_self | exact List.mem_cons_of_mem _ (List.mem_cons_of_mem _ List.mem_cons_self) | exact List.mem_cons_of_mem _ (List.mem_cons_of_mem _ (List.mem_cons_of_mem _ List.mem_cons_self))) ?_) | (refine fr_guard rfl (by rfl) ?_; dsimp only) | (refine fr_load rfl rfl rfl HA.out (by first | exact List.mem_cons_self | exact List.mem_cons_of_mem _ List.mem_cons_self | exact List.mem_cons_of_mem _ (List.mem_cons_of_mem _ List.mem_cons_self) | exact List.mem_cons_of_mem _ (List.mem_cons_of_mem _ (List.mem_cons_of_mem _ List.mem_cons_self))) ?_) | (refine fr_load0 rfl rfl rfl HA.out (by first | exact List.mem_cons_self | exact List.mem_cons_of_mem _ List.mem_cons_self | exact List.mem_cons_of_mem _ (List.mem_cons_of_mem _ List.mem_cons_self) | exact List.mem_cons_of_mem _ (List.mem_cons_of_mem _ (List.mem_cons_of_mem _ List.mem_cons_self))) ?_) | (refine fr_load1 rfl rfl rfl HA.out (by first | exact List.mem_cons_self | exact List.mem_cons_of_mem _ List.mem_cons_self | exact List.mem_cons_of_mem _ (List.mem_cons_of_mem _ List.mem_cons_self) | exact List.mem_cons_of_mem _ (List.mem_cons_of_mem _ (List.mem_cons_of_mem _ List.mem_cons_self))) ?_) | (refine fr_store rfl rfl rfl rfl (by first | exact HF.out | exact Fr.zero_ok) [] HA.out ?_; intro w_ hA; (try simp only [List.cons_append, List.nil_append] at hA); replace HA := Aside0.mk hA; clear hA) | (refine fr_store rfl rfl rfl rfl (by first | exact HF.out | exact Fr.zero_ok) [_] HA.out ?_; intro w_ hA; (try simp only [List.cons_append, List.nil_append] at hA); replace HA := Aside0.mk hA; clear hA) | (refine fr_store rfl rfl rfl rfl (by first | exact HF.out | exact Fr.zero_ok) [_, _] HA.out ?_; intro w_ hA; (try simp only [List.cons_append, List.nil_append] at hA); replace HA := Aside0.mk hA; clear hA) | (refine fr_store rfl rfl rfl rfl (by first | exact HF.out | exact Fr.zero_ok) [_, _, _] HA.out ?_; intro w_ hA; (try simp only [List.cons_append, List.nil_append] at hA); replace HA := Aside0.mk hA; clear hA) | (refine fr_box rfl rfl rfl (by first | exact HF.out | exact Fr.zero_ok) HA.out ?_; intro gp w_ hA; (try simp only [List.cons_append, List.nil_append] at hA); replace HA := Aside0.mk hA; clear hA) | (refine fr_alloc rfl rfl HA.out ?_; intro gr w_ hA; (try simp only [List.cons_append, List.nil_append] at hA); replace HA := Aside0.mk hA; clear hA) | (refine fr_build0 rfl rfl ?_) | (refine fr_build1 rfl rfl rfl ?_) | (refine fr_build2 rfl rfl rfl rfl ?_) | (refine fr_slot rfl rfl rfl rfl [] HA.out HQ.out ?_; intro w_ hA; (try simp only [List.cons_append, List.nil_append] at hA); replace HA := Aside0.mk hA; clear hA) | (refine fr_slot rfl rfl rfl rfl [_] HA.out HQ.out ?_; intro w_ hA; (try simp only [List.cons_append, List.nil_append] at hA); replace HA := Aside0.mk hA; clear hA) | (refine fr_slot rfl rfl rfl rfl [_, _] HA.out HQ.out ?_; intro w_ hA; (try simp only [List.cons_append, List.nil_append] at hA); replace HA := Aside0.mk hA; clear hA) | (refine fr_high rfl rfl rfl rfl [] HA.out ?_; intro w_ hA; (try simp only [List.cons_append, List.nil_append] at hA); replace HA := Aside0.mk hA; clear hA) | (refine fr_high rfl rfl rfl rfl [_] HA.out ?_; intro w_ hA; (try simp only [List.cons_append, List.nil_append] at hA); replace HA := Aside0.mk hA; clear hA) | (refine fr_high rfl rfl rfl rfl [_, _] HA.out ?_; intro w_ hA; (try simp only [List.cons_append, List.nil_append] at hA); replace HA := Aside0.mk hA; clear hA) | (refine fr_loads rfl rfl rfl HA.out (by first | exact List.mem_cons_self | exact List.mem_cons_of_mem _ List.mem_cons_self | exact List.mem_cons_of_mem _ (List.mem_cons_of_mem _ List.mem_cons_self) | exact List.mem_cons_of_mem _ (List.mem_cons_of_mem _ (List.mem_cons_of_mem _ List.mem_cons_self))) HQ.out ?_))
      go_ret
      refine ⟨?_, HA.out.below⟩
      unfold checkS
      rw [if_pos HS.out, if_neg (by rw [bareF_nat, HQ1.out]; decide)]
      rfl
  · have hs := Bool.eq_false_iff.mpr hs
    have HS := Aside0.mk hs
    clear hf hs
    go_enter Try.func36, Try.ntmps36
    go_upto_region 1 with (first | (refine fr_guard rfl (by rfl) ?_; dsimp only) | (refine fr_load rfl rfl rfl HA.out (by first | exact List.mem_cons_self | exact List.mem_cons_of_mem _ List.mem_cons_self | exact List.mem_cons_of_mem _ (List.mem_cons_of_mem _ List.mem_cons_self) | exact List.mem_cons_of_mem _ (List.mem_cons_of_mem _ (List.mem_cons_of_mem _ List.mem_cons_self))) ?_) | (refine fr_load0 rfl rfl rfl HA.out (by first | exact List.mem_cons_self | exact List.mem_cons_of_mem _ List.mem_cons_self | exact List.mem_cons_of_mem _ (List.mem_cons_of_mem _ List.mem_cons_self) | exact List.mem_cons_of_mem _ (List.mem_cons_of_mem _ (List.mem_cons_of_mem _ List.mem_cons_self))) ?_) | (refine fr_load1 rfl rfl rfl HA.out (by first | exact List.mem_cons_self | exact List.mem_cons_of_mem _ List.mem_cons_self | exact List.mem_cons_of_mem _ (List.mem_cons_of_mem _ List.mem_cons_self) | exact List.mem_cons_of_mem _ (List.mem_cons_of_mem _ (List.mem_cons_of_mem _ List.mem_cons_self))) ?_) | (refine fr_store rfl rfl rfl rfl (by first | exact HF.out | exact Fr.zero_ok) [] HA.out ?_; intro w_ hA; (try simp only [List.cons_append, List.nil_append] at hA); replace HA := Aside0.mk hA; clear hA) | (refine fr_store rfl rfl rfl rfl (by first | exact HF.out | exact Fr.zero_ok) [_] HA.out ?_; intro w_ hA; (try simp only [List.cons_append, List.nil_append] at hA); replace HA := Aside0.mk hA; clear hA) | (refine fr_store rfl rfl rfl rfl (by first | exact HF.out | exact Fr.zero_ok) [_, _] HA.out ?_; intro w_ hA; (try simp only [List.cons_append, List.nil_append] at hA); replace HA := Aside0.mk hA; clear hA) | (refine fr_store rfl rfl rfl rfl (by first | exact HF.out | exact Fr.zero_ok) [_, _, _] HA.out ?_; intro w_ hA; (try simp only [List.cons_append, List.nil_append] at hA); replace HA := Aside0.mk hA; clear hA) | (refine fr_box rfl rfl rfl (by first | exact HF.out | exact Fr.zero_ok) HA.out ?_; intro gp w_ hA; (try simp only [List.cons_append, List.nil_append] at hA); replace HA := Aside0.mk hA; clear hA) | (refine fr_alloc rfl rfl HA.out ?_; intro gr w_ hA; (try simp only [List.cons_append, List.nil_append] at hA); replace HA := Aside0.mk hA; clear hA) | (refine fr_build0 rfl rfl ?_) | (refine fr_build1 rfl rfl rfl ?_) | (refine fr_build2 rfl rfl rfl rfl ?_) | (refine fr_slot rfl rfl rfl rfl [] HA.out HQ.out ?_; intro w_ hA; (try simp only [List.cons_append, List.nil_append] at hA); replace HA := Aside0.mk hA; clear hA) | (refine fr_slot rfl rfl rfl rfl [_] HA.out HQ.out ?_; intro w_ hA; (try simp only [List.cons_append, List.nil_append] at hA); replace HA := Aside0.mk hA; clear hA) | (refine fr_slot rfl rfl rfl rfl [_, _] HA.out HQ.out ?_; intro w_ hA; (try simp only [List.cons_append, List.nil_append] at hA); replace HA := Aside0.mk hA; clear hA) | (refine fr_high rfl rfl rfl rfl [] HA.out ?_; intro w_ hA; (try simp only [List.cons_append, List.nil_append] at hA); replace HA := Aside0.mk hA; clear hA) | (refine fr_high rfl rfl rfl rfl [_] HA.out ?_; intro w_ hA; (try simp only [List.cons_append, List.nil_append] at hA); replace HA := Aside0.mk hA; clear hA) | (refine fr_high rfl rfl rfl rfl [_, _] HA.out ?_; intro w_ hA; (try simp only [List.cons_append, List.nil_append] at hA); replace HA := Aside0.mk hA; clear hA) | (refine fr_loads rfl rfl rfl HA.out (by first | exact List.mem_cons_self | exact List.mem_cons_of_mem _ List.mem_cons_self | exact List.mem_cons_of_mem _ (List.mem_cons_of_mem _ List.mem_cons_self) | exact List.mem_cons_of_mem _ (List.mem_cons_of_mem _ (List.mem_cons_of_mem _ List.mem_cons_self))) HQ.out ?_))
    have hA := HA.out
    (try simp only [Act.put, List.setIfInBounds_toArray, List.set_cons_zero, List.set_cons_succ])
    refine wp_region_held_drew (S := fun w' => Frs w [(gp, f)] w') (by kernel_rfl) ?_ (fun hHeld => ?_)
    · exact hA.drewN 1
    refine take_dst (i := 0) 7 rfl rfl (by kernel_rfl) (by kernel_rfl) (by kernel_rfl) (fun _ _ _ h => h) (fr_yields rfl rfl rfl (fun _ h => h) List.mem_cons_self) (by assumption) ?_
    (try simp only [Act.put, List.setIfInBounds_toArray, List.set_cons_zero, List.set_cons_succ])
    refine wpAnyH_ready (rs := [1]) (by kernel_rfl) (by simp) ?_
    refine AllReadyH.cons rfl (fun K hK => ?_) AllReadyH.nil
    go_simp
    refine (shaped_false HS.out HF.out _).mono ?_
    rintro e w9 ⟨rfl, hb⟩
    have h9 : Frs w [(gp, f)] w9 := hHeld.step hb
    go_simp
    refine hK.out _ _ h9 (fun hHeld => ?_)
    (try simp only [Act.put, List.setIfInBounds_toArray, List.set_cons_zero, List.set_cons_succ])
    clear hK K h9 hb
    refine take_dst (i := 2) (v := ?_) 9 rfl rfl (by kernel_rfl) (by kernel_rfl) (by kernel_rfl) (fun _ _ _ h => h) (Or.inl ⟨by rfl, ?_⟩) (by assumption) ?_
    rotate_left
    · intro w hSw
      go_simp
      try with_reducible rfl
    (try simp only [Act.put, List.setIfInBounds_toArray, List.set_cons_zero, List.set_cons_succ])
    refine take_dst (i := 3) (v := ?_) 10 rfl rfl (by kernel_rfl) (by kernel_rfl) (by kernel_rfl) (fun _ _ _ h => h) (Or.inl ⟨by rfl, ?_⟩) (by assumption) ?_
    rotate_left
    · intro w hSw
      go_simp
      try with_reducible rfl
    (try simp only [Act.put, List.setIfInBounds_toArray, List.set_cons_zero, List.set_cons_succ])
    refine take_dst (i := 4) (v := undef) 11 rfl rfl (by kernel_rfl) (by kernel_rfl) (by kernel_rfl) (fun _ _ _ h => h) (Or.inr ⟨by rfl, rfl⟩) (by assumption) ?_
    (try simp only [Act.put, List.setIfInBounds_toArray, List.set_cons_zero, List.set_cons_succ])
    refine take_dst (i := 5) (v := undef) 12 rfl rfl (by kernel_rfl) (by kernel_rfl) (by kernel_rfl) (fun _ _ _ h => h) (Or.inr ⟨by rfl, rfl⟩) (by assumption) ?_
    (try simp only [Act.put, List.setIfInBounds_toArray, List.set_cons_zero, List.set_cons_succ])
    refine take_dst (i := 6) (v := undef) 13 rfl rfl (by kernel_rfl) (by kernel_rfl) (by kernel_rfl) (fun _ _ _ h => h) (Or.inr ⟨by rfl, rfl⟩) (by assumption) ?_
    (try simp only [Act.put, List.setIfInBounds_toArray, List.set_cons_zero, List.set_cons_succ])
    refine take_dst (i := 7) (v := undef) 14 rfl rfl (by kernel_rfl) (by kernel_rfl) (by kernel_rfl) (fun _ _ _ h => h) (Or.inr ⟨by rfl, rfl⟩) (by assumption) ?_
    (try simp only [Act.put, List.setIfInBounds_toArray, List.set_cons_zero, List.set_cons_succ])
    refine take_dst (i := 8) (v := ?_) 15 rfl rfl (by kernel_rfl) (by kernel_rfl) (by kernel_rfl) (fun _ _ _ h => h) (Or.inl ⟨by rfl, ?_⟩) (by assumption) ?_
    rotate_left
    · intro w hSw
      go_simp
      try with_reducible rfl
    (try simp only [Act.put, List.setIfInBounds_toArray, List.set_cons_zero, List.set_cons_succ])
    refine wpAnyH_done (by kernel_rfl) ?_ _
    have HA := Aside0.mk hHeld
    clear hHeld hA
    go_wp2
    go_ret
    refine ⟨?_, HA.out.below⟩
    unfold checkS
    rw [if_neg (by rw [HS.out]; decide)]
    rfl


def types_IsRef.f (a0 : Int) : Option (Bool) := if a0 = 3 then (some true) else (if a0 = 4 then (some true) else (if a0 = 5 then (some true) else (some (decide (a0 ≥ 16)))))
set_option maxHeartbeats 8000000 in
set_option maxRecDepth 100000 in
theorem types_IsRef.calls (a0 : Int) (r : Bool) (w : World) (h : types_IsRef.f a0 = some r) :
    Calls Try.prog 62 #[.int .u8 a0] w fun e w' => e = .returned (.bool r) ∧ Drawn0 w w' := by
  have H : (if a0 = 3 then (some true) else (if a0 = 4 then (some true) else (if a0 = 5 then (some true) else (some (decide (a0 ≥ 16)))))) = some r := h
  clear h
  by_cases c2 : a0 = 3
  · rw [if_pos c2] at H
    have c2b0 : (a0 == 3) = true := beq_iff_eq.mpr c2
    have c2b1 : (a0 != 3) = false := bne_eq_false_iff_eq.mpr c2
    clear c2
    obtain rfl := Option.some.inj H
    go_enter Try.func62, Try.ntmps62
    go_wp2
    go_ret
    exact ⟨by first | rfl | (simp; done) | (simp [*]; done), by repeat (first | exact Drawn0.refl _ | apply Drawn0.step)⟩
  · rw [if_neg c2] at H
    have c2b0 : (a0 == 3) = false := beq_eq_false_iff_ne.mpr c2
    have c2b1 : (a0 != 3) = true := bne_iff_ne.mpr c2
    by_cases c3 : a0 = 4
    · rw [if_pos c3] at H
      have c3b0 : (a0 == 4) = true := beq_iff_eq.mpr c3
      have c3b1 : (a0 != 4) = false := bne_eq_false_iff_eq.mpr c3
      clear c3
      obtain rfl := Option.some.inj H
      go_enter Try.func62, Try.ntmps62
      go_wp2
      go_ret
      exact ⟨by first | rfl | (simp; done) | (simp [*]; done), by repeat (first | exact Drawn0.refl _ | apply Drawn0.step)⟩
    · rw [if_neg c3] at H
      have c3b0 : (a0 == 4) = false := beq_eq_false_iff_ne.mpr c3
      have c3b1 : (a0 != 4) = true := bne_iff_ne.mpr c3
      by_cases c4 : a0 = 5
      · rw [if_pos c4] at H
        have c4b0 : (a0 == 5) = true := beq_iff_eq.mpr c4
        have c4b1 : (a0 != 5) = false := bne_eq_false_iff_eq.mpr c4
        clear c4
        obtain rfl := Option.some.inj H
        go_enter Try.func62, Try.ntmps62
        go_wp2
        go_ret
        exact ⟨by first | rfl | (simp; done) | (simp [*]; done), by repeat (first | exact Drawn0.refl _ | apply Drawn0.step)⟩
      · rw [if_neg c4] at H
        have c4b0 : (a0 == 5) = false := beq_eq_false_iff_ne.mpr c4
        have c4b1 : (a0 != 5) = true := bne_iff_ne.mpr c4
        obtain rfl := Option.some.inj H
        go_enter Try.func62, Try.ntmps62
        go_wp2
        go_ret
        exact ⟨by first | rfl | (simp; done) | (simp [*]; done), by repeat (first | exact Drawn0.refl _ | apply Drawn0.step)⟩

def climbF (l : List S59) : Nat → Int → List Int
  | 0, _ => []
  | f + 1, c => if 0 ≤ c ∧ c < (l.length : Int) then c :: (if (rd_T59 l c).f1 ≥ c then [] else climbF l f (rd_T59 l c).f1) else []
def climbL (l : List S59) (c : Int) : List Int := climbF l (c.toNat + 1) c
theorem climbF_le (l : List S59) : ∀ (f g : Nat) (c : Int), c.toNat < f → f ≤ g → climbF l g c = climbF l f c
  | 0, _, _, h, _ => by omega
  | f + 1, 0, _, _, h => by omega
  | f + 1, g + 1, c, h, hg => by
    simp only [climbF]
    split
    · split
      · rfl
      · rename_i h1 h2
        by_cases h3 : 0 ≤ (rd_T59 l c).f1
        · rw [climbF_le l f g _ (by omega) (by omega)]
        · have e : ∀ k, climbF l k (rd_T59 l c).f1 = [] := by
            intro k
            cases k with
            | zero => rfl
            | succ k => simp only [climbF]; rw [if_neg (by omega)]
          rw [e, e]
    · rfl
theorem climbL_in (l : List S59) (c : Int) (h0 : 0 ≤ c) (h1 : c < (l.length : Int)) (h2 : (rd_T59 l c).f1 < c) : climbL l c = c :: climbL l (rd_T59 l c).f1 := by
  unfold climbL
  rw [climbF, if_pos ⟨h0, h1⟩, if_neg (by omega)]
  by_cases h3 : 0 ≤ (rd_T59 l c).f1
  · rw [climbF_le l _ c.toNat _ (Nat.lt_succ_self _) (by omega)]
  · have e : ∀ k, climbF l k (rd_T59 l c).f1 = [] := by
      intro k
      cases k with
      | zero => rfl
      | succ k => simp only [climbF]; rw [if_neg (by omega)]
    rw [e, e]
theorem climbL_last (l : List S59) (c : Int) (h0 : 0 ≤ c) (h1 : c < (l.length : Int)) (h2 : ¬ (rd_T59 l c).f1 < c) : climbL l c = [c] := by
  unfold climbL
  rw [climbF, if_pos ⟨h0, h1⟩, if_pos (by omega)]
theorem climbL_out (l : List S59) (c : Int) (h : ¬ (0 ≤ c ∧ c < (l.length : Int))) : climbL l c = [] := by
  unfold climbL
  rw [climbF, if_neg h]

set_option maxHeartbeats 800000 in
set_option maxRecDepth 100000 in
theorem climb_any (fid : Nat) (caps : Array Value) (A0 : Option Addr) (c0 : Nat) (l : List S59) (W0 : World) (hr : Kd.C k59 W0 A0 l.length l) (Inv : List Int → World → Prop) (Fin : World → Prop)
    (hB : ∀ xs W, Inv xs W → Below W0.heap.size W0 W) (hnil : ∀ W, Inv [] W → Fin W)
    (hstep : ∀ x xs W, Inv (x :: xs) W → Calls Try.prog fid (#[.int .i64 x] ++ caps) W fun e W' => (e = .returned (.bool true) ∧ Inv xs W') ∨ (e = .returned (.bool false) ∧ Fin W'))
    (hcf : ∀ (vs : Array Value) (w : World), Sem.run Try.prog (callFunc fid vs) w = .ok (.enter fid vs) w)
    (x0 : Int) (W : World) (h0 : Inv (climbL l x0) W) :
    Calls Try.prog 64 #[.slice A0 l.length c0, .int .i64 x0, .func (.func fid) #[] caps] W fun e W' => e = .returned (.tuple #[]) ∧ Fin W' := by
  have H0 := Aside0.mk h0
  have HN := Aside0.mk hnil
  have HS := Aside0.mk hstep
  have HB := Aside0.mk hB
  have HR := Aside0.mk hr
  clear h0 hnil hstep hB hr
  go_enter Try.func64, Try.ntmps64
  go_wp2
  go_loopw [1] (fun v wr => ∃ y : Int, v = .int .i64 y ∧ Aside0 (Inv (climbL l y) wr)) (fun v _ => (intOf v + 1).toNat)
  case atStart => exact ⟨x0, rfl, H0⟩
  case round =>
    obtain ⟨y, rfl, HI⟩ := hrel
    by_cases c1 : 0 ≤ y
    · have c1b : decide (0 ≤ y) = true := decide_eq_true c1
      by_cases c2 : y < (l.length : Int)
      · have c2b : decide (y < (l.length : Int)) = true := decide_eq_true c2
        obtain ⟨ad, A2, c3, e0, _, hx1, _, _, _⟩ := at_T59 HR.out y c1 c2
        subst e0
        have HX := Aside0.mk hx1
        clear hx1
        by_cases c3 : (rd_T59 l y).f1 < y
        · have HI2 := HI.out
          rw [climbL_in l y c1 c2 c3] at HI2
          have HC := Aside0.mk (HS.out _ _ _ HI2)
          have c3b : decide (y ≤ (rd_T59 l y).f1) = false := decide_eq_false (by omega)
          clear HI2
          go_wp2_with fail
          refine HC.out.mono ?_
          rintro e w1 (⟨rfl, h1⟩ | ⟨rfl, h1⟩)
          · have hB1 := HB.out _ _ h1
            have H1 := Aside0.mk h1
            have hx := (hB1.cell (World.block_lt_of_cell? W0 _ HX.out)).trans HX.out
            clear hB1 h1
            go_wp2
            go_roundw
            case rel => exact ⟨_, rfl, H1⟩
            case measure => simp [intOf]; omega
          · have H1 := Aside0.mk h1
            clear h1
            go_wp2
            go_end0
            exact ⟨rfl, H1.out⟩
        · have HI2 := HI.out
          rw [climbL_last l y c1 c2 c3] at HI2
          have HC := Aside0.mk (HS.out _ _ _ HI2)
          have c3b : decide (y ≤ (rd_T59 l y).f1) = true := decide_eq_true (by omega)
          clear HI2
          go_wp2_with fail
          refine HC.out.mono ?_
          rintro e w1 (⟨rfl, h1⟩ | ⟨rfl, h1⟩)
          · have hB1 := HB.out _ _ h1
            have H1 := Aside0.mk (HN.out _ h1)
            have hx := (hB1.cell (World.block_lt_of_cell? W0 _ HX.out)).trans HX.out
            clear hB1 h1
            go_wp2
            (try simp only [Exit.inBlock, Exit.then])
            refine bodyPost_ret (results_none rfl _ _ _) rfl ?_
            exact ⟨rfl, H1.out⟩
          · have H1 := Aside0.mk h1
            clear h1
            go_wp2
            go_end0
            exact ⟨rfl, H1.out⟩
      · have c2b : decide (y < (l.length : Int)) = false := decide_eq_false c2
        have HI2 := HI.out
        rw [climbL_out l y (by omega)] at HI2
        have H1 := Aside0.mk (HN.out _ HI2)
        clear HI2
        go_wp2
        go_end0
        exact ⟨rfl, H1.out⟩
    · have c1b : decide (0 ≤ y) = false := decide_eq_false c1
      have HI2 := HI.out
      rw [climbL_out l y (by omega)] at HI2
      have H1 := Aside0.mk (HN.out _ HI2)
      clear HI2
      go_wp2
      go_end0
      exact ⟨rfl, H1.out⟩
theorem callFunc_run {f : Nat} {fn : Func} (hf : Try.prog.funcs[f]? = some fn) (hname : (fn.name == "runtime.NumGoroutine") = false) (hb : fn.body.isSome = true) (vs : Array Value) (w : World) : Sem.run Try.prog (callFunc f vs) w = .ok (.enter f vs) w := enters_ hf hname hb vs w

theorem climbF_length (l : List S59) : ∀ (f : Nat) (c : Int), (climbF l f c).length ≤ f
  | 0, _ => Nat.le_refl _
  | f + 1, c => by
    simp only [climbF]
    split
    · split
      · simp
      · simpa using climbF_length l f _
    · simp
theorem climbL_length (l : List S59) (c : Int) : (climbL l c).length ≤ l.length := by
  by_cases h : 0 ≤ c ∧ c < (l.length : Int)
  · exact Nat.le_trans (climbF_length l _ c) (by omega)
  · rw [climbL_out l c h]; simp
theorem climbL_mem (l : List S59) (c : Int) : ∀ x ∈ climbL l c, 0 ≤ x ∧ x < (l.length : Int) := by
  have h : ∀ (f : Nat) (c : Int), ∀ x ∈ climbF l f c, 0 ≤ x ∧ x < (l.length : Int) := by
    intro f
    induction f with
    | zero => intro c x hx; cases hx
    | succ f ih =>
      intro c x hx
      simp only [climbF] at hx
      split at hx
      · rename_i h1
        rcases List.mem_cons.1 hx with rfl | h2
        · exact h1
        · split at h2
          · cases h2
          · exact ih _ x h2
      · cases hx
  exact h _ c

def types_above.f (l0 : List S59) (a1 a2 : Int) : Option Bool := some (decide (a2 ∈ climbL l0 a1))
set_option maxHeartbeats 800000 in
theorem types_above_step (Bt Bi : Nat) (top x : Int) (W : World) (hT : W.cell? ⟨Bt, 0, none⟩ = some (.int .i64 top)) (hI : W.cell? ⟨Bi, 0, none⟩ = some (.bool false)) (hF : W.frozen? ⟨Bi, 0, none⟩ = false) :
    Calls Try.prog 80 #[.int .i64 x, .pointer (some ⟨Bt, 0, none⟩), .pointer (some ⟨Bi, 0, none⟩)] W fun e W' => e = .returned (.bool (!(x == top))) ∧ W' = W.setCell ⟨Bi, 0, none⟩ (.bool (x == top)) := by
  have hI2 : (W.setCell ⟨Bi, 0, none⟩ (.bool (x == top))).cell? ⟨Bi, 0, none⟩ = some (.bool (x == top)) := World.cell?_setCell_same W _ _ hI
  go_enter Try.func80, Try.ntmps80
  go_wp2
  go_ret
  exact ⟨rfl, rfl⟩
structure AboveInv (W0 : World) (top : Int) (r : Bool) (xs : List Int) (W : World) : Prop where
  tops : W.cell? ⟨W0.heap.size, 0, none⟩ = some (.int .i64 top)
  now : W.cell? ⟨W0.heap.size + 1, 0, none⟩ = some (.bool false)
  free : W.frozen? ⟨W0.heap.size + 1, 0, none⟩ = false
  below : Below W0.heap.size W0 W
  left : decide (top ∈ xs) = r
structure AboveFin (W0 : World) (r : Bool) (W : World) : Prop where
  now : W.cell? ⟨W0.heap.size + 1, 0, none⟩ = some (.bool r)
  below : Below W0.heap.size W0 W
set_option maxHeartbeats 800000 in
set_option maxRecDepth 100000 in
theorem types_above.calls (A0 : Option Addr) (c0 : Nat) (l0 : List S59) (a1 a2 : Int) (r : Bool) (w : World) (hr0 : Kd.C k59 w A0 l0.length l0) (hc0 : l0.length ≤ c0) (h : types_above.f l0 a1 a2 = some r) :
    Calls Try.prog 63 #[.slice A0 l0.length c0, .int .i64 a1, .int .i64 a2] w fun e w' => e = .returned (.bool r) ∧ Below w.heap.size w w' := by
  obtain rfl := Option.some.inj h
  have hmf : ∀ (fn : Fn) (first cap : Array Value) (w : World), (Instr.makeFunc fn first cap).run Try.prog w = .ok (.func fn first cap) w := fun _ _ _ _ => rfl
  have HR := Aside0.mk hr0
  clear hr0 h
  go_enter Try.func63, Try.ntmps63
  go_wp2_with fail
  refine (climb_any 80 _ A0 c0 l0 w HR.out (AboveInv w a2 (decide (a2 ∈ climbL l0 a1))) (AboveFin w (decide (a2 ∈ climbL l0 a1))) (fun _ _ h => h.below) ?_ ?_ (callFunc_run Try.func80 (by kernel_rfl) (by kernel_rfl)) a1 _ ?_).mono ?_
  · rintro W ⟨h1, h2, h3, h4, h5⟩
    exact ⟨by rw [← h5]; exact h2, h4⟩
  · rintro x xs W ⟨h1, h2, h3, h4, h5⟩
    refine (types_above_step _ _ a2 x W h1 h2 h3).mono ?_
    rintro e W' ⟨rfl, rfl⟩
    by_cases e : x = a2
    · subst e
      right
      refine ⟨by simp, ?_, h4.setCell (by simp) _⟩
      rw [← h5]
      simpa using World.cell?_setCell_same W _ _ h2
    · left
      refine ⟨by simp [e], ?_, ?_, ?_, h4.setCell (by simp) _, ?_⟩
      · rw [World.cell?_setCell_other W _ _ _ (by simp)]; exact h1
      · have e' : (x == a2) = false := by simp [e]
        rw [e']; exact World.cell?_setCell_same W _ _ h2
      · simpa using h3
      · rw [← h5]; simp [Ne.symm e]
  · refine ⟨?_, ?_, World.frozen?_alloc_at _ _ _ _ (by simp), ((Below.refl _ _).alloc (Nat.le_refl _) _).alloc (by simp) _, rfl⟩
    · rw [World.cell?_alloc_past _ _ _ (by simp), World.cell?_alloc_at _ _ _ _ rfl]; rfl
    · rw [World.cell?_alloc_at _ _ _ _ (by simp)]; rfl
  · rintro e w1 ⟨rfl, h1, h2⟩
    go_wp2
    go_ret
    exact ⟨rfl, h2⟩

end Go.Proofs.Ytgjnmpgmbhbbhaa.P

end

section
namespace Go.Proofs.Ytgjnmpgmbhbbhaa.P
open Go.RowKit Go.Proofs.YtgjnmpgmbhbbhaaW.PrintWords Go.Proofs.YtgjnmpgmbhbbhaaW.PrintLast Go.Proofs.YtgjnmpgmbhbbhaaW.PrintMore
attribute [local go_sem] max2_int min2_int max_two min_two max_three min_three max_four min_four   -- for this text's walks alone
set_option linter.unusedVariables false
set_option linter.unusedSimpArgs false

mutual
def types_Sub.j0 : Nat → List (S59) → Int → Int → Bool → Option (Bool)
  | 0, _, _, _, _ => none
  | k + 1, x0, x1, x2, x18 => if x18 = true then (some false) else (if x1 = x2 then (types_Sub.j1 k x0 x1 x2 true) else (types_Sub.j1 k x0 x1 x2 (x2 == 0)))
def types_Sub.j1 : Nat → List (S59) → Int → Int → Bool → Option (Bool)
  | 0, _, _, _, _ => none
  | k + 1, x0, x1, x2, x19 => if x19 = true then (some true) else (if x1 = 3 then (types_Sub.j2 k x0 x1 x2 true) else (types_Sub.j2 k x0 x1 x2 (x2 == 5)))
def types_Sub.j2 : Nat → List (S59) → Int → Int → Bool → Option (Bool)
  | 0, _, _, _, _ => none
  | k + 1, x0, x1, x2, x27 => if x27 = true then ((types_IsRef.f x1).bind fun t160 => (if t160 = true then ((types_IsRef.f x2).bind fun t161 => (some t161)) else (some false))) else ((types_class.f x0 x1).bind fun t162 => ((types_class.f x0 x2).bind fun t163 => (if t162 ≥ 0 then (if t163 ≥ 0 then ((types_above.f x0 t162 t163).bind fun t164 => (some t164)) else (some false)) else (some false))))
end
def types_Sub.f (k : Nat) (l0 : List (S59)) (a1 : Int) (a2 : Int) : Option (Bool) := (types_Valid.f l0 a1).bind fun t158 => (if t158 = true then ((types_Valid.f l0 a2).bind fun t159 => (types_Sub.j0 k l0 a1 a2 (!t159))) else (types_Sub.j0 k l0 a1 a2 true))
end Go.Proofs.Ytgjnmpgmbhbbhaa.P
end

