/- Proved: the law HeapLives holds for every input that the row lets in. No condition of ours. -/
import Derived.Test.YtkjagcamikkjkaaGreatBHeapLivesc
import Derived.Maps.RangeWalk
import Derived.Maps.OwnSet
import Derived.Maps.OwnOps
import Derived.Lib.IfaceEq
import Derived.Laws.Externs
import Derived.Laws.Entries
import Derived.Stop.Asserts
section
namespace Go.Proofs.YtkjagcamikkjkaaGreat.P
open Go.RowKit Go.Proofs.YtkjagcamikkjkaaGreatW.PrintWords Go.Proofs.YtkjagcamikkjkaaGreatW.PrintLast Go.Proofs.YtkjagcamikkjkaaGreatW.PrintMore
attribute [local go_sem] max2_int min2_int max_two min_two max_three min_three max_four min_four   -- for this text's walks alone
set_option linter.unusedVariables false
set_option linter.unusedSimpArgs false

set_option maxHeartbeats 8000000 in
set_option maxRecDepth 100000 in
theorem provisoref02_fault.calls (k : Nat) (A0 : Option Addr) (c0 : Nat) (l0 : List (S38)) (a1 : Int) (r : Int) (w : World) (hr0 : Kd.C k38 w A0 l0.length l0) (hc0 : l0.length ≤ c0) (h : provisoref02_fault.f k l0 a1 = some r) :
    Calls Tryz.prog 41 #[.slice A0 l0.length c0, .int .i64 a1] w fun e w' => e = .returned (.int .i64 r) ∧ Below w.heap.size w w' := by
  have hu38 := Tryz.underlying38
  have hu41 := Tryz.underlying41
  have HR0 := Aside0.mk hr0
  have HC0 := Aside0.mk hc0
  clear hr0 hc0
  have HB := Aside0.mk (Below.refl w.heap.size w)
  have H : (if 0 ≤ a1 then (if a1 < (l0.length : Int) then (if a1 ≥ 32 then (some 4) else ((provisoref02_IsName.f k ((rd_T38 l0 a1).f0)).bind fun t132 => (if t132 = true then ((provisoref02_isWord.f k ((rd_T38 l0 a1).f0)).bind fun t133 => (provisoref02_fault.j0 k l0 a1 t133 ((rd_T38 l0 a1).f0) ((rd_T38 l0 a1).f1) ((rd_T38 l0 a1).f2))) else (provisoref02_fault.j0 k l0 a1 true ((rd_T38 l0 a1).f0) ((rd_T38 l0 a1).f1) ((rd_T38 l0 a1).f2))))) else (none)) else (none)) = some r := h
  clear h
  by_cases c3 : 0 ≤ a1
  · rw [if_pos c3] at H
    have c3b0 : decide (0 ≤ a1) = true := decide_eq_true c3
    clear c3
    by_cases c4 : a1 < (l0.length : Int)
    · rw [if_pos c4] at H
      have c4b0 : decide (a1 < (l0.length : Int)) = true := decide_eq_true c4
      clear c4
      by_cases c5 : a1 ≥ 32
      · rw [if_pos c5] at H
        have c5b0 : decide (32 ≤ a1) = true := decide_eq_true c5
        clear c5
        obtain rfl := Option.some.inj H
        have p130 : 0 ≤ (a1 : Int) := of_decide_eq_true (by first | (with_reducible assumption) | assumption)
        have q130 : a1 < (l0.length : Int) := of_decide_eq_true (by first | (with_reducible assumption) | assumption)
        obtain ⟨ad130, A130_2, c130_2, e130, hx130_0, hx130_1, hx130_2, hl130_2, hi130_2⟩ := at_T38 HR0.out a1 p130 q130
        cases e130
        have HR130_2 := Aside0.mk hi130_2
        have HC130_2 := Aside0.mk hl130_2
        clear hi130_2 hl130_2
        replace p130 := eq_true p130
        replace q130 := eq_true q130
        go_enter Tryz.func41, Tryz.ntmps41
        go_wp2_with (first | ((with_reducible refine gate_dst (N := 5) rfl ?_); refine box_event ?hg (N := 5) ?hd (cs := #[.string (⟨#[]⟩ : ByteArray), .int .i64 0, .slice none 0 0]) (t := 38) ?hr ?_; (case hd => rfl); (case hg => rfl); (case hr => first | (go_simp; done) | (go_simp; rfl)); intro gb131 hg w6 hbox hb; have n0_ := Aside0.mk (below_step (by repeat (first | (with_reducible first | exact HB.out | apply below_alloc | apply pw_below_drewN | apply below_drew1) | exact HB.out)) hb); have n1_ := Aside0.mk (hbox); have n2_ := Aside0.mk ((by rw [hg]; exact (below_size (by repeat (first | (with_reducible first | exact HB.out | apply below_alloc | apply pw_below_drewN | apply below_drew1) | exact HB.out))) : w.heap.size ≤ gb131)); have n3_ := Aside0.mk ((by rw [hg]; exact (below_size (by repeat (first | (with_reducible first | exact HB.out | apply below_alloc | apply pw_below_drewN | apply below_drew1) | exact HB.out))) : w.heap.size ≤ gb131)); clear HB; have HB := n0_; have BK131 := n1_; have GW131 := n2_; have GE131 := n3_; clear n0_ n1_ n2_ n3_; clear hb hbox hg; have hcz7_0 : w6.cell? ⟨gb131, 0, none⟩ = some (.string (⟨#[]⟩ : ByteArray)) := (blk_cell BK131.out 0).trans rfl; have hcz7_1 : w6.cell? ⟨gb131, 1, none⟩ = some (.int .i64 0) := (blk_cell BK131.out 1).trans rfl; have hcz7_2 : w6.cell? ⟨gb131, 2, none⟩ = some (.slice none 0 0) := (blk_cell BK131.out 2).trans rfl; have hfz7_0 := blk_frozen BK131.out 0; have hfz7_1 := blk_frozen BK131.out 1; have hfz7_2 := blk_frozen BK131.out 2))
        repeat (go_quiet (first | ((with_reducible refine gate_dst (N := 5) rfl ?_); refine box_event ?hg (N := 5) ?hd (cs := #[.string (⟨#[]⟩ : ByteArray), .int .i64 0, .slice none 0 0]) (t := 38) ?hr ?_; (case hd => rfl); (case hg => rfl); (case hr => first | (go_simp; done) | (go_simp; rfl)); intro gb131 hg w6 hbox hb; have n0_ := Aside0.mk (below_step (by repeat (first | (with_reducible first | exact HB.out | apply below_alloc | apply pw_below_drewN | apply below_drew1) | exact HB.out)) hb); have n1_ := Aside0.mk (hbox); have n2_ := Aside0.mk ((by rw [hg]; exact (below_size (by repeat (first | (with_reducible first | exact HB.out | apply below_alloc | apply pw_below_drewN | apply below_drew1) | exact HB.out))) : w.heap.size ≤ gb131)); have n3_ := Aside0.mk ((by rw [hg]; exact (below_size (by repeat (first | (with_reducible first | exact HB.out | apply below_alloc | apply pw_below_drewN | apply below_drew1) | exact HB.out))) : w.heap.size ≤ gb131)); clear HB; have HB := n0_; have BK131 := n1_; have GW131 := n2_; have GE131 := n3_; clear n0_ n1_ n2_ n3_; clear hb hbox hg; have hcz7_0 : w6.cell? ⟨gb131, 0, none⟩ = some (.string (⟨#[]⟩ : ByteArray)) := (blk_cell BK131.out 0).trans rfl; have hcz7_1 : w6.cell? ⟨gb131, 1, none⟩ = some (.int .i64 0) := (blk_cell BK131.out 1).trans rfl; have hcz7_2 : w6.cell? ⟨gb131, 2, none⟩ = some (.slice none 0 0) := (blk_cell BK131.out 2).trans rfl; have hfz7_0 := blk_frozen BK131.out 0; have hfz7_1 := blk_frozen BK131.out 1; have hfz7_2 := blk_frozen BK131.out 2)); try go_wp2_with (first | ((with_reducible refine gate_dst (N := 5) rfl ?_); refine box_event ?hg (N := 5) ?hd (cs := #[.string (⟨#[]⟩ : ByteArray), .int .i64 0, .slice none 0 0]) (t := 38) ?hr ?_; (case hd => rfl); (case hg => rfl); (case hr => first | (go_simp; done) | (go_simp; rfl)); intro gb131 hg w6 hbox hb; have n0_ := Aside0.mk (below_step (by repeat (first | (with_reducible first | exact HB.out | apply below_alloc | apply pw_below_drewN | apply below_drew1) | exact HB.out)) hb); have n1_ := Aside0.mk (hbox); have n2_ := Aside0.mk ((by rw [hg]; exact (below_size (by repeat (first | (with_reducible first | exact HB.out | apply below_alloc | apply pw_below_drewN | apply below_drew1) | exact HB.out))) : w.heap.size ≤ gb131)); have n3_ := Aside0.mk ((by rw [hg]; exact (below_size (by repeat (first | (with_reducible first | exact HB.out | apply below_alloc | apply pw_below_drewN | apply below_drew1) | exact HB.out))) : w.heap.size ≤ gb131)); clear HB; have HB := n0_; have BK131 := n1_; have GW131 := n2_; have GE131 := n3_; clear n0_ n1_ n2_ n3_; clear hb hbox hg; have hcz7_0 : w6.cell? ⟨gb131, 0, none⟩ = some (.string (⟨#[]⟩ : ByteArray)) := (blk_cell BK131.out 0).trans rfl; have hcz7_1 : w6.cell? ⟨gb131, 1, none⟩ = some (.int .i64 0) := (blk_cell BK131.out 1).trans rfl; have hcz7_2 : w6.cell? ⟨gb131, 2, none⟩ = some (.slice none 0 0) := (blk_cell BK131.out 2).trans rfl; have hfz7_0 := blk_frozen BK131.out 0; have hfz7_1 := blk_frozen BK131.out 1; have hfz7_2 := blk_frozen BK131.out 2)))
        go_ret
        exact ⟨by first | rfl | (simp [errW_none, errW_some] <;> rfl) | (simp [*, errW_none, errW_some] <;> rfl), by repeat (first | (with_reducible first | exact HB.out | apply below_alloc | apply pw_below_drewN | apply below_drew1 | refine below_set ?_ GE131.out) | exact HB.out)⟩
      · rw [if_neg c5] at H
        have c5b0 : decide (32 ≤ a1) = false := decide_eq_false c5
        clear c5
        have HC8 := Aside0.mk H
        clear H
        have p130 : 0 ≤ (a1 : Int) := of_decide_eq_true (by first | (with_reducible assumption) | assumption)
        have q130 : a1 < (l0.length : Int) := of_decide_eq_true (by first | (with_reducible assumption) | assumption)
        obtain ⟨ad130, A130_2, c130_2, e130, hx130_0, hx130_1, hx130_2, hl130_2, hi130_2⟩ := at_T38 HR0.out a1 p130 q130
        cases e130
        have HR130_2 := Aside0.mk hi130_2
        have HC130_2 := Aside0.mk hl130_2
        clear hi130_2 hl130_2
        replace p130 := eq_true p130
        replace q130 := eq_true q130
        go_enter Tryz.func41, Tryz.ntmps41
        go_upto_region 4 with (first | ((with_reducible refine gate_dst (N := 5) rfl ?_); refine box_event ?hg (N := 5) ?hd (cs := #[.string (⟨#[]⟩ : ByteArray), .int .i64 0, .slice none 0 0]) (t := 38) ?hr ?_; (case hd => rfl); (case hg => rfl); (case hr => first | (go_simp; done) | (go_simp; rfl)); intro gb131 hg w9 hbox hb; have n0_ := Aside0.mk (below_step (by repeat (first | (with_reducible first | exact HB.out | apply below_alloc | apply pw_below_drewN | apply below_drew1) | exact HB.out)) hb); have n1_ := Aside0.mk (hbox); have n2_ := Aside0.mk ((by rw [hg]; exact (below_size (by repeat (first | (with_reducible first | exact HB.out | apply below_alloc | apply pw_below_drewN | apply below_drew1) | exact HB.out))) : w.heap.size ≤ gb131)); have n3_ := Aside0.mk ((by rw [hg]; exact (below_size (by repeat (first | (with_reducible first | exact HB.out | apply below_alloc | apply pw_below_drewN | apply below_drew1) | exact HB.out))) : w.heap.size ≤ gb131)); clear HB; have HB := n0_; have BK131 := n1_; have GW131 := n2_; have GE131 := n3_; clear n0_ n1_ n2_ n3_; clear hb hbox hg; have hcz10_0 : w9.cell? ⟨gb131, 0, none⟩ = some (.string (⟨#[]⟩ : ByteArray)) := (blk_cell BK131.out 0).trans rfl; have hcz10_1 : w9.cell? ⟨gb131, 1, none⟩ = some (.int .i64 0) := (blk_cell BK131.out 1).trans rfl; have hcz10_2 : w9.cell? ⟨gb131, 2, none⟩ = some (.slice none 0 0) := (blk_cell BK131.out 2).trans rfl; have hfz10_0 := blk_frozen BK131.out 0; have hfz10_1 := blk_frozen BK131.out 1; have hfz10_2 := blk_frozen BK131.out 2))
        repeat (go_quiet (first | ((with_reducible refine gate_dst (N := 5) rfl ?_); refine box_event ?hg (N := 5) ?hd (cs := #[.string (⟨#[]⟩ : ByteArray), .int .i64 0, .slice none 0 0]) (t := 38) ?hr ?_; (case hd => rfl); (case hg => rfl); (case hr => first | (go_simp; done) | (go_simp; rfl)); intro gb131 hg w9 hbox hb; have n0_ := Aside0.mk (below_step (by repeat (first | (with_reducible first | exact HB.out | apply below_alloc | apply pw_below_drewN | apply below_drew1) | exact HB.out)) hb); have n1_ := Aside0.mk (hbox); have n2_ := Aside0.mk ((by rw [hg]; exact (below_size (by repeat (first | (with_reducible first | exact HB.out | apply below_alloc | apply pw_below_drewN | apply below_drew1) | exact HB.out))) : w.heap.size ≤ gb131)); have n3_ := Aside0.mk ((by rw [hg]; exact (below_size (by repeat (first | (with_reducible first | exact HB.out | apply below_alloc | apply pw_below_drewN | apply below_drew1) | exact HB.out))) : w.heap.size ≤ gb131)); clear HB; have HB := n0_; have BK131 := n1_; have GW131 := n2_; have GE131 := n3_; clear n0_ n1_ n2_ n3_; clear hb hbox hg; have hcz10_0 : w9.cell? ⟨gb131, 0, none⟩ = some (.string (⟨#[]⟩ : ByteArray)) := (blk_cell BK131.out 0).trans rfl; have hcz10_1 : w9.cell? ⟨gb131, 1, none⟩ = some (.int .i64 0) := (blk_cell BK131.out 1).trans rfl; have hcz10_2 : w9.cell? ⟨gb131, 2, none⟩ = some (.slice none 0 0) := (blk_cell BK131.out 2).trans rfl; have hfz10_0 := blk_frozen BK131.out 0; have hfz10_1 := blk_frozen BK131.out 1; have hfz10_2 := blk_frozen BK131.out 2)); go_upto_region 4 with (first | ((with_reducible refine gate_dst (N := 5) rfl ?_); refine box_event ?hg (N := 5) ?hd (cs := #[.string (⟨#[]⟩ : ByteArray), .int .i64 0, .slice none 0 0]) (t := 38) ?hr ?_; (case hd => rfl); (case hg => rfl); (case hr => first | (go_simp; done) | (go_simp; rfl)); intro gb131 hg w9 hbox hb; have n0_ := Aside0.mk (below_step (by repeat (first | (with_reducible first | exact HB.out | apply below_alloc | apply pw_below_drewN | apply below_drew1) | exact HB.out)) hb); have n1_ := Aside0.mk (hbox); have n2_ := Aside0.mk ((by rw [hg]; exact (below_size (by repeat (first | (with_reducible first | exact HB.out | apply below_alloc | apply pw_below_drewN | apply below_drew1) | exact HB.out))) : w.heap.size ≤ gb131)); have n3_ := Aside0.mk ((by rw [hg]; exact (below_size (by repeat (first | (with_reducible first | exact HB.out | apply below_alloc | apply pw_below_drewN | apply below_drew1) | exact HB.out))) : w.heap.size ≤ gb131)); clear HB; have HB := n0_; have BK131 := n1_; have GW131 := n2_; have GE131 := n3_; clear n0_ n1_ n2_ n3_; clear hb hbox hg; have hcz10_0 : w9.cell? ⟨gb131, 0, none⟩ = some (.string (⟨#[]⟩ : ByteArray)) := (blk_cell BK131.out 0).trans rfl; have hcz10_1 : w9.cell? ⟨gb131, 1, none⟩ = some (.int .i64 0) := (blk_cell BK131.out 1).trans rfl; have hcz10_2 : w9.cell? ⟨gb131, 2, none⟩ = some (.slice none 0 0) := (blk_cell BK131.out 2).trans rfl; have hfz10_0 := blk_frozen BK131.out 0; have hfz10_1 := blk_frozen BK131.out 1; have hfz10_2 := blk_frozen BK131.out 2)))
        (try simp only [Act.put, List.setIfInBounds_toArray, List.set_cons_zero, List.set_cons_succ])
        go_cut [24] (fun v24 wc => ∃ (kq : Nat) (x24_7 : Bool), v24 = .bool x24_7 ∧ Aside0 (provisoref02_fault.j0 kq l0 a1 x24_7 ((rd_T38 l0 a1).f0) ((rd_T38 l0 a1).f1) ((rd_T38 l0 a1).f2) = some r) ∧ Aside0 (kq ≤ k) ∧ Aside0 (wc.heap[gb131]? = some (.cells #[.string ((rd_T38 l0 a1).f0), .int .i64 ((rd_T38 l0 a1).f1), (.slice A130_2 ((rd_T38 l0 a1).f2).length c130_2)] 38 (0, 0))) ∧ Aside0 (Below w.heap.size w wc))
        case first =>
          have H := HC8.out
          clear HC8
          replace H := Option.bind_eq_some_iff.mp H
          obtain ⟨t132, A110, H⟩ := H
          replace H : (if t132 = true then ((provisoref02_isWord.f k ((rd_T38 l0 a1).f0)).bind fun t133 => (provisoref02_fault.j0 k l0 a1 t133 ((rd_T38 l0 a1).f0) ((rd_T38 l0 a1).f1) ((rd_T38 l0 a1).f2))) else (provisoref02_fault.j0 k l0 a1 true ((rd_T38 l0 a1).f0) ((rd_T38 l0 a1).f1) ((rd_T38 l0 a1).f2))) = some r := H
          have A11 := Aside0.mk A110
          clear A110
          by_cases c12 : t132 = true
          · subst c12
            have H1 : ((provisoref02_isWord.f k ((rd_T38 l0 a1).f0)).bind fun t133 => (provisoref02_fault.j0 k l0 a1 t133 ((rd_T38 l0 a1).f0) ((rd_T38 l0 a1).f1) ((rd_T38 l0 a1).f2))) = some r := by rw [if_pos rfl] at H; exact H
            clear H
            have H := H1
            clear H1
            replace H := Option.bind_eq_some_iff.mp H
            obtain ⟨t133, A130, H⟩ := H
            replace H : (provisoref02_fault.j0 k l0 a1 t133 ((rd_T38 l0 a1).f0) ((rd_T38 l0 a1).f1) ((rd_T38 l0 a1).f2)) = some r := H
            have A13 := Aside0.mk A130
            clear A130
            have H' := Aside0.mk H
            clear H
            have hcz14_0 : w9.cell? ⟨gb131, 0, none⟩ = some (.string (⟨#[]⟩ : ByteArray)) := (blk_cell BK131.out 0).trans rfl
            have hcz14_1 : w9.cell? ⟨gb131, 1, none⟩ = some (.int .i64 0) := (blk_cell BK131.out 1).trans rfl
            have hcz14_2 : w9.cell? ⟨gb131, 2, none⟩ = some (.slice none 0 0) := (blk_cell BK131.out 2).trans rfl
            have hfz14_0 := blk_frozen BK131.out 0
            have hfz14_1 := blk_frozen BK131.out 1
            have hfz14_2 := blk_frozen BK131.out 2
            go_wp2_with (first | (go_at_call 61; (with_reducible refine (provisoref02_IsName.calls k ((rd_T38 l0 a1).f0) true _ A11.out).mono ?_); rintro e w' ⟨rfl, ⟨nd, rfl⟩⟩; (try first | exact ⟨rfl, _, World.drewN_drewN _ _ _⟩ | exact ⟨rfl, _, Eq.trans (World.drewN_drewN _ _ _) (congrArg (World.drewN _) (Nat.add_assoc _ _ _))⟩)) | (go_at_call 62; (with_reducible refine (provisoref02_isWord.calls k ((rd_T38 l0 a1).f0) t133 _ A13.out).mono ?_); rintro e w' ⟨rfl, ⟨nd, rfl⟩⟩; (try first | exact ⟨rfl, _, World.drewN_drewN _ _ _⟩ | exact ⟨rfl, _, Eq.trans (World.drewN_drewN _ _ _) (congrArg (World.drewN _) (Nat.add_assoc _ _ _))⟩)))
            repeat (go_quiet (first | (go_at_call 61; (with_reducible refine (provisoref02_IsName.calls k ((rd_T38 l0 a1).f0) true _ A11.out).mono ?_); rintro e w' ⟨rfl, ⟨nd, rfl⟩⟩; (try first | exact ⟨rfl, _, World.drewN_drewN _ _ _⟩ | exact ⟨rfl, _, Eq.trans (World.drewN_drewN _ _ _) (congrArg (World.drewN _) (Nat.add_assoc _ _ _))⟩)) | (go_at_call 62; (with_reducible refine (provisoref02_isWord.calls k ((rd_T38 l0 a1).f0) t133 _ A13.out).mono ?_); rintro e w' ⟨rfl, ⟨nd, rfl⟩⟩; (try first | exact ⟨rfl, _, World.drewN_drewN _ _ _⟩ | exact ⟨rfl, _, Eq.trans (World.drewN_drewN _ _ _) (congrArg (World.drewN _) (Nat.add_assoc _ _ _))⟩))); try go_wp2_with (first | (go_at_call 61; (with_reducible refine (provisoref02_IsName.calls k ((rd_T38 l0 a1).f0) true _ A11.out).mono ?_); rintro e w' ⟨rfl, ⟨nd, rfl⟩⟩; (try first | exact ⟨rfl, _, World.drewN_drewN _ _ _⟩ | exact ⟨rfl, _, Eq.trans (World.drewN_drewN _ _ _) (congrArg (World.drewN _) (Nat.add_assoc _ _ _))⟩)) | (go_at_call 62; (with_reducible refine (provisoref02_isWord.calls k ((rd_T38 l0 a1).f0) t133 _ A13.out).mono ?_); rintro e w' ⟨rfl, ⟨nd, rfl⟩⟩; (try first | exact ⟨rfl, _, World.drewN_drewN _ _ _⟩ | exact ⟨rfl, _, Eq.trans (World.drewN_drewN _ _ _) (congrArg (World.drewN _) (Nat.add_assoc _ _ _))⟩))))
            go_meet
            case rel => exact ⟨_, (t133), (by first | rfl | (simp; done) | (simp [*]; done)), H', ⟨by first | omega | exact Nat.le_refl _⟩, ⟨by (with_reducible repeat (first | refine blk_drewN ?_ _ | refine blk_drew ?_ | refine blk_alloc ?_ _)); refine blk_put (cs := #[.string ((rd_T38 l0 a1).f0), .int .i64 ((rd_T38 l0 a1).f1), .slice none 0 0]) ?_ 2 _ rfl; (with_reducible repeat (first | refine blk_drewN ?_ _ | refine blk_drew ?_ | refine blk_alloc ?_ _)); refine blk_put (cs := #[.string ((rd_T38 l0 a1).f0), .int .i64 0, .slice none 0 0]) ?_ 1 _ rfl; (with_reducible repeat (first | refine blk_drewN ?_ _ | refine blk_drew ?_ | refine blk_alloc ?_ _)); refine blk_put (cs := #[.string (⟨#[]⟩ : ByteArray), .int .i64 0, .slice none 0 0]) ?_ 0 _ rfl; (with_reducible repeat (first | refine blk_drewN ?_ _ | refine blk_drew ?_ | refine blk_alloc ?_ _)); exact BK131.out⟩, ⟨by repeat (first | (with_reducible first | exact HB.out | apply below_alloc | apply pw_below_drewN | apply below_drew1 | refine below_set ?_ GE131.out) | exact HB.out)⟩⟩
          · replace c12 := Bool.eq_false_iff.mpr c12
            subst c12
            have H1 : (provisoref02_fault.j0 k l0 a1 true ((rd_T38 l0 a1).f0) ((rd_T38 l0 a1).f1) ((rd_T38 l0 a1).f2)) = some r := by rw [if_neg (show ¬ (false = true) by decide)] at H; exact H
            clear H
            have H := H1
            clear H1
            have H' := Aside0.mk H
            clear H
            have hcz15_0 : w9.cell? ⟨gb131, 0, none⟩ = some (.string (⟨#[]⟩ : ByteArray)) := (blk_cell BK131.out 0).trans rfl
            have hcz15_1 : w9.cell? ⟨gb131, 1, none⟩ = some (.int .i64 0) := (blk_cell BK131.out 1).trans rfl
            have hcz15_2 : w9.cell? ⟨gb131, 2, none⟩ = some (.slice none 0 0) := (blk_cell BK131.out 2).trans rfl
            have hfz15_0 := blk_frozen BK131.out 0
            have hfz15_1 := blk_frozen BK131.out 1
            have hfz15_2 := blk_frozen BK131.out 2
            go_wp2_with (first | (go_at_call 61; (with_reducible refine (provisoref02_IsName.calls k ((rd_T38 l0 a1).f0) false _ A11.out).mono ?_); rintro e w' ⟨rfl, ⟨nd, rfl⟩⟩; (try first | exact ⟨rfl, _, World.drewN_drewN _ _ _⟩ | exact ⟨rfl, _, Eq.trans (World.drewN_drewN _ _ _) (congrArg (World.drewN _) (Nat.add_assoc _ _ _))⟩)))
            repeat (go_quiet (first | (go_at_call 61; (with_reducible refine (provisoref02_IsName.calls k ((rd_T38 l0 a1).f0) false _ A11.out).mono ?_); rintro e w' ⟨rfl, ⟨nd, rfl⟩⟩; (try first | exact ⟨rfl, _, World.drewN_drewN _ _ _⟩ | exact ⟨rfl, _, Eq.trans (World.drewN_drewN _ _ _) (congrArg (World.drewN _) (Nat.add_assoc _ _ _))⟩))); try go_wp2_with (first | (go_at_call 61; (with_reducible refine (provisoref02_IsName.calls k ((rd_T38 l0 a1).f0) false _ A11.out).mono ?_); rintro e w' ⟨rfl, ⟨nd, rfl⟩⟩; (try first | exact ⟨rfl, _, World.drewN_drewN _ _ _⟩ | exact ⟨rfl, _, Eq.trans (World.drewN_drewN _ _ _) (congrArg (World.drewN _) (Nat.add_assoc _ _ _))⟩))))
            go_meet
            case rel => exact ⟨_, (true), (by first | rfl | (simp; done) | (simp [*]; done)), H', ⟨by first | omega | exact Nat.le_refl _⟩, ⟨by (with_reducible repeat (first | refine blk_drewN ?_ _ | refine blk_drew ?_ | refine blk_alloc ?_ _)); refine blk_put (cs := #[.string ((rd_T38 l0 a1).f0), .int .i64 ((rd_T38 l0 a1).f1), .slice none 0 0]) ?_ 2 _ rfl; (with_reducible repeat (first | refine blk_drewN ?_ _ | refine blk_drew ?_ | refine blk_alloc ?_ _)); refine blk_put (cs := #[.string ((rd_T38 l0 a1).f0), .int .i64 0, .slice none 0 0]) ?_ 1 _ rfl; (with_reducible repeat (first | refine blk_drewN ?_ _ | refine blk_drew ?_ | refine blk_alloc ?_ _)); refine blk_put (cs := #[.string (⟨#[]⟩ : ByteArray), .int .i64 0, .slice none 0 0]) ?_ 0 _ rfl; (with_reducible repeat (first | refine blk_drewN ?_ _ | refine blk_drew ?_ | refine blk_alloc ?_ _)); exact BK131.out⟩, ⟨by repeat (first | (with_reducible first | exact HB.out | apply below_alloc | apply pw_below_drewN | apply below_drew1 | refine below_set ?_ GE131.out) | exact HB.out)⟩⟩
        case rest =>
          clear HC8
          try clear c1
          try clear p1
          try clear q1
          try clear hx1
          try clear p2
          try clear c3
          try clear c3b0
          try clear c4
          try clear c4b0
          try clear c5
          try clear c5b0
          try clear c12
          try clear c13
          try clear p13
          try clear q13
          try clear hx13
          try clear hcz10_0
          try clear hcz10_1
          try clear hcz10_2
          try clear hcz14_0
          try clear hcz14_1
          try clear hcz14_2
          try clear hcz15_0
          try clear hcz15_1
          try clear hcz15_2
          try clear hcz7_0
          try clear hcz7_1
          try clear hcz7_2
          try clear hfz10_0
          try clear hfz10_1
          try clear hfz10_2
          try clear hfz14_0
          try clear hfz14_1
          try clear hfz14_2
          try clear hfz15_0
          try clear hfz15_1
          try clear hfz15_2
          try clear hfz7_0
          try clear hfz7_1
          try clear hfz7_2
          try clear hx130_0
          try clear hx130_1
          try clear hx130_2
          try clear p130
          try clear q130
          obtain ⟨kq, x24_7, rfl, HA, HJ7, BK131, HB⟩ := hcut
          cases kq with
          | zero => exact absurd HA.out (by simp [provisoref02_fault.j0])
          | succ kj7 =>
            have H := HA.out
            clear HA
            simp only [provisoref02_fault.j0] at H
            by_cases c16 : x24_7 = true
            · subst c16
              have H1 : (some 6) = some r := by rw [if_pos rfl] at H; exact H
              clear H
              have H := H1
              clear H1
              obtain rfl := Option.some.inj H
              go_wp2
              repeat (go_quiet (fail); try go_wp2)
              go_ret
              exact ⟨by first | rfl | (simp [errW_none, errW_some] <;> rfl) | (simp [*, errW_none, errW_some] <;> rfl), by repeat (first | (with_reducible first | exact HB.out | apply below_alloc | apply pw_below_drewN | apply below_drew1 | refine below_set ?_ GE131.out) | exact HB.out)⟩
            · replace c16 := Bool.eq_false_iff.mpr c16
              subst c16
              have H1 : (provisoref02_fault.l0 kj7 l0 a1 0 ((rd_T38 l0 a1).f0) ((rd_T38 l0 a1).f1) ((rd_T38 l0 a1).f2)) = some r := by rw [if_neg (show ¬ (false = true) by decide)] at H; exact H
              clear H
              have H := H1
              clear H1
              have H' := Aside0.mk H
              clear H
              go_wp2
              repeat (go_quiet (fail); try go_wp2)
              go_loopg [6] kj7 (fun kq v6 w' => ∃ (x6_2 : Int), v6 = .int .i64 x6_2 ∧ Aside0 (provisoref02_fault.l0 kq l0 a1 x6_2 ((rd_T38 l0 a1).f0) ((rd_T38 l0 a1).f1) ((rd_T38 l0 a1).f2) = some r) ∧ Aside0 (kq ≤ kj7) ∧ Aside0 (w'.heap[gb131]? = some (.cells #[.string ((rd_T38 l0 a1).f0), .int .i64 ((rd_T38 l0 a1).f1), (.slice A130_2 ((rd_T38 l0 a1).f2).length c130_2)] 38 (0, 0))) ∧ Aside0 (Below w.heap.size w w'))
              case atStart => exact ⟨(0), (by first | rfl | (simp; done) | (simp [*]; done)), H', ⟨Nat.le_refl _⟩, ⟨by (with_reducible repeat (first | refine blk_drewN ?_ _ | refine blk_drew ?_ | refine blk_alloc ?_ _)); exact BK131.out⟩, ⟨by repeat (first | (with_reducible first | exact HB.out | apply below_alloc | apply pw_below_drewN | apply below_drew1 | refine below_set ?_ GE131.out) | exact HB.out)⟩⟩
              case round =>
                clear H'
                try clear c1
                try clear p1
                try clear q1
                try clear hx1
                try clear p2
                try clear c3
                try clear c3b0
                try clear c4
                try clear c4b0
                try clear c5
                try clear c5b0
                try clear c12
                try clear c13
                try clear p13
                try clear q13
                try clear hx13
                try clear c16
                try clear hcz10_0
                try clear hcz10_1
                try clear hcz10_2
                try clear hcz14_0
                try clear hcz14_1
                try clear hcz14_2
                try clear hcz15_0
                try clear hcz15_1
                try clear hcz15_2
                try clear hcz7_0
                try clear hcz7_1
                try clear hcz7_2
                try clear hfz10_0
                try clear hfz10_1
                try clear hfz10_2
                try clear hfz14_0
                try clear hfz14_1
                try clear hfz14_2
                try clear hfz15_0
                try clear hfz15_1
                try clear hfz15_2
                try clear hfz7_0
                try clear hfz7_1
                try clear hfz7_2
                try clear hx130_0
                try clear hx130_1
                try clear hx130_2
                try clear p1
                try clear p13
                try clear p130
                try clear p2
                try clear q1
                try clear q13
                try clear q130
                obtain ⟨x6_2, rfl, HA, HK2, BK131, HB⟩ := hrel
                cases gk with
                | zero => exact absurd HA.out (by simp [provisoref02_fault.l0])
                | succ k2 =>
                  have H := HA.out
                  clear HA
                  simp only [provisoref02_fault.l0] at H
                  by_cases c17 : x6_2 < a1
                  · rw [if_pos c17] at H
                    have c17b0 : decide (x6_2 < a1) = true := decide_eq_true c17
                    clear c17
                    by_cases c18 : 0 ≤ x6_2
                    · rw [if_pos c18] at H
                      have c18b0 : decide (0 ≤ x6_2) = true := decide_eq_true c18
                      clear c18
                      by_cases c19 : x6_2 < (l0.length : Int)
                      · rw [if_pos c19] at H
                        have c19b0 : decide (x6_2 < (l0.length : Int)) = true := decide_eq_true c19
                        clear c19
                        by_cases c20 : ((rd_T38 l0 x6_2).f0).toList = ((rd_T38 l0 a1).f0).toList
                        · rw [if_pos c20] at H
                          have c20b0 : (((rd_T38 l0 x6_2).f0).toList == ((rd_T38 l0 a1).f0).toList) = true := beq_iff_eq.mpr c20
                          have c20b1 : (((rd_T38 l0 x6_2).f0).toList != ((rd_T38 l0 a1).f0).toList) = false := bne_eq_false_iff_eq.mpr c20
                          clear c20
                          obtain rfl := Option.some.inj H
                          have p134 : 0 ≤ (x6_2 : Int) := of_decide_eq_true (by first | (with_reducible assumption) | assumption)
                          have q134 : x6_2 < (l0.length : Int) := of_decide_eq_true (by first | (with_reducible assumption) | assumption)
                          obtain ⟨ad134, A134_2, c134_2, e134, hx134_0, hx134_1, hx134_2, hl134_2, hi134_2⟩ := at_T38 HR0.out x6_2 p134 q134
                          obtain rfl : ad130 = ad134 := (by injection e134)
                          replace hx134_0 := (HB.out.cell (World.block_lt_of_cell? w _ hx134_0)).trans hx134_0
                          replace hx134_1 := (HB.out.cell (World.block_lt_of_cell? w _ hx134_1)).trans hx134_1
                          replace hx134_2 := (HB.out.cell (World.block_lt_of_cell? w _ hx134_2)).trans hx134_2
                          have HR134_2 := Aside0.mk hi134_2
                          have HC134_2 := Aside0.mk hl134_2
                          clear hi134_2 hl134_2
                          replace p134 := eq_true p134
                          replace q134 := eq_true q134
                          have hcz21_0 : wr.cell? ⟨gb131, 0, none⟩ = some (.string ((rd_T38 l0 a1).f0)) := (blk_cell BK131.out 0).trans rfl
                          have hcz21_1 : wr.cell? ⟨gb131, 1, none⟩ = some (.int .i64 ((rd_T38 l0 a1).f1)) := (blk_cell BK131.out 1).trans rfl
                          have hcz21_2 : wr.cell? ⟨gb131, 2, none⟩ = some (.slice A130_2 ((rd_T38 l0 a1).f2).length c130_2) := (blk_cell BK131.out 2).trans rfl
                          have hfz21_0 := blk_frozen BK131.out 0
                          have hfz21_1 := blk_frozen BK131.out 1
                          have hfz21_2 := blk_frozen BK131.out 2
                          go_wp2
                          repeat (go_quiet (fail); try go_wp2)
                          go_ret
                          exact ⟨by first | rfl | (simp [errW_none, errW_some] <;> rfl) | (simp [*, errW_none, errW_some] <;> rfl), by repeat (first | (with_reducible first | exact HB.out | apply below_alloc | apply pw_below_drewN | apply below_drew1 | refine below_set ?_ GE131.out) | exact HB.out)⟩
                        · rw [if_neg c20] at H
                          have c20b0 : (((rd_T38 l0 x6_2).f0).toList == ((rd_T38 l0 a1).f0).toList) = false := beq_eq_false_iff_ne.mpr c20
                          have c20b1 : (((rd_T38 l0 x6_2).f0).toList != ((rd_T38 l0 a1).f0).toList) = true := bne_iff_ne.mpr c20
                          have H' := Aside0.mk H
                          clear H
                          have p134 : 0 ≤ (x6_2 : Int) := of_decide_eq_true (by first | (with_reducible assumption) | assumption)
                          have q134 : x6_2 < (l0.length : Int) := of_decide_eq_true (by first | (with_reducible assumption) | assumption)
                          obtain ⟨ad134, A134_2, c134_2, e134, hx134_0, hx134_1, hx134_2, hl134_2, hi134_2⟩ := at_T38 HR0.out x6_2 p134 q134
                          obtain rfl : ad130 = ad134 := (by injection e134)
                          replace hx134_0 := (HB.out.cell (World.block_lt_of_cell? w _ hx134_0)).trans hx134_0
                          replace hx134_1 := (HB.out.cell (World.block_lt_of_cell? w _ hx134_1)).trans hx134_1
                          replace hx134_2 := (HB.out.cell (World.block_lt_of_cell? w _ hx134_2)).trans hx134_2
                          have HR134_2 := Aside0.mk hi134_2
                          have HC134_2 := Aside0.mk hl134_2
                          clear hi134_2 hl134_2
                          replace p134 := eq_true p134
                          replace q134 := eq_true q134
                          have hcz22_0 : wr.cell? ⟨gb131, 0, none⟩ = some (.string ((rd_T38 l0 a1).f0)) := (blk_cell BK131.out 0).trans rfl
                          have hcz22_1 : wr.cell? ⟨gb131, 1, none⟩ = some (.int .i64 ((rd_T38 l0 a1).f1)) := (blk_cell BK131.out 1).trans rfl
                          have hcz22_2 : wr.cell? ⟨gb131, 2, none⟩ = some (.slice A130_2 ((rd_T38 l0 a1).f2).length c130_2) := (blk_cell BK131.out 2).trans rfl
                          have hfz22_0 := blk_frozen BK131.out 0
                          have hfz22_1 := blk_frozen BK131.out 1
                          have hfz22_2 := blk_frozen BK131.out 2
                          go_wp2
                          repeat (go_quiet (fail); try go_wp2)
                          go_roundg k2
                          case measure => have := HJ7.out; have := HK2.out; omega
                          case rel => exact ⟨(wrap64 (x6_2 + 1)), (by first | rfl | (simp; done) | (simp [*]; done)), H', ⟨by have := HJ7.out; have := HK2.out; omega⟩, ⟨by (with_reducible repeat (first | refine blk_drewN ?_ _ | refine blk_drew ?_ | refine blk_alloc ?_ _)); exact BK131.out⟩, ⟨by repeat (first | (with_reducible first | exact HB.out | apply below_alloc | apply pw_below_drewN | apply below_drew1 | refine below_set ?_ GE131.out) | exact HB.out)⟩⟩
                      · rw [if_neg c19] at H
                        exact absurd H (by simp)
                    · rw [if_neg c18] at H
                      exact absurd H (by simp)
                  · rw [if_neg c17] at H
                    have c17b0 : decide (x6_2 < a1) = false := decide_eq_false c17
                    clear c17
                    have HC23 := Aside0.mk H
                    clear H
                    go_upto_region 11 with (fail)
                    repeat (go_quiet (fail); go_upto_region 11 with (fail))
                    go_cut [46] (fun v46 wc => ∃ (kq : Nat) (x46_22 : Bool), v46 = .bool x46_22 ∧ Aside0 (provisoref02_fault.j2 kq l0 x46_22 ((rd_T38 l0 a1).f0) ((rd_T38 l0 a1).f1) ((rd_T38 l0 a1).f2) = some r) ∧ Aside0 (kq ≤ k2) ∧ Aside0 (wc.heap[gb131]? = some (.cells #[.string ((rd_T38 l0 a1).f0), .int .i64 ((rd_T38 l0 a1).f1), (.slice A130_2 ((rd_T38 l0 a1).f2).length c130_2)] 38 (0, 0))) ∧ Aside0 (Below w.heap.size w wc))
                    case first =>
                      have H := HC23.out
                      clear HC23
                      by_cases c24 : ((rd_T38 l0 a1).f1) < (-1)
                      · rw [if_pos c24] at H
                        have c24b0 : decide (((rd_T38 l0 a1).f1) < (-1)) = true := decide_eq_true c24
                        clear c24
                        (first | rw [c24b0] | (simp only [i64_w, i32_w]; rw [c24b0]) | skip)
                        have H' := Aside0.mk H
                        clear H
                        have hcz25_0 : wr.cell? ⟨gb131, 0, none⟩ = some (.string ((rd_T38 l0 a1).f0)) := (blk_cell BK131.out 0).trans rfl
                        have hcz25_1 : wr.cell? ⟨gb131, 1, none⟩ = some (.int .i64 ((rd_T38 l0 a1).f1)) := (blk_cell BK131.out 1).trans rfl
                        have hcz25_2 : wr.cell? ⟨gb131, 2, none⟩ = some (.slice A130_2 ((rd_T38 l0 a1).f2).length c130_2) := (blk_cell BK131.out 2).trans rfl
                        have hfz25_0 := blk_frozen BK131.out 0
                        have hfz25_1 := blk_frozen BK131.out 1
                        have hfz25_2 := blk_frozen BK131.out 2
                        go_wp2
                        repeat (go_quiet (fail); try go_wp2)
                        go_meet
                        case rel => exact ⟨_, (true), (by first | rfl | (simp; done) | (simp [*]; done)), H', ⟨by have := HJ7.out; have := HK2.out; first | omega | exact Nat.le_refl _⟩, ⟨by (with_reducible repeat (first | refine blk_drewN ?_ _ | refine blk_drew ?_ | refine blk_alloc ?_ _)); exact BK131.out⟩, ⟨by repeat (first | (with_reducible first | exact HB.out | apply below_alloc | apply pw_below_drewN | apply below_drew1 | refine below_set ?_ GE131.out) | exact HB.out)⟩⟩
                      · rw [if_neg c24] at H
                        have c24b0 : decide (((rd_T38 l0 a1).f1) < (-1)) = false := decide_eq_false c24
                        clear c24
                        (first | rw [c24b0] | (simp only [i64_w, i32_w]; rw [c24b0]) | skip)
                        have H' := Aside0.mk H
                        clear H
                        have hcz26_0 : wr.cell? ⟨gb131, 0, none⟩ = some (.string ((rd_T38 l0 a1).f0)) := (blk_cell BK131.out 0).trans rfl
                        have hcz26_1 : wr.cell? ⟨gb131, 1, none⟩ = some (.int .i64 ((rd_T38 l0 a1).f1)) := (blk_cell BK131.out 1).trans rfl
                        have hcz26_2 : wr.cell? ⟨gb131, 2, none⟩ = some (.slice A130_2 ((rd_T38 l0 a1).f2).length c130_2) := (blk_cell BK131.out 2).trans rfl
                        have hfz26_0 := blk_frozen BK131.out 0
                        have hfz26_1 := blk_frozen BK131.out 1
                        have hfz26_2 := blk_frozen BK131.out 2
                        go_wp2
                        repeat (go_quiet (fail); try go_wp2)
                        go_meet
                        case rel => exact ⟨_, (decide (((rd_T38 l0 a1).f1) ≥ a1)), (by first | rfl | (simp; done) | (simp [*]; done)), H', ⟨by have := HJ7.out; have := HK2.out; first | omega | exact Nat.le_refl _⟩, ⟨by (with_reducible repeat (first | refine blk_drewN ?_ _ | refine blk_drew ?_ | refine blk_alloc ?_ _)); exact BK131.out⟩, ⟨by repeat (first | (with_reducible first | exact HB.out | apply below_alloc | apply pw_below_drewN | apply below_drew1 | refine below_set ?_ GE131.out) | exact HB.out)⟩⟩
                    case rest =>
                      clear HC23
                      try clear c1
                      try clear p1
                      try clear q1
                      try clear hx1
                      try clear c2
                      try clear p2
                      try clear c3
                      try clear c3b0
                      try clear c4
                      try clear c4b0
                      try clear c5
                      try clear c5b0
                      try clear p6
                      try clear c12
                      try clear c13
                      try clear p13
                      try clear q13
                      try clear hx13
                      try clear c16
                      try clear c17
                      try clear c17b0
                      try clear c18
                      try clear c18b0
                      try clear c19
                      try clear c19b0
                      try clear c20
                      try clear c20b0
                      try clear c20b1
                      try clear c24
                      try clear c24b0
                      try clear hcz10_0
                      try clear hcz10_1
                      try clear hcz10_2
                      try clear hcz14_0
                      try clear hcz14_1
                      try clear hcz14_2
                      try clear hcz15_0
                      try clear hcz15_1
                      try clear hcz15_2
                      try clear hcz21_0
                      try clear hcz21_1
                      try clear hcz21_2
                      try clear hcz22_0
                      try clear hcz22_1
                      try clear hcz22_2
                      try clear hcz25_0
                      try clear hcz25_1
                      try clear hcz25_2
                      try clear hcz26_0
                      try clear hcz26_1
                      try clear hcz26_2
                      try clear hcz7_0
                      try clear hcz7_1
                      try clear hcz7_2
                      try clear hfz10_0
                      try clear hfz10_1
                      try clear hfz10_2
                      try clear hfz14_0
                      try clear hfz14_1
                      try clear hfz14_2
                      try clear hfz15_0
                      try clear hfz15_1
                      try clear hfz15_2
                      try clear hfz21_0
                      try clear hfz21_1
                      try clear hfz21_2
                      try clear hfz22_0
                      try clear hfz22_1
                      try clear hfz22_2
                      try clear hfz25_0
                      try clear hfz25_1
                      try clear hfz25_2
                      try clear hfz26_0
                      try clear hfz26_1
                      try clear hfz26_2
                      try clear hfz7_0
                      try clear hfz7_1
                      try clear hfz7_2
                      try clear hx130_0
                      try clear hx130_1
                      try clear hx130_2
                      try clear hx134_0
                      try clear hx134_1
                      try clear hx134_2
                      try clear p1
                      try clear p13
                      try clear p130
                      try clear p134
                      try clear p2
                      try clear q1
                      try clear q13
                      try clear q130
                      try clear q134
                      obtain ⟨kq, x46_22, rfl, HA, HJ22, BK131, HB⟩ := hcut
                      cases kq with
                      | zero => exact absurd HA.out (by simp [provisoref02_fault.j2])
                      | succ kj22 =>
                        have H := HA.out
                        clear HA
                        simp only [provisoref02_fault.j2] at H
                        by_cases c27 : x46_22 = true
                        · subst c27
                          have H1 : (some 21) = some r := by rw [if_pos rfl] at H; exact H
                          clear H
                          have H := H1
                          clear H1
                          obtain rfl := Option.some.inj H
                          go_wp2
                          repeat (go_quiet (fail); try go_wp2)
                          go_ret
                          exact ⟨by first | rfl | (simp [errW_none, errW_some] <;> rfl) | (simp [*, errW_none, errW_some] <;> rfl), by repeat (first | (with_reducible first | exact HB.out | apply below_alloc | apply pw_below_drewN | apply below_drew1 | refine below_set ?_ GE131.out) | exact HB.out)⟩
                        · replace c27 := Bool.eq_false_iff.mpr c27
                          subst c27
                          have H1 : ((provisoref02_Fields.f kj22 l0 ((rd_T38 l0 a1).f1)).bind fun t135 => (provisoref02_fault.l1 kj22 l0 t135 0 ((rd_T38 l0 a1).f0) ((rd_T38 l0 a1).f1) ((rd_T38 l0 a1).f2))) = some r := by rw [if_neg (show ¬ (false = true) by decide)] at H; exact H
                          clear H
                          have H := H1
                          clear H1
                          replace H := Option.bind_eq_some_iff.mp H
                          obtain ⟨t135, A280, H⟩ := H
                          replace H : (provisoref02_fault.l1 kj22 l0 t135 0 ((rd_T38 l0 a1).f0) ((rd_T38 l0 a1).f1) ((rd_T38 l0 a1).f2)) = some r := H
                          have A28 := Aside0.mk A280
                          clear A280
                          have H' := Aside0.mk H
                          clear H
                          have hcz29_0 : wc.cell? ⟨gb131, 0, none⟩ = some (.string ((rd_T38 l0 a1).f0)) := (blk_cell BK131.out 0).trans rfl
                          have hcz29_1 : wc.cell? ⟨gb131, 1, none⟩ = some (.int .i64 ((rd_T38 l0 a1).f1)) := (blk_cell BK131.out 1).trans rfl
                          have hcz29_2 : wc.cell? ⟨gb131, 2, none⟩ = some (.slice A130_2 ((rd_T38 l0 a1).f2).length c130_2) := (blk_cell BK131.out 2).trans rfl
                          have hfz29_0 := blk_frozen BK131.out 0
                          have hfz29_1 := blk_frozen BK131.out 1
                          have hfz29_2 := blk_frozen BK131.out 2
                          go_wp2_with (first | (go_at_call 46; (with_reducible refine (provisoref02_Fields.calls kj22 _ _ l0 ((rd_T38 l0 a1).f1) t135 _ ?side1 ?side2 A28.out).mono ?_); (case side1 => repeat (first | exact (Kd.C_below HR0.out HB.out) | (with_reducible refine Kd.C_alloc ?_ _) | (with_reducible refine Kd.C_drewN ?_ _) | (with_reducible refine Kd.C_drew ?_))); (case side2 => exact HC0.out); rintro e w30 ⟨v136, rfl, ho0, hb⟩; have n0_ := Aside0.mk (Kd.R_lower ho0 (below_size (by repeat (first | (with_reducible first | exact HB.out | apply below_alloc | apply pw_below_drewN | apply below_drew1 | refine below_set ?_ GE131.out) | exact HB.out)))); have n1_ := Aside0.mk (blk_below (g := gb131) (o := .cells #[.string ((rd_T38 l0 a1).f0), .int .i64 ((rd_T38 l0 a1).f1), .slice A130_2 ((rd_T38 l0 a1).f2).length c130_2] 38 (0, 0)) (by (with_reducible repeat (first | refine blk_drewN ?_ _ | refine blk_drew ?_ | refine blk_alloc ?_ _)); exact BK131.out) hb); have n2_ := Aside0.mk (below_step (by repeat (first | (with_reducible first | exact HB.out | apply below_alloc | apply pw_below_drewN | apply below_drew1 | refine below_set ?_ GE131.out) | exact HB.out)) hb); clear BK131; clear HB; have HO137 := n0_; have BK131 := n1_; have HB := n2_; clear n0_ n1_ n2_; (try clear hb); (try clear hb2); (try clear hk); (try clear hi); (try clear ho0)))
                          repeat (go_quiet (first | (go_at_call 46; (with_reducible refine (provisoref02_Fields.calls kj22 _ _ l0 ((rd_T38 l0 a1).f1) t135 _ ?side1 ?side2 A28.out).mono ?_); (case side1 => repeat (first | exact (Kd.C_below HR0.out HB.out) | (with_reducible refine Kd.C_alloc ?_ _) | (with_reducible refine Kd.C_drewN ?_ _) | (with_reducible refine Kd.C_drew ?_))); (case side2 => exact HC0.out); rintro e w30 ⟨v136, rfl, ho0, hb⟩; have n0_ := Aside0.mk (Kd.R_lower ho0 (below_size (by repeat (first | (with_reducible first | exact HB.out | apply below_alloc | apply pw_below_drewN | apply below_drew1 | refine below_set ?_ GE131.out) | exact HB.out)))); have n1_ := Aside0.mk (blk_below (g := gb131) (o := .cells #[.string ((rd_T38 l0 a1).f0), .int .i64 ((rd_T38 l0 a1).f1), .slice A130_2 ((rd_T38 l0 a1).f2).length c130_2] 38 (0, 0)) (by (with_reducible repeat (first | refine blk_drewN ?_ _ | refine blk_drew ?_ | refine blk_alloc ?_ _)); exact BK131.out) hb); have n2_ := Aside0.mk (below_step (by repeat (first | (with_reducible first | exact HB.out | apply below_alloc | apply pw_below_drewN | apply below_drew1 | refine below_set ?_ GE131.out) | exact HB.out)) hb); clear BK131; clear HB; have HO137 := n0_; have BK131 := n1_; have HB := n2_; clear n0_ n1_ n2_; (try clear hb); (try clear hb2); (try clear hk); (try clear hi); (try clear ho0))); try go_wp2_with (first | (go_at_call 46; (with_reducible refine (provisoref02_Fields.calls kj22 _ _ l0 ((rd_T38 l0 a1).f1) t135 _ ?side1 ?side2 A28.out).mono ?_); (case side1 => repeat (first | exact (Kd.C_below HR0.out HB.out) | (with_reducible refine Kd.C_alloc ?_ _) | (with_reducible refine Kd.C_drewN ?_ _) | (with_reducible refine Kd.C_drew ?_))); (case side2 => exact HC0.out); rintro e w30 ⟨v136, rfl, ho0, hb⟩; have n0_ := Aside0.mk (Kd.R_lower ho0 (below_size (by repeat (first | (with_reducible first | exact HB.out | apply below_alloc | apply pw_below_drewN | apply below_drew1 | refine below_set ?_ GE131.out) | exact HB.out)))); have n1_ := Aside0.mk (blk_below (g := gb131) (o := .cells #[.string ((rd_T38 l0 a1).f0), .int .i64 ((rd_T38 l0 a1).f1), .slice A130_2 ((rd_T38 l0 a1).f2).length c130_2] 38 (0, 0)) (by (with_reducible repeat (first | refine blk_drewN ?_ _ | refine blk_drew ?_ | refine blk_alloc ?_ _)); exact BK131.out) hb); have n2_ := Aside0.mk (below_step (by repeat (first | (with_reducible first | exact HB.out | apply below_alloc | apply pw_below_drewN | apply below_drew1 | refine below_set ?_ GE131.out) | exact HB.out)) hb); clear BK131; clear HB; have HO137 := n0_; have BK131 := n1_; have HB := n2_; clear n0_ n1_ n2_; (try clear hb); (try clear hb2); (try clear hk); (try clear hi); (try clear ho0))))
                          go_loopg [8] kj22 (fun kq v8 w' => ∃ (x8_4 : Int), v8 = .int .i64 x8_4 ∧ Aside0 (provisoref02_fault.l1 kq l0 t135 x8_4 ((rd_T38 l0 a1).f0) ((rd_T38 l0 a1).f1) ((rd_T38 l0 a1).f2) = some r) ∧ Aside0 (kq ≤ kj22) ∧ Aside0 (Kd.R k41 41 w' w.heap.size (fun _ => True) v136 t135) ∧ Aside0 (w'.heap[gb131]? = some (.cells #[.string ((rd_T38 l0 a1).f0), .int .i64 ((rd_T38 l0 a1).f1), (.slice A130_2 ((rd_T38 l0 a1).f2).length c130_2)] 38 (0, 0))) ∧ Aside0 (Below w.heap.size w w'))
                          case atStart => exact ⟨(0), (by first | rfl | (simp; done) | (simp [*]; done)), H', ⟨Nat.le_refl _⟩, ⟨by (with_reducible repeat (first | apply Kd.R_alloc | apply Kd.R_drewN | apply Kd.R_drew)); exact HO137.out⟩, ⟨by (with_reducible repeat (first | refine blk_drewN ?_ _ | refine blk_drew ?_ | refine blk_alloc ?_ _)); exact BK131.out⟩, ⟨by repeat (first | (with_reducible first | exact HB.out | apply below_alloc | apply pw_below_drewN | apply below_drew1 | refine below_set ?_ GE131.out) | exact HB.out)⟩⟩
                          case round =>
                            clear H'
                            try clear c1
                            try clear p1
                            try clear q1
                            try clear hx1
                            try clear c2
                            try clear p2
                            try clear c3
                            try clear c3b0
                            try clear c4
                            try clear c4b0
                            try clear c5
                            try clear c5b0
                            try clear p6
                            try clear c12
                            try clear c13
                            try clear p13
                            try clear q13
                            try clear hx13
                            try clear c16
                            try clear c17
                            try clear c17b0
                            try clear c18
                            try clear c18b0
                            try clear c19
                            try clear c19b0
                            try clear c20
                            try clear c20b0
                            try clear c20b1
                            try clear c24
                            try clear c24b0
                            try clear c27
                            try clear hcz10_0
                            try clear hcz10_1
                            try clear hcz10_2
                            try clear hcz14_0
                            try clear hcz14_1
                            try clear hcz14_2
                            try clear hcz15_0
                            try clear hcz15_1
                            try clear hcz15_2
                            try clear hcz21_0
                            try clear hcz21_1
                            try clear hcz21_2
                            try clear hcz22_0
                            try clear hcz22_1
                            try clear hcz22_2
                            try clear hcz25_0
                            try clear hcz25_1
                            try clear hcz25_2
                            try clear hcz26_0
                            try clear hcz26_1
                            try clear hcz26_2
                            try clear hcz29_0
                            try clear hcz29_1
                            try clear hcz29_2
                            try clear hcz7_0
                            try clear hcz7_1
                            try clear hcz7_2
                            try clear hfz10_0
                            try clear hfz10_1
                            try clear hfz10_2
                            try clear hfz14_0
                            try clear hfz14_1
                            try clear hfz14_2
                            try clear hfz15_0
                            try clear hfz15_1
                            try clear hfz15_2
                            try clear hfz21_0
                            try clear hfz21_1
                            try clear hfz21_2
                            try clear hfz22_0
                            try clear hfz22_1
                            try clear hfz22_2
                            try clear hfz25_0
                            try clear hfz25_1
                            try clear hfz25_2
                            try clear hfz26_0
                            try clear hfz26_1
                            try clear hfz26_2
                            try clear hfz29_0
                            try clear hfz29_1
                            try clear hfz29_2
                            try clear hfz7_0
                            try clear hfz7_1
                            try clear hfz7_2
                            try clear hx130_0
                            try clear hx130_1
                            try clear hx130_2
                            try clear hx134_0
                            try clear hx134_1
                            try clear hx134_2
                            try clear p1
                            try clear p13
                            try clear p130
                            try clear p134
                            try clear p2
                            try clear p6
                            try clear q1
                            try clear q13
                            try clear q130
                            try clear q134
                            obtain ⟨x8_4, rfl, HA, HK4, HO_7, BK131, HB⟩ := hrel
                            cases gk with
                            | zero => exact absurd HA.out (by simp [provisoref02_fault.l1])
                            | succ k4 =>
                              have H := HA.out
                              clear HA
                              simp only [provisoref02_fault.l1] at H
                              by_cases c31 : x8_4 < (((rd_T38 l0 a1).f2).length : Int)
                              · rw [if_pos c31] at H
                                have c31b0 : decide (x8_4 < (((rd_T38 l0 a1).f2).length : Int)) = true := decide_eq_true c31
                                clear c31
                                by_cases c32 : 0 ≤ x8_4
                                · rw [if_pos c32] at H
                                  have c32b0 : decide (0 ≤ x8_4) = true := decide_eq_true c32
                                  clear c32
                                  replace H := Option.bind_eq_some_iff.mp H
                                  obtain ⟨t140, A330, H⟩ := H
                                  replace H : (if t140 = true then ((provisoref02_has.f k4 t135 ((rd_T41 ((rd_T38 l0 a1).f2) x8_4).f0)).bind fun t141 => (if t141 = true then (some 20) else (if x8_4 ≤ (((rd_T38 l0 a1).f2).length : Int) then ((provisoref02_has.f k4 (((rd_T38 l0 a1).f2).take (x8_4 : Int).toNat) ((rd_T41 ((rd_T38 l0 a1).f2) x8_4).f0)).bind fun t146 => (if t146 = true then (some 20) else ((provisoref02_Stored.f l0 ((rd_T41 ((rd_T38 l0 a1).f2) x8_4).f1)).bind fun t147 => (if t147 = true then (provisoref02_fault.l1 k4 l0 t135 (wrap64 (x8_4 + 1)) ((rd_T38 l0 a1).f0) ((rd_T38 l0 a1).f1) ((rd_T38 l0 a1).f2)) else (some 22))))) else (none)))) else (some 6)) = some r := H
                                  have A33 := Aside0.mk A330
                                  clear A330
                                  by_cases c34 : t140 = true
                                  · subst c34
                                    have H1 : ((provisoref02_has.f k4 t135 ((rd_T41 ((rd_T38 l0 a1).f2) x8_4).f0)).bind fun t141 => (if t141 = true then (some 20) else (if x8_4 ≤ (((rd_T38 l0 a1).f2).length : Int) then ((provisoref02_has.f k4 (((rd_T38 l0 a1).f2).take (x8_4 : Int).toNat) ((rd_T41 ((rd_T38 l0 a1).f2) x8_4).f0)).bind fun t146 => (if t146 = true then (some 20) else ((provisoref02_Stored.f l0 ((rd_T41 ((rd_T38 l0 a1).f2) x8_4).f1)).bind fun t147 => (if t147 = true then (provisoref02_fault.l1 k4 l0 t135 (wrap64 (x8_4 + 1)) ((rd_T38 l0 a1).f0) ((rd_T38 l0 a1).f1) ((rd_T38 l0 a1).f2)) else (some 22))))) else (none)))) = some r := by rw [if_pos rfl] at H; exact H
                                    clear H
                                    have H := H1
                                    clear H1
                                    replace H := Option.bind_eq_some_iff.mp H
                                    obtain ⟨t141, A350, H⟩ := H
                                    replace H : (if t141 = true then (some 20) else (if x8_4 ≤ (((rd_T38 l0 a1).f2).length : Int) then ((provisoref02_has.f k4 (((rd_T38 l0 a1).f2).take (x8_4 : Int).toNat) ((rd_T41 ((rd_T38 l0 a1).f2) x8_4).f0)).bind fun t146 => (if t146 = true then (some 20) else ((provisoref02_Stored.f l0 ((rd_T41 ((rd_T38 l0 a1).f2) x8_4).f1)).bind fun t147 => (if t147 = true then (provisoref02_fault.l1 k4 l0 t135 (wrap64 (x8_4 + 1)) ((rd_T38 l0 a1).f0) ((rd_T38 l0 a1).f1) ((rd_T38 l0 a1).f2)) else (some 22))))) else (none))) = some r := H
                                    have A35 := Aside0.mk A350
                                    clear A350
                                    by_cases c36 : t141 = true
                                    · subst c36
                                      have H1 : (some 20) = some r := by rw [if_pos rfl] at H; exact H
                                      clear H
                                      have H := H1
                                      clear H1
                                      obtain rfl := Option.some.inj H
                                      have hcz37_0 : wr.cell? ⟨gb131, 0, none⟩ = some (.string ((rd_T38 l0 a1).f0)) := (blk_cell BK131.out 0).trans rfl
                                      have hcz37_1 : wr.cell? ⟨gb131, 1, none⟩ = some (.int .i64 ((rd_T38 l0 a1).f1)) := (blk_cell BK131.out 1).trans rfl
                                      have hcz37_2 : wr.cell? ⟨gb131, 2, none⟩ = some (.slice A130_2 ((rd_T38 l0 a1).f2).length c130_2) := (blk_cell BK131.out 2).trans rfl
                                      have hfz37_0 := blk_frozen BK131.out 0
                                      have hfz37_1 := blk_frozen BK131.out 1
                                      have hfz37_2 := blk_frozen BK131.out 2
                                      have p138 : 0 ≤ (x8_4 : Int) := of_decide_eq_true (by first | (with_reducible assumption) | assumption)
                                      have q138 : x8_4 < (((rd_T38 l0 a1).f2).length : Int) := of_decide_eq_true (by first | (with_reducible assumption) | assumption)
                                      obtain ⟨ad138, e138, hx138_0, hx138_1⟩ := at_T41 HR130_2.out x8_4 p138 q138
                                      cases e138
                                      replace hx138_0 := (HB.out.cell (World.block_lt_of_cell? w _ hx138_0)).trans hx138_0
                                      replace hx138_1 := (HB.out.cell (World.block_lt_of_cell? w _ hx138_1)).trans hx138_1
                                      replace p138 := eq_true p138
                                      replace q138 := eq_true q138
                                      go_wp2_with (first | ((with_reducible refine gate_dst (N := 9) rfl ?_); refine box_event ?hg (N := 9) ?hd (cs := #[.string (⟨#[]⟩ : ByteArray), .int .u8 0]) (t := 41) ?hr ?_; (case hd => rfl); (case hg => rfl); (case hr => first | (go_simp; done) | (go_simp; rfl)); intro gb139 hg w38 hbox hb; have n0_ := Aside0.mk (Kd.R_below (Kd.R_elderB (by (with_reducible repeat (first | apply Kd.R_alloc | apply Kd.R_drewN | apply Kd.R_drew)); exact HO_7.out) gb139 (Nat.le_of_eq hg.symm)) hb); have n1_ := Aside0.mk (blk_below (g := gb131) (o := .cells #[.string ((rd_T38 l0 a1).f0), .int .i64 ((rd_T38 l0 a1).f1), .slice (some ad138) ((rd_T38 l0 a1).f2).length c130_2] 38 (0, 0)) (by (with_reducible repeat (first | refine blk_drewN ?_ _ | refine blk_drew ?_ | refine blk_alloc ?_ _)); exact BK131.out) hb); have n2_ := Aside0.mk (below_step (by repeat (first | (with_reducible first | exact HB.out | apply below_alloc | apply pw_below_drewN | apply below_drew1 | refine below_set ?_ GE131.out) | exact HB.out)) hb); have n3_ := Aside0.mk (hbox); have n4_ := Aside0.mk ((by rw [hg]; exact (below_size (by repeat (first | (with_reducible first | exact HB.out | apply below_alloc | apply pw_below_drewN | apply below_drew1 | refine below_set ?_ GE131.out) | exact HB.out))) : w.heap.size ≤ gb139)); have n5_ := Aside0.mk ((by rw [hg]; exact (below_size (by repeat (first | (with_reducible first | exact HB.out | apply below_alloc | apply pw_below_drewN | apply below_drew1 | refine below_set ?_ GE131.out) | exact HB.out))) : w.heap.size ≤ gb139)); have n6_ := Aside0.mk ((by rw [hg]; exact Nat.ne_of_lt (blk_lt (g := gb131) (o := .cells #[.string ((rd_T38 l0 a1).f0), .int .i64 ((rd_T38 l0 a1).f1), .slice (some ad138) ((rd_T38 l0 a1).f2).length c130_2] 38 (0, 0)) (by (with_reducible repeat (first | refine blk_drewN ?_ _ | refine blk_drew ?_ | refine blk_alloc ?_ _)); exact BK131.out)) : gb131 ≠ gb139)); have n7_ := Aside0.mk ((by rw [hg]; exact Nat.ne_of_gt (blk_lt (g := gb131) (o := .cells #[.string ((rd_T38 l0 a1).f0), .int .i64 ((rd_T38 l0 a1).f1), .slice (some ad138) ((rd_T38 l0 a1).f2).length c130_2] 38 (0, 0)) (by (with_reducible repeat (first | refine blk_drewN ?_ _ | refine blk_drew ?_ | refine blk_alloc ?_ _)); exact BK131.out)) : gb139 ≠ gb131)); clear HO_7; clear BK131; clear HB; have HO_7 := n0_; have BK131 := n1_; have HB := n2_; have BK139 := n3_; have GW139 := n4_; have GE139 := n5_; have NB131_139 := n6_; have NB139_131 := n7_; clear n0_ n1_ n2_ n3_ n4_ n5_ n6_ n7_; clear hb hbox hg; have hnb39 := NB139_131.out; have hnc39 := NB131_139.out; have hcz40_0 : w38.cell? ⟨gb139, 0, none⟩ = some (.string (⟨#[]⟩ : ByteArray)) := (blk_cell BK139.out 0).trans rfl; have hcz40_1 : w38.cell? ⟨gb139, 1, none⟩ = some (.int .u8 0) := (blk_cell BK139.out 1).trans rfl; have hfz40_0 := blk_frozen BK139.out 0; have hfz40_1 := blk_frozen BK139.out 1) | (go_at_call 61; (with_reducible refine (provisoref02_IsName.calls k4 ((rd_T41 ((rd_T38 l0 a1).f2) x8_4).f0) true _ A33.out).mono ?_); rintro e w' ⟨rfl, ⟨nd, rfl⟩⟩; (try first | exact ⟨rfl, _, World.drewN_drewN _ _ _⟩ | exact ⟨rfl, _, Eq.trans (World.drewN_drewN _ _ _) (congrArg (World.drewN _) (Nat.add_assoc _ _ _))⟩); obtain ⟨Ao41, co41, eo41⟩ := Kd.R_slice HO_7.out; subst eo41) | (go_at_call 63; (with_reducible refine (provisoref02_has.calls k4 _ _ t135 ((rd_T41 ((rd_T38 l0 a1).f2) x8_4).f0) true _ ?side1 ?side2 A35.out).mono ?_); (case side1 => refine (Kd.R_reads' (e := 41) (base := w.heap.size) (ok := fun k_ => (True ∧ k_ ≠ gb139)) (n := t135.length) (c := co41) ?_).2.2; exact (by (with_reducible repeat (first | apply Kd.R_alloc | apply Kd.R_drewN | apply Kd.R_drew)); exact (Kd.R_mono (Kd.R_far (p := ⟨gb139, 1, none⟩) (Kd.R_far (p := ⟨gb139, 0, none⟩) (Kd.R_mono HO_7.out (fun k_ hk => (⟨hk, hk.2⟩ : _ ∧ k_ ≠ gb139))) (fun _ hk => hk.2) (.string ((rd_T41 ((rd_T38 l0 a1).f2) x8_4).f0))) (fun _ hk => hk.2) (.int .u8 ((rd_T41 ((rd_T38 l0 a1).f2) x8_4).f1))) (fun _ h_ => h_.1)))); (case side2 => exact (Kd.R_reads' HO_7.out).2.1); rintro e w' ⟨rfl, ⟨nd, rfl⟩⟩; (try first | exact ⟨rfl, _, World.drewN_drewN _ _ _⟩ | exact ⟨rfl, _, Eq.trans (World.drewN_drewN _ _ _) (congrArg (World.drewN _) (Nat.add_assoc _ _ _))⟩)))
                                      repeat (go_quiet (first | ((with_reducible refine gate_dst (N := 9) rfl ?_); refine box_event ?hg (N := 9) ?hd (cs := #[.string (⟨#[]⟩ : ByteArray), .int .u8 0]) (t := 41) ?hr ?_; (case hd => rfl); (case hg => rfl); (case hr => first | (go_simp; done) | (go_simp; rfl)); intro gb139 hg w38 hbox hb; have n0_ := Aside0.mk (Kd.R_below (Kd.R_elderB (by (with_reducible repeat (first | apply Kd.R_alloc | apply Kd.R_drewN | apply Kd.R_drew)); exact HO_7.out) gb139 (Nat.le_of_eq hg.symm)) hb); have n1_ := Aside0.mk (blk_below (g := gb131) (o := .cells #[.string ((rd_T38 l0 a1).f0), .int .i64 ((rd_T38 l0 a1).f1), .slice (some ad138) ((rd_T38 l0 a1).f2).length c130_2] 38 (0, 0)) (by (with_reducible repeat (first | refine blk_drewN ?_ _ | refine blk_drew ?_ | refine blk_alloc ?_ _)); exact BK131.out) hb); have n2_ := Aside0.mk (below_step (by repeat (first | (with_reducible first | exact HB.out | apply below_alloc | apply pw_below_drewN | apply below_drew1 | refine below_set ?_ GE131.out) | exact HB.out)) hb); have n3_ := Aside0.mk (hbox); have n4_ := Aside0.mk ((by rw [hg]; exact (below_size (by repeat (first | (with_reducible first | exact HB.out | apply below_alloc | apply pw_below_drewN | apply below_drew1 | refine below_set ?_ GE131.out) | exact HB.out))) : w.heap.size ≤ gb139)); have n5_ := Aside0.mk ((by rw [hg]; exact (below_size (by repeat (first | (with_reducible first | exact HB.out | apply below_alloc | apply pw_below_drewN | apply below_drew1 | refine below_set ?_ GE131.out) | exact HB.out))) : w.heap.size ≤ gb139)); have n6_ := Aside0.mk ((by rw [hg]; exact Nat.ne_of_lt (blk_lt (g := gb131) (o := .cells #[.string ((rd_T38 l0 a1).f0), .int .i64 ((rd_T38 l0 a1).f1), .slice (some ad138) ((rd_T38 l0 a1).f2).length c130_2] 38 (0, 0)) (by (with_reducible repeat (first | refine blk_drewN ?_ _ | refine blk_drew ?_ | refine blk_alloc ?_ _)); exact BK131.out)) : gb131 ≠ gb139)); have n7_ := Aside0.mk ((by rw [hg]; exact Nat.ne_of_gt (blk_lt (g := gb131) (o := .cells #[.string ((rd_T38 l0 a1).f0), .int .i64 ((rd_T38 l0 a1).f1), .slice (some ad138) ((rd_T38 l0 a1).f2).length c130_2] 38 (0, 0)) (by (with_reducible repeat (first | refine blk_drewN ?_ _ | refine blk_drew ?_ | refine blk_alloc ?_ _)); exact BK131.out)) : gb139 ≠ gb131)); clear HO_7; clear BK131; clear HB; have HO_7 := n0_; have BK131 := n1_; have HB := n2_; have BK139 := n3_; have GW139 := n4_; have GE139 := n5_; have NB131_139 := n6_; have NB139_131 := n7_; clear n0_ n1_ n2_ n3_ n4_ n5_ n6_ n7_; clear hb hbox hg; have hnb39 := NB139_131.out; have hnc39 := NB131_139.out; have hcz40_0 : w38.cell? ⟨gb139, 0, none⟩ = some (.string (⟨#[]⟩ : ByteArray)) := (blk_cell BK139.out 0).trans rfl; have hcz40_1 : w38.cell? ⟨gb139, 1, none⟩ = some (.int .u8 0) := (blk_cell BK139.out 1).trans rfl; have hfz40_0 := blk_frozen BK139.out 0; have hfz40_1 := blk_frozen BK139.out 1) | (go_at_call 61; (with_reducible refine (provisoref02_IsName.calls k4 ((rd_T41 ((rd_T38 l0 a1).f2) x8_4).f0) true _ A33.out).mono ?_); rintro e w' ⟨rfl, ⟨nd, rfl⟩⟩; (try first | exact ⟨rfl, _, World.drewN_drewN _ _ _⟩ | exact ⟨rfl, _, Eq.trans (World.drewN_drewN _ _ _) (congrArg (World.drewN _) (Nat.add_assoc _ _ _))⟩); obtain ⟨Ao41, co41, eo41⟩ := Kd.R_slice HO_7.out; subst eo41) | (go_at_call 63; (with_reducible refine (provisoref02_has.calls k4 _ _ t135 ((rd_T41 ((rd_T38 l0 a1).f2) x8_4).f0) true _ ?side1 ?side2 A35.out).mono ?_); (case side1 => refine (Kd.R_reads' (e := 41) (base := w.heap.size) (ok := fun k_ => (True ∧ k_ ≠ gb139)) (n := t135.length) (c := co41) ?_).2.2; exact (by (with_reducible repeat (first | apply Kd.R_alloc | apply Kd.R_drewN | apply Kd.R_drew)); exact (Kd.R_mono (Kd.R_far (p := ⟨gb139, 1, none⟩) (Kd.R_far (p := ⟨gb139, 0, none⟩) (Kd.R_mono HO_7.out (fun k_ hk => (⟨hk, hk.2⟩ : _ ∧ k_ ≠ gb139))) (fun _ hk => hk.2) (.string ((rd_T41 ((rd_T38 l0 a1).f2) x8_4).f0))) (fun _ hk => hk.2) (.int .u8 ((rd_T41 ((rd_T38 l0 a1).f2) x8_4).f1))) (fun _ h_ => h_.1)))); (case side2 => exact (Kd.R_reads' HO_7.out).2.1); rintro e w' ⟨rfl, ⟨nd, rfl⟩⟩; (try first | exact ⟨rfl, _, World.drewN_drewN _ _ _⟩ | exact ⟨rfl, _, Eq.trans (World.drewN_drewN _ _ _) (congrArg (World.drewN _) (Nat.add_assoc _ _ _))⟩))); try go_wp2_with (first | ((with_reducible refine gate_dst (N := 9) rfl ?_); refine box_event ?hg (N := 9) ?hd (cs := #[.string (⟨#[]⟩ : ByteArray), .int .u8 0]) (t := 41) ?hr ?_; (case hd => rfl); (case hg => rfl); (case hr => first | (go_simp; done) | (go_simp; rfl)); intro gb139 hg w38 hbox hb; have n0_ := Aside0.mk (Kd.R_below (Kd.R_elderB (by (with_reducible repeat (first | apply Kd.R_alloc | apply Kd.R_drewN | apply Kd.R_drew)); exact HO_7.out) gb139 (Nat.le_of_eq hg.symm)) hb); have n1_ := Aside0.mk (blk_below (g := gb131) (o := .cells #[.string ((rd_T38 l0 a1).f0), .int .i64 ((rd_T38 l0 a1).f1), .slice (some ad138) ((rd_T38 l0 a1).f2).length c130_2] 38 (0, 0)) (by (with_reducible repeat (first | refine blk_drewN ?_ _ | refine blk_drew ?_ | refine blk_alloc ?_ _)); exact BK131.out) hb); have n2_ := Aside0.mk (below_step (by repeat (first | (with_reducible first | exact HB.out | apply below_alloc | apply pw_below_drewN | apply below_drew1 | refine below_set ?_ GE131.out) | exact HB.out)) hb); have n3_ := Aside0.mk (hbox); have n4_ := Aside0.mk ((by rw [hg]; exact (below_size (by repeat (first | (with_reducible first | exact HB.out | apply below_alloc | apply pw_below_drewN | apply below_drew1 | refine below_set ?_ GE131.out) | exact HB.out))) : w.heap.size ≤ gb139)); have n5_ := Aside0.mk ((by rw [hg]; exact (below_size (by repeat (first | (with_reducible first | exact HB.out | apply below_alloc | apply pw_below_drewN | apply below_drew1 | refine below_set ?_ GE131.out) | exact HB.out))) : w.heap.size ≤ gb139)); have n6_ := Aside0.mk ((by rw [hg]; exact Nat.ne_of_lt (blk_lt (g := gb131) (o := .cells #[.string ((rd_T38 l0 a1).f0), .int .i64 ((rd_T38 l0 a1).f1), .slice (some ad138) ((rd_T38 l0 a1).f2).length c130_2] 38 (0, 0)) (by (with_reducible repeat (first | refine blk_drewN ?_ _ | refine blk_drew ?_ | refine blk_alloc ?_ _)); exact BK131.out)) : gb131 ≠ gb139)); have n7_ := Aside0.mk ((by rw [hg]; exact Nat.ne_of_gt (blk_lt (g := gb131) (o := .cells #[.string ((rd_T38 l0 a1).f0), .int .i64 ((rd_T38 l0 a1).f1), .slice (some ad138) ((rd_T38 l0 a1).f2).length c130_2] 38 (0, 0)) (by (with_reducible repeat (first | refine blk_drewN ?_ _ | refine blk_drew ?_ | refine blk_alloc ?_ _)); exact BK131.out)) : gb139 ≠ gb131)); clear HO_7; clear BK131; clear HB; have HO_7 := n0_; have BK131 := n1_; have HB := n2_; have BK139 := n3_; have GW139 := n4_; have GE139 := n5_; have NB131_139 := n6_; have NB139_131 := n7_; clear n0_ n1_ n2_ n3_ n4_ n5_ n6_ n7_; clear hb hbox hg; have hnb39 := NB139_131.out; have hnc39 := NB131_139.out; have hcz40_0 : w38.cell? ⟨gb139, 0, none⟩ = some (.string (⟨#[]⟩ : ByteArray)) := (blk_cell BK139.out 0).trans rfl; have hcz40_1 : w38.cell? ⟨gb139, 1, none⟩ = some (.int .u8 0) := (blk_cell BK139.out 1).trans rfl; have hfz40_0 := blk_frozen BK139.out 0; have hfz40_1 := blk_frozen BK139.out 1) | (go_at_call 61; (with_reducible refine (provisoref02_IsName.calls k4 ((rd_T41 ((rd_T38 l0 a1).f2) x8_4).f0) true _ A33.out).mono ?_); rintro e w' ⟨rfl, ⟨nd, rfl⟩⟩; (try first | exact ⟨rfl, _, World.drewN_drewN _ _ _⟩ | exact ⟨rfl, _, Eq.trans (World.drewN_drewN _ _ _) (congrArg (World.drewN _) (Nat.add_assoc _ _ _))⟩); obtain ⟨Ao41, co41, eo41⟩ := Kd.R_slice HO_7.out; subst eo41) | (go_at_call 63; (with_reducible refine (provisoref02_has.calls k4 _ _ t135 ((rd_T41 ((rd_T38 l0 a1).f2) x8_4).f0) true _ ?side1 ?side2 A35.out).mono ?_); (case side1 => refine (Kd.R_reads' (e := 41) (base := w.heap.size) (ok := fun k_ => (True ∧ k_ ≠ gb139)) (n := t135.length) (c := co41) ?_).2.2; exact (by (with_reducible repeat (first | apply Kd.R_alloc | apply Kd.R_drewN | apply Kd.R_drew)); exact (Kd.R_mono (Kd.R_far (p := ⟨gb139, 1, none⟩) (Kd.R_far (p := ⟨gb139, 0, none⟩) (Kd.R_mono HO_7.out (fun k_ hk => (⟨hk, hk.2⟩ : _ ∧ k_ ≠ gb139))) (fun _ hk => hk.2) (.string ((rd_T41 ((rd_T38 l0 a1).f2) x8_4).f0))) (fun _ hk => hk.2) (.int .u8 ((rd_T41 ((rd_T38 l0 a1).f2) x8_4).f1))) (fun _ h_ => h_.1)))); (case side2 => exact (Kd.R_reads' HO_7.out).2.1); rintro e w' ⟨rfl, ⟨nd, rfl⟩⟩; (try first | exact ⟨rfl, _, World.drewN_drewN _ _ _⟩ | exact ⟨rfl, _, Eq.trans (World.drewN_drewN _ _ _) (congrArg (World.drewN _) (Nat.add_assoc _ _ _))⟩))))
                                      go_ret
                                      exact ⟨by first | rfl | (simp [errW_none, errW_some] <;> rfl) | (simp [*, errW_none, errW_some] <;> rfl), by repeat (first | (with_reducible first | exact HB.out | apply below_alloc | apply pw_below_drewN | apply below_drew1 | refine below_set ?_ GE131.out | refine below_set ?_ GE139.out) | exact HB.out)⟩
                                    · replace c36 := Bool.eq_false_iff.mpr c36
                                      subst c36
                                      have H1 : (if x8_4 ≤ (((rd_T38 l0 a1).f2).length : Int) then ((provisoref02_has.f k4 (((rd_T38 l0 a1).f2).take (x8_4 : Int).toNat) ((rd_T41 ((rd_T38 l0 a1).f2) x8_4).f0)).bind fun t146 => (if t146 = true then (some 20) else ((provisoref02_Stored.f l0 ((rd_T41 ((rd_T38 l0 a1).f2) x8_4).f1)).bind fun t147 => (if t147 = true then (provisoref02_fault.l1 k4 l0 t135 (wrap64 (x8_4 + 1)) ((rd_T38 l0 a1).f0) ((rd_T38 l0 a1).f1) ((rd_T38 l0 a1).f2)) else (some 22))))) else (none)) = some r := by rw [if_neg (show ¬ (false = true) by decide)] at H; exact H
                                      clear H
                                      have H := H1
                                      clear H1
                                      have c42b0 := eq_true (of_decide_eq_true (by first | (with_reducible assumption) | assumption) : 0 ≤ x8_4)
                                      by_cases c43 : x8_4 ≤ (((rd_T38 l0 a1).f2).length : Int)
                                      · rw [if_pos c43] at H
                                        have c43b0 := eq_true c43
                                        have c43b1 : decide (x8_4 ≤ (((rd_T38 l0 a1).f2).length : Int)) = true := decide_eq_true c43
                                        clear c43
                                        obtain ⟨y142, hy142⟩ : ∃ y_ : List (S41), y_ = (((rd_T38 l0 a1).f2).take (x8_4 : Int).toNat) := ⟨_, rfl⟩
                                        replace H : ((provisoref02_has.f k4 y142 ((rd_T41 ((rd_T38 l0 a1).f2) x8_4).f0)).bind fun t146 => (if t146 = true then (some 20) else ((provisoref02_Stored.f l0 ((rd_T41 ((rd_T38 l0 a1).f2) x8_4).f1)).bind fun t147 => (if t147 = true then (provisoref02_fault.l1 k4 l0 t135 (wrap64 (x8_4 + 1)) ((rd_T38 l0 a1).f0) ((rd_T38 l0 a1).f1) ((rd_T38 l0 a1).f2)) else (some 22))))) = some r := by first | (rw [hy142]; with_reducible exact H) | (have H2_ := (Option.bind_some _ _).symm.trans H; rw [hy142]; with_reducible exact H2_) | (have H2_ := (Option.bind_some _ _).symm.trans H; with_reducible exact H2_) | with_reducible exact H | (rw [hy142]; exact H) | exact H
                                        have Ny142 := Aside0.mk hy142
                                        clear hy142
                                        replace H := Option.bind_eq_some_iff.mp H
                                        obtain ⟨t146, A440, H⟩ := H
                                        replace H : (if t146 = true then (some 20) else ((provisoref02_Stored.f l0 ((rd_T41 ((rd_T38 l0 a1).f2) x8_4).f1)).bind fun t147 => (if t147 = true then (provisoref02_fault.l1 k4 l0 t135 (wrap64 (x8_4 + 1)) ((rd_T38 l0 a1).f0) ((rd_T38 l0 a1).f1) ((rd_T38 l0 a1).f2)) else (some 22)))) = some r := H
                                        have A44 := Aside0.mk A440
                                        clear A440
                                        by_cases c45 : t146 = true
                                        · subst c45
                                          have H1 : (some 20) = some r := by rw [if_pos rfl] at H; exact H
                                          clear H
                                          have H := H1
                                          clear H1
                                          obtain rfl := Option.some.inj H
                                          have hcz46_0 : wr.cell? ⟨gb131, 0, none⟩ = some (.string ((rd_T38 l0 a1).f0)) := (blk_cell BK131.out 0).trans rfl
                                          have hcz46_1 : wr.cell? ⟨gb131, 1, none⟩ = some (.int .i64 ((rd_T38 l0 a1).f1)) := (blk_cell BK131.out 1).trans rfl
                                          have hcz46_2 : wr.cell? ⟨gb131, 2, none⟩ = some (.slice A130_2 ((rd_T38 l0 a1).f2).length c130_2) := (blk_cell BK131.out 2).trans rfl
                                          have hfz46_0 := blk_frozen BK131.out 0
                                          have hfz46_1 := blk_frozen BK131.out 1
                                          have hfz46_2 := blk_frozen BK131.out 2
                                          have p138 : 0 ≤ (x8_4 : Int) := of_decide_eq_true (by first | (with_reducible assumption) | assumption)
                                          have q138 : x8_4 < (((rd_T38 l0 a1).f2).length : Int) := of_decide_eq_true (by first | (with_reducible assumption) | assumption)
                                          obtain ⟨ad138, e138, hx138_0, hx138_1⟩ := at_T41 HR130_2.out x8_4 p138 q138
                                          cases e138
                                          replace hx138_0 := (HB.out.cell (World.block_lt_of_cell? w _ hx138_0)).trans hx138_0
                                          replace hx138_1 := (HB.out.cell (World.block_lt_of_cell? w _ hx138_1)).trans hx138_1
                                          replace p138 := eq_true p138
                                          replace q138 := eq_true q138
                                          go_wp2_with (first | ((with_reducible refine gate_dst (N := 9) rfl ?_); refine box_event ?hg (N := 9) ?hd (cs := #[.string (⟨#[]⟩ : ByteArray), .int .u8 0]) (t := 41) ?hr ?_; (case hd => rfl); (case hg => rfl); (case hr => first | (go_simp; done) | (go_simp; rfl)); intro gb139 hg w47 hbox hb; have n0_ := Aside0.mk (Kd.R_below (Kd.R_elderB (by (with_reducible repeat (first | apply Kd.R_alloc | apply Kd.R_drewN | apply Kd.R_drew)); exact HO_7.out) gb139 (Nat.le_of_eq hg.symm)) hb); have n1_ := Aside0.mk (blk_below (g := gb131) (o := .cells #[.string ((rd_T38 l0 a1).f0), .int .i64 ((rd_T38 l0 a1).f1), .slice (some ad138) ((rd_T38 l0 a1).f2).length c130_2] 38 (0, 0)) (by (with_reducible repeat (first | refine blk_drewN ?_ _ | refine blk_drew ?_ | refine blk_alloc ?_ _)); exact BK131.out) hb); have n2_ := Aside0.mk (below_step (by repeat (first | (with_reducible first | exact HB.out | apply below_alloc | apply pw_below_drewN | apply below_drew1 | refine below_set ?_ GE131.out) | exact HB.out)) hb); have n3_ := Aside0.mk (hbox); have n4_ := Aside0.mk ((by rw [hg]; exact (below_size (by repeat (first | (with_reducible first | exact HB.out | apply below_alloc | apply pw_below_drewN | apply below_drew1 | refine below_set ?_ GE131.out) | exact HB.out))) : w.heap.size ≤ gb139)); have n5_ := Aside0.mk ((by rw [hg]; exact (below_size (by repeat (first | (with_reducible first | exact HB.out | apply below_alloc | apply pw_below_drewN | apply below_drew1 | refine below_set ?_ GE131.out) | exact HB.out))) : w.heap.size ≤ gb139)); have n6_ := Aside0.mk ((by rw [hg]; exact Nat.ne_of_lt (blk_lt (g := gb131) (o := .cells #[.string ((rd_T38 l0 a1).f0), .int .i64 ((rd_T38 l0 a1).f1), .slice (some ad138) ((rd_T38 l0 a1).f2).length c130_2] 38 (0, 0)) (by (with_reducible repeat (first | refine blk_drewN ?_ _ | refine blk_drew ?_ | refine blk_alloc ?_ _)); exact BK131.out)) : gb131 ≠ gb139)); have n7_ := Aside0.mk ((by rw [hg]; exact Nat.ne_of_gt (blk_lt (g := gb131) (o := .cells #[.string ((rd_T38 l0 a1).f0), .int .i64 ((rd_T38 l0 a1).f1), .slice (some ad138) ((rd_T38 l0 a1).f2).length c130_2] 38 (0, 0)) (by (with_reducible repeat (first | refine blk_drewN ?_ _ | refine blk_drew ?_ | refine blk_alloc ?_ _)); exact BK131.out)) : gb139 ≠ gb131)); clear HO_7; clear BK131; clear HB; have HO_7 := n0_; have BK131 := n1_; have HB := n2_; have BK139 := n3_; have GW139 := n4_; have GE139 := n5_; have NB131_139 := n6_; have NB139_131 := n7_; clear n0_ n1_ n2_ n3_ n4_ n5_ n6_ n7_; clear hb hbox hg; have hnb48 := NB139_131.out; have hnc48 := NB131_139.out; have hcz49_0 : w47.cell? ⟨gb139, 0, none⟩ = some (.string (⟨#[]⟩ : ByteArray)) := (blk_cell BK139.out 0).trans rfl; have hcz49_1 : w47.cell? ⟨gb139, 1, none⟩ = some (.int .u8 0) := (blk_cell BK139.out 1).trans rfl; have hfz49_0 := blk_frozen BK139.out 0; have hfz49_1 := blk_frozen BK139.out 1) | ((with_reducible refine gate_store (t := 41) (p := 9) rfl ?_); (try (rw [drewN_self w47]; generalize hq_ : World.drewN w47 _ = w47; have n0_ := Aside0.mk (Kd.R_at hq_ HO_7.out); have n1_ := Aside0.mk (blk_at hq_ BK131.out); have n2_ := Aside0.mk (blk_at hq_ BK139.out); have n3_ := Aside0.mk (below_at hq_ HB.out); clear hq_ HO_7 BK131 BK139 HB; have HO_7 := n0_; have BK131 := n1_; have BK139 := n2_; have HB := n3_; clear n0_ n1_ n2_ n3_)); refine store_event (t := 41) (p := 9) (v := ?vo_w50) (w1 := ((w47.setCell ⟨gb139, 0, none⟩ (.string ((rd_T41 ((rd_T38 l0 a1).f2) x8_4).f0))).setCell ⟨gb139, 1, none⟩ (.int .u8 ((rd_T41 ((rd_T38 l0 a1).f2) x8_4).f1)))) ?hg ?ho ?hn ?hr ?_; (case ho => rfl); (case hg => rfl); (case hn => rfl); (case hr => first | (go_simp; done) | (go_simp; rfl)); intro w50 hw; have n0_ : Aside0 (Kd.R k41 41 w50 w.heap.size (fun k_ => k_ ≠ gb139) v136 t135) := ⟨(by rw [hw]; exact (by (with_reducible repeat (first | apply Kd.R_alloc | apply Kd.R_drewN | apply Kd.R_drew)); exact Kd.R_mono (Kd.R_far (p := ⟨gb139, 1, none⟩) (Kd.R_far (p := ⟨gb139, 0, none⟩) (Kd.R_mono HO_7.out (fun k_ hk => (⟨hk, hk.2⟩ : _ ∧ k_ ≠ gb139))) (fun _ hk => hk.2) (.string ((rd_T41 ((rd_T38 l0 a1).f2) x8_4).f0))) (fun _ hk => hk.2) (.int .u8 ((rd_T41 ((rd_T38 l0 a1).f2) x8_4).f1))) (fun _ hk => hk.1.2)))⟩; have n1_ : Aside0 (w50.heap[gb131]? = some (.cells #[.string ((rd_T38 l0 a1).f0), .int .i64 ((rd_T38 l0 a1).f1), .slice (some ad138) ((rd_T38 l0 a1).f2).length c130_2] 38 (0, 0))) := ⟨(by rw [hw]; exact (by (with_reducible repeat (first | refine blk_drewN ?_ _ | refine blk_drew ?_ | refine blk_alloc ?_ _)); refine blk_far ?_ NB131_139.out _; (with_reducible repeat (first | refine blk_drewN ?_ _ | refine blk_drew ?_ | refine blk_alloc ?_ _)); refine blk_far ?_ NB131_139.out _; (with_reducible repeat (first | refine blk_drewN ?_ _ | refine blk_drew ?_ | refine blk_alloc ?_ _)); exact BK131.out))⟩; have n2_ : Aside0 (w50.heap[gb139]? = some (.cells #[.string ((rd_T41 ((rd_T38 l0 a1).f2) x8_4).f0), .int .u8 ((rd_T41 ((rd_T38 l0 a1).f2) x8_4).f1)] 41 (0, 0))) := ⟨(by rw [hw]; exact (by (with_reducible repeat (first | refine blk_drewN ?_ _ | refine blk_drew ?_ | refine blk_alloc ?_ _)); refine blk_put (cs := #[.string ((rd_T41 ((rd_T38 l0 a1).f2) x8_4).f0), .int .u8 0]) ?_ 1 _ rfl; (with_reducible repeat (first | refine blk_drewN ?_ _ | refine blk_drew ?_ | refine blk_alloc ?_ _)); refine blk_put (cs := #[.string (⟨#[]⟩ : ByteArray), .int .u8 0]) ?_ 0 _ rfl; (with_reducible repeat (first | refine blk_drewN ?_ _ | refine blk_drew ?_ | refine blk_alloc ?_ _)); exact BK139.out))⟩; have n3_ : Aside0 (Below w.heap.size w w50) := ⟨(by rw [hw]; exact (by repeat (first | (with_reducible first | exact HB.out | apply below_alloc | apply pw_below_drewN | apply below_drew1 | refine below_set ?_ GE131.out | refine below_set ?_ GE139.out) | exact HB.out)))⟩; clear hw; clear HO_7; clear BK131; clear BK139; clear HB; have HO_7 := n0_; have BK131 := n1_; have BK139 := n2_; have HB := n3_; clear n0_ n1_ n2_ n3_; have hcz51_0 : w50.cell? ⟨gb139, 0, none⟩ = some (.string ((rd_T41 ((rd_T38 l0 a1).f2) x8_4).f0)) := (blk_cell BK139.out 0).trans rfl; have hcz51_1 : w50.cell? ⟨gb139, 1, none⟩ = some (.int .u8 ((rd_T41 ((rd_T38 l0 a1).f2) x8_4).f1)) := (blk_cell BK139.out 1).trans rfl; have hfz51_0 := blk_frozen BK139.out 0; have hfz51_1 := blk_frozen BK139.out 1) | (go_at_call 61; (with_reducible refine (provisoref02_IsName.calls k4 ((rd_T41 ((rd_T38 l0 a1).f2) x8_4).f0) true _ A33.out).mono ?_); rintro e w' ⟨rfl, ⟨nd, rfl⟩⟩; (try first | exact ⟨rfl, _, World.drewN_drewN _ _ _⟩ | exact ⟨rfl, _, Eq.trans (World.drewN_drewN _ _ _) (congrArg (World.drewN _) (Nat.add_assoc _ _ _))⟩); obtain ⟨Ao52, co52, eo52⟩ := Kd.R_slice HO_7.out; subst eo52) | (go_at_call 63; (with_reducible refine (provisoref02_has.calls k4 _ _ t135 ((rd_T41 ((rd_T38 l0 a1).f2) x8_4).f0) false _ ?side1 ?side2 A35.out).mono ?_); (case side1 => repeat (first | exact (Kd.R_reads' HO_7.out).2.2 | (with_reducible refine Kd.C_alloc ?_ _) | (with_reducible refine Kd.C_drewN ?_ _) | (with_reducible refine Kd.C_drew ?_))); (case side2 => exact (Kd.R_reads' HO_7.out).2.1); rintro e w' ⟨rfl, ⟨nd, rfl⟩⟩; (try first | exact ⟨rfl, _, World.drewN_drewN _ _ _⟩ | exact ⟨rfl, _, Eq.trans (World.drewN_drewN _ _ _) (congrArg (World.drewN _) (Nat.add_assoc _ _ _))⟩); have hcz53_0 : w50.cell? ⟨gb131, 0, none⟩ = some (.string ((rd_T38 l0 a1).f0)) := (blk_cell BK131.out 0).trans rfl; have hcz53_1 : w50.cell? ⟨gb131, 1, none⟩ = some (.int .i64 ((rd_T38 l0 a1).f1)) := (blk_cell BK131.out 1).trans rfl; have hcz53_2 : w50.cell? ⟨gb131, 2, none⟩ = some (.slice (some ad138) ((rd_T38 l0 a1).f2).length c130_2) := (blk_cell BK131.out 2).trans rfl; have hfz53_0 := blk_frozen BK131.out 0; have hfz53_1 := blk_frozen BK131.out 1; have hfz53_2 := blk_frozen BK131.out 2; have q54 : (x8_4 : Int) ≤ ((((rd_T38 l0 a1).f2).length : Int) : Int) := of_decide_eq_true (by first | (with_reducible assumption) | assumption); obtain ⟨i054, hi054, _, hsz54, _⟩ := info_parts info41; have hroom54 : ((rd_T38 l0 a1).f2).length ≤ c130_2 := HC130_2.out; have hC54 : Kd.C k41 _ (some ad138) ((rd_T38 l0 a1).f2).length ((rd_T38 l0 a1).f2) := HR130_2.out; have hcut54 := cut_to (P := Tryz.prog) 36 41 .i64 Tryz.underlying36 hi054 (some ad138) ((rd_T38 l0 a1).f2).length c130_2 x8_4 (of_decide_eq_true (by first | (with_reducible assumption) | assumption)) q54 hroom54; have hr54 := Kd.C_take (m := (x8_4 : Int).toNat) hC54 (by omega); have hy54 : y142.length = (x8_4 : Int).toNat := (by rw [Ny142.out, List.length_take]; omega); rw [← Ny142.out] at hr54; rw [← hy54] at hcut54; have HR145 := Aside0.mk hr54; have HC145 := Aside0.mk (show y142.length ≤ c130_2 from by omega); clear hr54 hC54 hroom54 hi054 hsz54; have KY54 := Aside0.mk hy54; clear hy54; replace q54 := eq_true q54) | (go_at_call 63; (with_reducible refine (provisoref02_has.calls k4 _ _ y142 ((rd_T41 ((rd_T38 l0 a1).f2) x8_4).f0) true _ ?side1 ?side2 A44.out).mono ?_); (case side1 => repeat (first | exact (Kd.C_below HR145.out (by repeat (first | (with_reducible first | exact HB.out | apply below_alloc | apply pw_below_drewN | apply below_drew1 | refine below_set ?_ GE131.out | refine below_set ?_ GE139.out) | exact HB.out))) | (with_reducible refine Kd.C_alloc ?_ _) | (with_reducible refine Kd.C_drewN ?_ _) | (with_reducible refine Kd.C_drew ?_))); (case side2 => exact HC145.out); rintro e w' ⟨rfl, ⟨nd, rfl⟩⟩; (try first | exact ⟨rfl, _, World.drewN_drewN _ _ _⟩ | exact ⟨rfl, _, Eq.trans (World.drewN_drewN _ _ _) (congrArg (World.drewN _) (Nat.add_assoc _ _ _))⟩)))
                                          repeat (go_quiet (first | ((with_reducible refine gate_dst (N := 9) rfl ?_); refine box_event ?hg (N := 9) ?hd (cs := #[.string (⟨#[]⟩ : ByteArray), .int .u8 0]) (t := 41) ?hr ?_; (case hd => rfl); (case hg => rfl); (case hr => first | (go_simp; done) | (go_simp; rfl)); intro gb139 hg w47 hbox hb; have n0_ := Aside0.mk (Kd.R_below (Kd.R_elderB (by (with_reducible repeat (first | apply Kd.R_alloc | apply Kd.R_drewN | apply Kd.R_drew)); exact HO_7.out) gb139 (Nat.le_of_eq hg.symm)) hb); have n1_ := Aside0.mk (blk_below (g := gb131) (o := .cells #[.string ((rd_T38 l0 a1).f0), .int .i64 ((rd_T38 l0 a1).f1), .slice (some ad138) ((rd_T38 l0 a1).f2).length c130_2] 38 (0, 0)) (by (with_reducible repeat (first | refine blk_drewN ?_ _ | refine blk_drew ?_ | refine blk_alloc ?_ _)); exact BK131.out) hb); have n2_ := Aside0.mk (below_step (by repeat (first | (with_reducible first | exact HB.out | apply below_alloc | apply pw_below_drewN | apply below_drew1 | refine below_set ?_ GE131.out) | exact HB.out)) hb); have n3_ := Aside0.mk (hbox); have n4_ := Aside0.mk ((by rw [hg]; exact (below_size (by repeat (first | (with_reducible first | exact HB.out | apply below_alloc | apply pw_below_drewN | apply below_drew1 | refine below_set ?_ GE131.out) | exact HB.out))) : w.heap.size ≤ gb139)); have n5_ := Aside0.mk ((by rw [hg]; exact (below_size (by repeat (first | (with_reducible first | exact HB.out | apply below_alloc | apply pw_below_drewN | apply below_drew1 | refine below_set ?_ GE131.out) | exact HB.out))) : w.heap.size ≤ gb139)); have n6_ := Aside0.mk ((by rw [hg]; exact Nat.ne_of_lt (blk_lt (g := gb131) (o := .cells #[.string ((rd_T38 l0 a1).f0), .int .i64 ((rd_T38 l0 a1).f1), .slice (some ad138) ((rd_T38 l0 a1).f2).length c130_2] 38 (0, 0)) (by (with_reducible repeat (first | refine blk_drewN ?_ _ | refine blk_drew ?_ | refine blk_alloc ?_ _)); exact BK131.out)) : gb131 ≠ gb139)); have n7_ := Aside0.mk ((by rw [hg]; exact Nat.ne_of_gt (blk_lt (g := gb131) (o := .cells #[.string ((rd_T38 l0 a1).f0), .int .i64 ((rd_T38 l0 a1).f1), .slice (some ad138) ((rd_T38 l0 a1).f2).length c130_2] 38 (0, 0)) (by (with_reducible repeat (first | refine blk_drewN ?_ _ | refine blk_drew ?_ | refine blk_alloc ?_ _)); exact BK131.out)) : gb139 ≠ gb131)); clear HO_7; clear BK131; clear HB; have HO_7 := n0_; have BK131 := n1_; have HB := n2_; have BK139 := n3_; have GW139 := n4_; have GE139 := n5_; have NB131_139 := n6_; have NB139_131 := n7_; clear n0_ n1_ n2_ n3_ n4_ n5_ n6_ n7_; clear hb hbox hg; have hnb48 := NB139_131.out; have hnc48 := NB131_139.out; have hcz49_0 : w47.cell? ⟨gb139, 0, none⟩ = some (.string (⟨#[]⟩ : ByteArray)) := (blk_cell BK139.out 0).trans rfl; have hcz49_1 : w47.cell? ⟨gb139, 1, none⟩ = some (.int .u8 0) := (blk_cell BK139.out 1).trans rfl; have hfz49_0 := blk_frozen BK139.out 0; have hfz49_1 := blk_frozen BK139.out 1) | ((with_reducible refine gate_store (t := 41) (p := 9) rfl ?_); (try (rw [drewN_self w47]; generalize hq_ : World.drewN w47 _ = w47; have n0_ := Aside0.mk (Kd.R_at hq_ HO_7.out); have n1_ := Aside0.mk (blk_at hq_ BK131.out); have n2_ := Aside0.mk (blk_at hq_ BK139.out); have n3_ := Aside0.mk (below_at hq_ HB.out); clear hq_ HO_7 BK131 BK139 HB; have HO_7 := n0_; have BK131 := n1_; have BK139 := n2_; have HB := n3_; clear n0_ n1_ n2_ n3_)); refine store_event (t := 41) (p := 9) (v := ?vo_w50) (w1 := ((w47.setCell ⟨gb139, 0, none⟩ (.string ((rd_T41 ((rd_T38 l0 a1).f2) x8_4).f0))).setCell ⟨gb139, 1, none⟩ (.int .u8 ((rd_T41 ((rd_T38 l0 a1).f2) x8_4).f1)))) ?hg ?ho ?hn ?hr ?_; (case ho => rfl); (case hg => rfl); (case hn => rfl); (case hr => first | (go_simp; done) | (go_simp; rfl)); intro w50 hw; have n0_ : Aside0 (Kd.R k41 41 w50 w.heap.size (fun k_ => k_ ≠ gb139) v136 t135) := ⟨(by rw [hw]; exact (by (with_reducible repeat (first | apply Kd.R_alloc | apply Kd.R_drewN | apply Kd.R_drew)); exact Kd.R_mono (Kd.R_far (p := ⟨gb139, 1, none⟩) (Kd.R_far (p := ⟨gb139, 0, none⟩) (Kd.R_mono HO_7.out (fun k_ hk => (⟨hk, hk.2⟩ : _ ∧ k_ ≠ gb139))) (fun _ hk => hk.2) (.string ((rd_T41 ((rd_T38 l0 a1).f2) x8_4).f0))) (fun _ hk => hk.2) (.int .u8 ((rd_T41 ((rd_T38 l0 a1).f2) x8_4).f1))) (fun _ hk => hk.1.2)))⟩; have n1_ : Aside0 (w50.heap[gb131]? = some (.cells #[.string ((rd_T38 l0 a1).f0), .int .i64 ((rd_T38 l0 a1).f1), .slice (some ad138) ((rd_T38 l0 a1).f2).length c130_2] 38 (0, 0))) := ⟨(by rw [hw]; exact (by (with_reducible repeat (first | refine blk_drewN ?_ _ | refine blk_drew ?_ | refine blk_alloc ?_ _)); refine blk_far ?_ NB131_139.out _; (with_reducible repeat (first | refine blk_drewN ?_ _ | refine blk_drew ?_ | refine blk_alloc ?_ _)); refine blk_far ?_ NB131_139.out _; (with_reducible repeat (first | refine blk_drewN ?_ _ | refine blk_drew ?_ | refine blk_alloc ?_ _)); exact BK131.out))⟩; have n2_ : Aside0 (w50.heap[gb139]? = some (.cells #[.string ((rd_T41 ((rd_T38 l0 a1).f2) x8_4).f0), .int .u8 ((rd_T41 ((rd_T38 l0 a1).f2) x8_4).f1)] 41 (0, 0))) := ⟨(by rw [hw]; exact (by (with_reducible repeat (first | refine blk_drewN ?_ _ | refine blk_drew ?_ | refine blk_alloc ?_ _)); refine blk_put (cs := #[.string ((rd_T41 ((rd_T38 l0 a1).f2) x8_4).f0), .int .u8 0]) ?_ 1 _ rfl; (with_reducible repeat (first | refine blk_drewN ?_ _ | refine blk_drew ?_ | refine blk_alloc ?_ _)); refine blk_put (cs := #[.string (⟨#[]⟩ : ByteArray), .int .u8 0]) ?_ 0 _ rfl; (with_reducible repeat (first | refine blk_drewN ?_ _ | refine blk_drew ?_ | refine blk_alloc ?_ _)); exact BK139.out))⟩; have n3_ : Aside0 (Below w.heap.size w w50) := ⟨(by rw [hw]; exact (by repeat (first | (with_reducible first | exact HB.out | apply below_alloc | apply pw_below_drewN | apply below_drew1 | refine below_set ?_ GE131.out | refine below_set ?_ GE139.out) | exact HB.out)))⟩; clear hw; clear HO_7; clear BK131; clear BK139; clear HB; have HO_7 := n0_; have BK131 := n1_; have BK139 := n2_; have HB := n3_; clear n0_ n1_ n2_ n3_; have hcz51_0 : w50.cell? ⟨gb139, 0, none⟩ = some (.string ((rd_T41 ((rd_T38 l0 a1).f2) x8_4).f0)) := (blk_cell BK139.out 0).trans rfl; have hcz51_1 : w50.cell? ⟨gb139, 1, none⟩ = some (.int .u8 ((rd_T41 ((rd_T38 l0 a1).f2) x8_4).f1)) := (blk_cell BK139.out 1).trans rfl; have hfz51_0 := blk_frozen BK139.out 0; have hfz51_1 := blk_frozen BK139.out 1) | (go_at_call 61; (with_reducible refine (provisoref02_IsName.calls k4 ((rd_T41 ((rd_T38 l0 a1).f2) x8_4).f0) true _ A33.out).mono ?_); rintro e w' ⟨rfl, ⟨nd, rfl⟩⟩; (try first | exact ⟨rfl, _, World.drewN_drewN _ _ _⟩ | exact ⟨rfl, _, Eq.trans (World.drewN_drewN _ _ _) (congrArg (World.drewN _) (Nat.add_assoc _ _ _))⟩); obtain ⟨Ao52, co52, eo52⟩ := Kd.R_slice HO_7.out; subst eo52) | (go_at_call 63; (with_reducible refine (provisoref02_has.calls k4 _ _ t135 ((rd_T41 ((rd_T38 l0 a1).f2) x8_4).f0) false _ ?side1 ?side2 A35.out).mono ?_); (case side1 => repeat (first | exact (Kd.R_reads' HO_7.out).2.2 | (with_reducible refine Kd.C_alloc ?_ _) | (with_reducible refine Kd.C_drewN ?_ _) | (with_reducible refine Kd.C_drew ?_))); (case side2 => exact (Kd.R_reads' HO_7.out).2.1); rintro e w' ⟨rfl, ⟨nd, rfl⟩⟩; (try first | exact ⟨rfl, _, World.drewN_drewN _ _ _⟩ | exact ⟨rfl, _, Eq.trans (World.drewN_drewN _ _ _) (congrArg (World.drewN _) (Nat.add_assoc _ _ _))⟩); have hcz53_0 : w50.cell? ⟨gb131, 0, none⟩ = some (.string ((rd_T38 l0 a1).f0)) := (blk_cell BK131.out 0).trans rfl; have hcz53_1 : w50.cell? ⟨gb131, 1, none⟩ = some (.int .i64 ((rd_T38 l0 a1).f1)) := (blk_cell BK131.out 1).trans rfl; have hcz53_2 : w50.cell? ⟨gb131, 2, none⟩ = some (.slice (some ad138) ((rd_T38 l0 a1).f2).length c130_2) := (blk_cell BK131.out 2).trans rfl; have hfz53_0 := blk_frozen BK131.out 0; have hfz53_1 := blk_frozen BK131.out 1; have hfz53_2 := blk_frozen BK131.out 2; have q54 : (x8_4 : Int) ≤ ((((rd_T38 l0 a1).f2).length : Int) : Int) := of_decide_eq_true (by first | (with_reducible assumption) | assumption); obtain ⟨i054, hi054, _, hsz54, _⟩ := info_parts info41; have hroom54 : ((rd_T38 l0 a1).f2).length ≤ c130_2 := HC130_2.out; have hC54 : Kd.C k41 _ (some ad138) ((rd_T38 l0 a1).f2).length ((rd_T38 l0 a1).f2) := HR130_2.out; have hcut54 := cut_to (P := Tryz.prog) 36 41 .i64 Tryz.underlying36 hi054 (some ad138) ((rd_T38 l0 a1).f2).length c130_2 x8_4 (of_decide_eq_true (by first | (with_reducible assumption) | assumption)) q54 hroom54; have hr54 := Kd.C_take (m := (x8_4 : Int).toNat) hC54 (by omega); have hy54 : y142.length = (x8_4 : Int).toNat := (by rw [Ny142.out, List.length_take]; omega); rw [← Ny142.out] at hr54; rw [← hy54] at hcut54; have HR145 := Aside0.mk hr54; have HC145 := Aside0.mk (show y142.length ≤ c130_2 from by omega); clear hr54 hC54 hroom54 hi054 hsz54; have KY54 := Aside0.mk hy54; clear hy54; replace q54 := eq_true q54) | (go_at_call 63; (with_reducible refine (provisoref02_has.calls k4 _ _ y142 ((rd_T41 ((rd_T38 l0 a1).f2) x8_4).f0) true _ ?side1 ?side2 A44.out).mono ?_); (case side1 => repeat (first | exact (Kd.C_below HR145.out (by repeat (first | (with_reducible first | exact HB.out | apply below_alloc | apply pw_below_drewN | apply below_drew1 | refine below_set ?_ GE131.out | refine below_set ?_ GE139.out) | exact HB.out))) | (with_reducible refine Kd.C_alloc ?_ _) | (with_reducible refine Kd.C_drewN ?_ _) | (with_reducible refine Kd.C_drew ?_))); (case side2 => exact HC145.out); rintro e w' ⟨rfl, ⟨nd, rfl⟩⟩; (try first | exact ⟨rfl, _, World.drewN_drewN _ _ _⟩ | exact ⟨rfl, _, Eq.trans (World.drewN_drewN _ _ _) (congrArg (World.drewN _) (Nat.add_assoc _ _ _))⟩))); try go_wp2_with (first | ((with_reducible refine gate_dst (N := 9) rfl ?_); refine box_event ?hg (N := 9) ?hd (cs := #[.string (⟨#[]⟩ : ByteArray), .int .u8 0]) (t := 41) ?hr ?_; (case hd => rfl); (case hg => rfl); (case hr => first | (go_simp; done) | (go_simp; rfl)); intro gb139 hg w47 hbox hb; have n0_ := Aside0.mk (Kd.R_below (Kd.R_elderB (by (with_reducible repeat (first | apply Kd.R_alloc | apply Kd.R_drewN | apply Kd.R_drew)); exact HO_7.out) gb139 (Nat.le_of_eq hg.symm)) hb); have n1_ := Aside0.mk (blk_below (g := gb131) (o := .cells #[.string ((rd_T38 l0 a1).f0), .int .i64 ((rd_T38 l0 a1).f1), .slice (some ad138) ((rd_T38 l0 a1).f2).length c130_2] 38 (0, 0)) (by (with_reducible repeat (first | refine blk_drewN ?_ _ | refine blk_drew ?_ | refine blk_alloc ?_ _)); exact BK131.out) hb); have n2_ := Aside0.mk (below_step (by repeat (first | (with_reducible first | exact HB.out | apply below_alloc | apply pw_below_drewN | apply below_drew1 | refine below_set ?_ GE131.out) | exact HB.out)) hb); have n3_ := Aside0.mk (hbox); have n4_ := Aside0.mk ((by rw [hg]; exact (below_size (by repeat (first | (with_reducible first | exact HB.out | apply below_alloc | apply pw_below_drewN | apply below_drew1 | refine below_set ?_ GE131.out) | exact HB.out))) : w.heap.size ≤ gb139)); have n5_ := Aside0.mk ((by rw [hg]; exact (below_size (by repeat (first | (with_reducible first | exact HB.out | apply below_alloc | apply pw_below_drewN | apply below_drew1 | refine below_set ?_ GE131.out) | exact HB.out))) : w.heap.size ≤ gb139)); have n6_ := Aside0.mk ((by rw [hg]; exact Nat.ne_of_lt (blk_lt (g := gb131) (o := .cells #[.string ((rd_T38 l0 a1).f0), .int .i64 ((rd_T38 l0 a1).f1), .slice (some ad138) ((rd_T38 l0 a1).f2).length c130_2] 38 (0, 0)) (by (with_reducible repeat (first | refine blk_drewN ?_ _ | refine blk_drew ?_ | refine blk_alloc ?_ _)); exact BK131.out)) : gb131 ≠ gb139)); have n7_ := Aside0.mk ((by rw [hg]; exact Nat.ne_of_gt (blk_lt (g := gb131) (o := .cells #[.string ((rd_T38 l0 a1).f0), .int .i64 ((rd_T38 l0 a1).f1), .slice (some ad138) ((rd_T38 l0 a1).f2).length c130_2] 38 (0, 0)) (by (with_reducible repeat (first | refine blk_drewN ?_ _ | refine blk_drew ?_ | refine blk_alloc ?_ _)); exact BK131.out)) : gb139 ≠ gb131)); clear HO_7; clear BK131; clear HB; have HO_7 := n0_; have BK131 := n1_; have HB := n2_; have BK139 := n3_; have GW139 := n4_; have GE139 := n5_; have NB131_139 := n6_; have NB139_131 := n7_; clear n0_ n1_ n2_ n3_ n4_ n5_ n6_ n7_; clear hb hbox hg; have hnb48 := NB139_131.out; have hnc48 := NB131_139.out; have hcz49_0 : w47.cell? ⟨gb139, 0, none⟩ = some (.string (⟨#[]⟩ : ByteArray)) := (blk_cell BK139.out 0).trans rfl; have hcz49_1 : w47.cell? ⟨gb139, 1, none⟩ = some (.int .u8 0) := (blk_cell BK139.out 1).trans rfl; have hfz49_0 := blk_frozen BK139.out 0; have hfz49_1 := blk_frozen BK139.out 1) | ((with_reducible refine gate_store (t := 41) (p := 9) rfl ?_); (try (rw [drewN_self w47]; generalize hq_ : World.drewN w47 _ = w47; have n0_ := Aside0.mk (Kd.R_at hq_ HO_7.out); have n1_ := Aside0.mk (blk_at hq_ BK131.out); have n2_ := Aside0.mk (blk_at hq_ BK139.out); have n3_ := Aside0.mk (below_at hq_ HB.out); clear hq_ HO_7 BK131 BK139 HB; have HO_7 := n0_; have BK131 := n1_; have BK139 := n2_; have HB := n3_; clear n0_ n1_ n2_ n3_)); refine store_event (t := 41) (p := 9) (v := ?vo_w50) (w1 := ((w47.setCell ⟨gb139, 0, none⟩ (.string ((rd_T41 ((rd_T38 l0 a1).f2) x8_4).f0))).setCell ⟨gb139, 1, none⟩ (.int .u8 ((rd_T41 ((rd_T38 l0 a1).f2) x8_4).f1)))) ?hg ?ho ?hn ?hr ?_; (case ho => rfl); (case hg => rfl); (case hn => rfl); (case hr => first | (go_simp; done) | (go_simp; rfl)); intro w50 hw; have n0_ : Aside0 (Kd.R k41 41 w50 w.heap.size (fun k_ => k_ ≠ gb139) v136 t135) := ⟨(by rw [hw]; exact (by (with_reducible repeat (first | apply Kd.R_alloc | apply Kd.R_drewN | apply Kd.R_drew)); exact Kd.R_mono (Kd.R_far (p := ⟨gb139, 1, none⟩) (Kd.R_far (p := ⟨gb139, 0, none⟩) (Kd.R_mono HO_7.out (fun k_ hk => (⟨hk, hk.2⟩ : _ ∧ k_ ≠ gb139))) (fun _ hk => hk.2) (.string ((rd_T41 ((rd_T38 l0 a1).f2) x8_4).f0))) (fun _ hk => hk.2) (.int .u8 ((rd_T41 ((rd_T38 l0 a1).f2) x8_4).f1))) (fun _ hk => hk.1.2)))⟩; have n1_ : Aside0 (w50.heap[gb131]? = some (.cells #[.string ((rd_T38 l0 a1).f0), .int .i64 ((rd_T38 l0 a1).f1), .slice (some ad138) ((rd_T38 l0 a1).f2).length c130_2] 38 (0, 0))) := ⟨(by rw [hw]; exact (by (with_reducible repeat (first | refine blk_drewN ?_ _ | refine blk_drew ?_ | refine blk_alloc ?_ _)); refine blk_far ?_ NB131_139.out _; (with_reducible repeat (first | refine blk_drewN ?_ _ | refine blk_drew ?_ | refine blk_alloc ?_ _)); refine blk_far ?_ NB131_139.out _; (with_reducible repeat (first | refine blk_drewN ?_ _ | refine blk_drew ?_ | refine blk_alloc ?_ _)); exact BK131.out))⟩; have n2_ : Aside0 (w50.heap[gb139]? = some (.cells #[.string ((rd_T41 ((rd_T38 l0 a1).f2) x8_4).f0), .int .u8 ((rd_T41 ((rd_T38 l0 a1).f2) x8_4).f1)] 41 (0, 0))) := ⟨(by rw [hw]; exact (by (with_reducible repeat (first | refine blk_drewN ?_ _ | refine blk_drew ?_ | refine blk_alloc ?_ _)); refine blk_put (cs := #[.string ((rd_T41 ((rd_T38 l0 a1).f2) x8_4).f0), .int .u8 0]) ?_ 1 _ rfl; (with_reducible repeat (first | refine blk_drewN ?_ _ | refine blk_drew ?_ | refine blk_alloc ?_ _)); refine blk_put (cs := #[.string (⟨#[]⟩ : ByteArray), .int .u8 0]) ?_ 0 _ rfl; (with_reducible repeat (first | refine blk_drewN ?_ _ | refine blk_drew ?_ | refine blk_alloc ?_ _)); exact BK139.out))⟩; have n3_ : Aside0 (Below w.heap.size w w50) := ⟨(by rw [hw]; exact (by repeat (first | (with_reducible first | exact HB.out | apply below_alloc | apply pw_below_drewN | apply below_drew1 | refine below_set ?_ GE131.out | refine below_set ?_ GE139.out) | exact HB.out)))⟩; clear hw; clear HO_7; clear BK131; clear BK139; clear HB; have HO_7 := n0_; have BK131 := n1_; have BK139 := n2_; have HB := n3_; clear n0_ n1_ n2_ n3_; have hcz51_0 : w50.cell? ⟨gb139, 0, none⟩ = some (.string ((rd_T41 ((rd_T38 l0 a1).f2) x8_4).f0)) := (blk_cell BK139.out 0).trans rfl; have hcz51_1 : w50.cell? ⟨gb139, 1, none⟩ = some (.int .u8 ((rd_T41 ((rd_T38 l0 a1).f2) x8_4).f1)) := (blk_cell BK139.out 1).trans rfl; have hfz51_0 := blk_frozen BK139.out 0; have hfz51_1 := blk_frozen BK139.out 1) | (go_at_call 61; (with_reducible refine (provisoref02_IsName.calls k4 ((rd_T41 ((rd_T38 l0 a1).f2) x8_4).f0) true _ A33.out).mono ?_); rintro e w' ⟨rfl, ⟨nd, rfl⟩⟩; (try first | exact ⟨rfl, _, World.drewN_drewN _ _ _⟩ | exact ⟨rfl, _, Eq.trans (World.drewN_drewN _ _ _) (congrArg (World.drewN _) (Nat.add_assoc _ _ _))⟩); obtain ⟨Ao52, co52, eo52⟩ := Kd.R_slice HO_7.out; subst eo52) | (go_at_call 63; (with_reducible refine (provisoref02_has.calls k4 _ _ t135 ((rd_T41 ((rd_T38 l0 a1).f2) x8_4).f0) false _ ?side1 ?side2 A35.out).mono ?_); (case side1 => repeat (first | exact (Kd.R_reads' HO_7.out).2.2 | (with_reducible refine Kd.C_alloc ?_ _) | (with_reducible refine Kd.C_drewN ?_ _) | (with_reducible refine Kd.C_drew ?_))); (case side2 => exact (Kd.R_reads' HO_7.out).2.1); rintro e w' ⟨rfl, ⟨nd, rfl⟩⟩; (try first | exact ⟨rfl, _, World.drewN_drewN _ _ _⟩ | exact ⟨rfl, _, Eq.trans (World.drewN_drewN _ _ _) (congrArg (World.drewN _) (Nat.add_assoc _ _ _))⟩); have hcz53_0 : w50.cell? ⟨gb131, 0, none⟩ = some (.string ((rd_T38 l0 a1).f0)) := (blk_cell BK131.out 0).trans rfl; have hcz53_1 : w50.cell? ⟨gb131, 1, none⟩ = some (.int .i64 ((rd_T38 l0 a1).f1)) := (blk_cell BK131.out 1).trans rfl; have hcz53_2 : w50.cell? ⟨gb131, 2, none⟩ = some (.slice (some ad138) ((rd_T38 l0 a1).f2).length c130_2) := (blk_cell BK131.out 2).trans rfl; have hfz53_0 := blk_frozen BK131.out 0; have hfz53_1 := blk_frozen BK131.out 1; have hfz53_2 := blk_frozen BK131.out 2; have q54 : (x8_4 : Int) ≤ ((((rd_T38 l0 a1).f2).length : Int) : Int) := of_decide_eq_true (by first | (with_reducible assumption) | assumption); obtain ⟨i054, hi054, _, hsz54, _⟩ := info_parts info41; have hroom54 : ((rd_T38 l0 a1).f2).length ≤ c130_2 := HC130_2.out; have hC54 : Kd.C k41 _ (some ad138) ((rd_T38 l0 a1).f2).length ((rd_T38 l0 a1).f2) := HR130_2.out; have hcut54 := cut_to (P := Tryz.prog) 36 41 .i64 Tryz.underlying36 hi054 (some ad138) ((rd_T38 l0 a1).f2).length c130_2 x8_4 (of_decide_eq_true (by first | (with_reducible assumption) | assumption)) q54 hroom54; have hr54 := Kd.C_take (m := (x8_4 : Int).toNat) hC54 (by omega); have hy54 : y142.length = (x8_4 : Int).toNat := (by rw [Ny142.out, List.length_take]; omega); rw [← Ny142.out] at hr54; rw [← hy54] at hcut54; have HR145 := Aside0.mk hr54; have HC145 := Aside0.mk (show y142.length ≤ c130_2 from by omega); clear hr54 hC54 hroom54 hi054 hsz54; have KY54 := Aside0.mk hy54; clear hy54; replace q54 := eq_true q54) | (go_at_call 63; (with_reducible refine (provisoref02_has.calls k4 _ _ y142 ((rd_T41 ((rd_T38 l0 a1).f2) x8_4).f0) true _ ?side1 ?side2 A44.out).mono ?_); (case side1 => repeat (first | exact (Kd.C_below HR145.out (by repeat (first | (with_reducible first | exact HB.out | apply below_alloc | apply pw_below_drewN | apply below_drew1 | refine below_set ?_ GE131.out | refine below_set ?_ GE139.out) | exact HB.out))) | (with_reducible refine Kd.C_alloc ?_ _) | (with_reducible refine Kd.C_drewN ?_ _) | (with_reducible refine Kd.C_drew ?_))); (case side2 => exact HC145.out); rintro e w' ⟨rfl, ⟨nd, rfl⟩⟩; (try first | exact ⟨rfl, _, World.drewN_drewN _ _ _⟩ | exact ⟨rfl, _, Eq.trans (World.drewN_drewN _ _ _) (congrArg (World.drewN _) (Nat.add_assoc _ _ _))⟩))))
                                          go_ret
                                          exact ⟨by first | rfl | (simp [errW_none, errW_some] <;> rfl) | (simp [*, errW_none, errW_some] <;> rfl), by repeat (first | (with_reducible first | exact HB.out | apply below_alloc | apply pw_below_drewN | apply below_drew1 | refine below_set ?_ GE131.out | refine below_set ?_ GE139.out) | exact HB.out)⟩
                                        · replace c45 := Bool.eq_false_iff.mpr c45
                                          subst c45
                                          have H1 : ((provisoref02_Stored.f l0 ((rd_T41 ((rd_T38 l0 a1).f2) x8_4).f1)).bind fun t147 => (if t147 = true then (provisoref02_fault.l1 k4 l0 t135 (wrap64 (x8_4 + 1)) ((rd_T38 l0 a1).f0) ((rd_T38 l0 a1).f1) ((rd_T38 l0 a1).f2)) else (some 22))) = some r := by rw [if_neg (show ¬ (false = true) by decide)] at H; exact H
                                          clear H
                                          have H := H1
                                          clear H1
                                          replace H := Option.bind_eq_some_iff.mp H
                                          obtain ⟨t147, A550, H⟩ := H
                                          replace H : (if t147 = true then (provisoref02_fault.l1 k4 l0 t135 (wrap64 (x8_4 + 1)) ((rd_T38 l0 a1).f0) ((rd_T38 l0 a1).f1) ((rd_T38 l0 a1).f2)) else (some 22)) = some r := H
                                          have A55 := Aside0.mk A550
                                          clear A550
                                          by_cases c56 : t147 = true
                                          · subst c56
                                            have H1 : (provisoref02_fault.l1 k4 l0 t135 (wrap64 (x8_4 + 1)) ((rd_T38 l0 a1).f0) ((rd_T38 l0 a1).f1) ((rd_T38 l0 a1).f2)) = some r := by rw [if_pos rfl] at H; exact H
                                            clear H
                                            have H := H1
                                            clear H1
                                            have H' := Aside0.mk H
                                            clear H
                                            have hcz57_0 : wr.cell? ⟨gb131, 0, none⟩ = some (.string ((rd_T38 l0 a1).f0)) := (blk_cell BK131.out 0).trans rfl
                                            have hcz57_1 : wr.cell? ⟨gb131, 1, none⟩ = some (.int .i64 ((rd_T38 l0 a1).f1)) := (blk_cell BK131.out 1).trans rfl
                                            have hcz57_2 : wr.cell? ⟨gb131, 2, none⟩ = some (.slice A130_2 ((rd_T38 l0 a1).f2).length c130_2) := (blk_cell BK131.out 2).trans rfl
                                            have hfz57_0 := blk_frozen BK131.out 0
                                            have hfz57_1 := blk_frozen BK131.out 1
                                            have hfz57_2 := blk_frozen BK131.out 2
                                            have p138 : 0 ≤ (x8_4 : Int) := of_decide_eq_true (by first | (with_reducible assumption) | assumption)
                                            have q138 : x8_4 < (((rd_T38 l0 a1).f2).length : Int) := of_decide_eq_true (by first | (with_reducible assumption) | assumption)
                                            obtain ⟨ad138, e138, hx138_0, hx138_1⟩ := at_T41 HR130_2.out x8_4 p138 q138
                                            cases e138
                                            replace hx138_0 := (HB.out.cell (World.block_lt_of_cell? w _ hx138_0)).trans hx138_0
                                            replace hx138_1 := (HB.out.cell (World.block_lt_of_cell? w _ hx138_1)).trans hx138_1
                                            replace p138 := eq_true p138
                                            replace q138 := eq_true q138
                                            go_wp2_with (first | ((with_reducible refine gate_dst (N := 9) rfl ?_); refine box_event ?hg (N := 9) ?hd (cs := #[.string (⟨#[]⟩ : ByteArray), .int .u8 0]) (t := 41) ?hr ?_; (case hd => rfl); (case hg => rfl); (case hr => first | (go_simp; done) | (go_simp; rfl)); intro gb139 hg w58 hbox hb; have n0_ := Aside0.mk (Kd.R_below (Kd.R_elderB (by (with_reducible repeat (first | apply Kd.R_alloc | apply Kd.R_drewN | apply Kd.R_drew)); exact HO_7.out) gb139 (Nat.le_of_eq hg.symm)) hb); have n1_ := Aside0.mk (blk_below (g := gb131) (o := .cells #[.string ((rd_T38 l0 a1).f0), .int .i64 ((rd_T38 l0 a1).f1), .slice (some ad138) ((rd_T38 l0 a1).f2).length c130_2] 38 (0, 0)) (by (with_reducible repeat (first | refine blk_drewN ?_ _ | refine blk_drew ?_ | refine blk_alloc ?_ _)); exact BK131.out) hb); have n2_ := Aside0.mk (below_step (by repeat (first | (with_reducible first | exact HB.out | apply below_alloc | apply pw_below_drewN | apply below_drew1 | refine below_set ?_ GE131.out) | exact HB.out)) hb); have n3_ := Aside0.mk (hbox); have n4_ := Aside0.mk ((by rw [hg]; exact (below_size (by repeat (first | (with_reducible first | exact HB.out | apply below_alloc | apply pw_below_drewN | apply below_drew1 | refine below_set ?_ GE131.out) | exact HB.out))) : w.heap.size ≤ gb139)); have n5_ := Aside0.mk ((by rw [hg]; exact (below_size (by repeat (first | (with_reducible first | exact HB.out | apply below_alloc | apply pw_below_drewN | apply below_drew1 | refine below_set ?_ GE131.out) | exact HB.out))) : w.heap.size ≤ gb139)); have n6_ := Aside0.mk ((by rw [hg]; exact Nat.ne_of_lt (blk_lt (g := gb131) (o := .cells #[.string ((rd_T38 l0 a1).f0), .int .i64 ((rd_T38 l0 a1).f1), .slice (some ad138) ((rd_T38 l0 a1).f2).length c130_2] 38 (0, 0)) (by (with_reducible repeat (first | refine blk_drewN ?_ _ | refine blk_drew ?_ | refine blk_alloc ?_ _)); exact BK131.out)) : gb131 ≠ gb139)); have n7_ := Aside0.mk ((by rw [hg]; exact Nat.ne_of_gt (blk_lt (g := gb131) (o := .cells #[.string ((rd_T38 l0 a1).f0), .int .i64 ((rd_T38 l0 a1).f1), .slice (some ad138) ((rd_T38 l0 a1).f2).length c130_2] 38 (0, 0)) (by (with_reducible repeat (first | refine blk_drewN ?_ _ | refine blk_drew ?_ | refine blk_alloc ?_ _)); exact BK131.out)) : gb139 ≠ gb131)); clear HO_7; clear BK131; clear HB; have HO_7 := n0_; have BK131 := n1_; have HB := n2_; have BK139 := n3_; have GW139 := n4_; have GE139 := n5_; have NB131_139 := n6_; have NB139_131 := n7_; clear n0_ n1_ n2_ n3_ n4_ n5_ n6_ n7_; clear hb hbox hg; have hnb59 := NB139_131.out; have hnc59 := NB131_139.out; have hcz60_0 : w58.cell? ⟨gb139, 0, none⟩ = some (.string (⟨#[]⟩ : ByteArray)) := (blk_cell BK139.out 0).trans rfl; have hcz60_1 : w58.cell? ⟨gb139, 1, none⟩ = some (.int .u8 0) := (blk_cell BK139.out 1).trans rfl; have hfz60_0 := blk_frozen BK139.out 0; have hfz60_1 := blk_frozen BK139.out 1) | ((with_reducible refine gate_store (t := 41) (p := 9) rfl ?_); (try (rw [drewN_self w58]; generalize hq_ : World.drewN w58 _ = w58; have n0_ := Aside0.mk (Kd.R_at hq_ HO_7.out); have n1_ := Aside0.mk (blk_at hq_ BK131.out); have n2_ := Aside0.mk (blk_at hq_ BK139.out); have n3_ := Aside0.mk (below_at hq_ HB.out); clear hq_ HO_7 BK131 BK139 HB; have HO_7 := n0_; have BK131 := n1_; have BK139 := n2_; have HB := n3_; clear n0_ n1_ n2_ n3_)); refine store_event (t := 41) (p := 9) (v := ?vo_w61) (w1 := ((w58.setCell ⟨gb139, 0, none⟩ (.string ((rd_T41 ((rd_T38 l0 a1).f2) x8_4).f0))).setCell ⟨gb139, 1, none⟩ (.int .u8 ((rd_T41 ((rd_T38 l0 a1).f2) x8_4).f1)))) ?hg ?ho ?hn ?hr ?_; (case ho => rfl); (case hg => rfl); (case hn => rfl); (case hr => first | (go_simp; done) | (go_simp; rfl)); intro w61 hw; have n0_ : Aside0 (Kd.R k41 41 w61 w.heap.size (fun k_ => k_ ≠ gb139) v136 t135) := ⟨(by rw [hw]; exact (by (with_reducible repeat (first | apply Kd.R_alloc | apply Kd.R_drewN | apply Kd.R_drew)); exact Kd.R_mono (Kd.R_far (p := ⟨gb139, 1, none⟩) (Kd.R_far (p := ⟨gb139, 0, none⟩) (Kd.R_mono HO_7.out (fun k_ hk => (⟨hk, hk.2⟩ : _ ∧ k_ ≠ gb139))) (fun _ hk => hk.2) (.string ((rd_T41 ((rd_T38 l0 a1).f2) x8_4).f0))) (fun _ hk => hk.2) (.int .u8 ((rd_T41 ((rd_T38 l0 a1).f2) x8_4).f1))) (fun _ hk => hk.1.2)))⟩; have n1_ : Aside0 (w61.heap[gb131]? = some (.cells #[.string ((rd_T38 l0 a1).f0), .int .i64 ((rd_T38 l0 a1).f1), .slice (some ad138) ((rd_T38 l0 a1).f2).length c130_2] 38 (0, 0))) := ⟨(by rw [hw]; exact (by (with_reducible repeat (first | refine blk_drewN ?_ _ | refine blk_drew ?_ | refine blk_alloc ?_ _)); refine blk_far ?_ NB131_139.out _; (with_reducible repeat (first | refine blk_drewN ?_ _ | refine blk_drew ?_ | refine blk_alloc ?_ _)); refine blk_far ?_ NB131_139.out _; (with_reducible repeat (first | refine blk_drewN ?_ _ | refine blk_drew ?_ | refine blk_alloc ?_ _)); exact BK131.out))⟩; have n2_ : Aside0 (w61.heap[gb139]? = some (.cells #[.string ((rd_T41 ((rd_T38 l0 a1).f2) x8_4).f0), .int .u8 ((rd_T41 ((rd_T38 l0 a1).f2) x8_4).f1)] 41 (0, 0))) := ⟨(by rw [hw]; exact (by (with_reducible repeat (first | refine blk_drewN ?_ _ | refine blk_drew ?_ | refine blk_alloc ?_ _)); refine blk_put (cs := #[.string ((rd_T41 ((rd_T38 l0 a1).f2) x8_4).f0), .int .u8 0]) ?_ 1 _ rfl; (with_reducible repeat (first | refine blk_drewN ?_ _ | refine blk_drew ?_ | refine blk_alloc ?_ _)); refine blk_put (cs := #[.string (⟨#[]⟩ : ByteArray), .int .u8 0]) ?_ 0 _ rfl; (with_reducible repeat (first | refine blk_drewN ?_ _ | refine blk_drew ?_ | refine blk_alloc ?_ _)); exact BK139.out))⟩; have n3_ : Aside0 (Below w.heap.size w w61) := ⟨(by rw [hw]; exact (by repeat (first | (with_reducible first | exact HB.out | apply below_alloc | apply pw_below_drewN | apply below_drew1 | refine below_set ?_ GE131.out | refine below_set ?_ GE139.out) | exact HB.out)))⟩; clear hw; clear HO_7; clear BK131; clear BK139; clear HB; have HO_7 := n0_; have BK131 := n1_; have BK139 := n2_; have HB := n3_; clear n0_ n1_ n2_ n3_; have hcz62_0 : w61.cell? ⟨gb139, 0, none⟩ = some (.string ((rd_T41 ((rd_T38 l0 a1).f2) x8_4).f0)) := (blk_cell BK139.out 0).trans rfl; have hcz62_1 : w61.cell? ⟨gb139, 1, none⟩ = some (.int .u8 ((rd_T41 ((rd_T38 l0 a1).f2) x8_4).f1)) := (blk_cell BK139.out 1).trans rfl; have hfz62_0 := blk_frozen BK139.out 0; have hfz62_1 := blk_frozen BK139.out 1) | (go_at_call 61; (with_reducible refine (provisoref02_IsName.calls k4 ((rd_T41 ((rd_T38 l0 a1).f2) x8_4).f0) true _ A33.out).mono ?_); rintro e w' ⟨rfl, ⟨nd, rfl⟩⟩; (try first | exact ⟨rfl, _, World.drewN_drewN _ _ _⟩ | exact ⟨rfl, _, Eq.trans (World.drewN_drewN _ _ _) (congrArg (World.drewN _) (Nat.add_assoc _ _ _))⟩); obtain ⟨Ao63, co63, eo63⟩ := Kd.R_slice HO_7.out; subst eo63) | (go_at_call 63; (with_reducible refine (provisoref02_has.calls k4 _ _ t135 ((rd_T41 ((rd_T38 l0 a1).f2) x8_4).f0) false _ ?side1 ?side2 A35.out).mono ?_); (case side1 => repeat (first | exact (Kd.R_reads' HO_7.out).2.2 | (with_reducible refine Kd.C_alloc ?_ _) | (with_reducible refine Kd.C_drewN ?_ _) | (with_reducible refine Kd.C_drew ?_))); (case side2 => exact (Kd.R_reads' HO_7.out).2.1); rintro e w' ⟨rfl, ⟨nd, rfl⟩⟩; (try first | exact ⟨rfl, _, World.drewN_drewN _ _ _⟩ | exact ⟨rfl, _, Eq.trans (World.drewN_drewN _ _ _) (congrArg (World.drewN _) (Nat.add_assoc _ _ _))⟩); have hcz64_0 : w61.cell? ⟨gb131, 0, none⟩ = some (.string ((rd_T38 l0 a1).f0)) := (blk_cell BK131.out 0).trans rfl; have hcz64_1 : w61.cell? ⟨gb131, 1, none⟩ = some (.int .i64 ((rd_T38 l0 a1).f1)) := (blk_cell BK131.out 1).trans rfl; have hcz64_2 : w61.cell? ⟨gb131, 2, none⟩ = some (.slice (some ad138) ((rd_T38 l0 a1).f2).length c130_2) := (blk_cell BK131.out 2).trans rfl; have hfz64_0 := blk_frozen BK131.out 0; have hfz64_1 := blk_frozen BK131.out 1; have hfz64_2 := blk_frozen BK131.out 2; have q65 : (x8_4 : Int) ≤ ((((rd_T38 l0 a1).f2).length : Int) : Int) := of_decide_eq_true (by first | (with_reducible assumption) | assumption); obtain ⟨i065, hi065, _, hsz65, _⟩ := info_parts info41; have hroom65 : ((rd_T38 l0 a1).f2).length ≤ c130_2 := HC130_2.out; have hC65 : Kd.C k41 _ (some ad138) ((rd_T38 l0 a1).f2).length ((rd_T38 l0 a1).f2) := HR130_2.out; have hcut65 := cut_to (P := Tryz.prog) 36 41 .i64 Tryz.underlying36 hi065 (some ad138) ((rd_T38 l0 a1).f2).length c130_2 x8_4 (of_decide_eq_true (by first | (with_reducible assumption) | assumption)) q65 hroom65; have hr65 := Kd.C_take (m := (x8_4 : Int).toNat) hC65 (by omega); have hy65 : y142.length = (x8_4 : Int).toNat := (by rw [Ny142.out, List.length_take]; omega); rw [← Ny142.out] at hr65; rw [← hy65] at hcut65; have HR145 := Aside0.mk hr65; have HC145 := Aside0.mk (show y142.length ≤ c130_2 from by omega); clear hr65 hC65 hroom65 hi065 hsz65; have KY65 := Aside0.mk hy65; clear hy65; replace q65 := eq_true q65) | (go_at_call 63; (with_reducible refine (provisoref02_has.calls k4 _ _ y142 ((rd_T41 ((rd_T38 l0 a1).f2) x8_4).f0) false _ ?side1 ?side2 A44.out).mono ?_); (case side1 => repeat (first | exact (Kd.C_below HR145.out (by repeat (first | (with_reducible first | exact HB.out | apply below_alloc | apply pw_below_drewN | apply below_drew1 | refine below_set ?_ GE131.out | refine below_set ?_ GE139.out) | exact HB.out))) | (with_reducible refine Kd.C_alloc ?_ _) | (with_reducible refine Kd.C_drewN ?_ _) | (with_reducible refine Kd.C_drew ?_))); (case side2 => exact HC145.out); rintro e w' ⟨rfl, ⟨nd, rfl⟩⟩; (try first | exact ⟨rfl, _, World.drewN_drewN _ _ _⟩ | exact ⟨rfl, _, Eq.trans (World.drewN_drewN _ _ _) (congrArg (World.drewN _) (Nat.add_assoc _ _ _))⟩)) | (go_at_call 64; (with_reducible refine (provisoref02_Stored.calls _ _ l0 ((rd_T41 ((rd_T38 l0 a1).f2) x8_4).f1) true _ ?side1 ?side2 A55.out).mono ?_); (case side1 => repeat (first | exact (Kd.C_below HR0.out (by repeat (first | (with_reducible first | exact HB.out | apply below_alloc | apply pw_below_drewN | apply below_drew1 | refine below_set ?_ GE131.out | refine below_set ?_ GE139.out) | exact HB.out))) | (with_reducible refine Kd.C_alloc ?_ _) | (with_reducible refine Kd.C_drewN ?_ _) | (with_reducible refine Kd.C_drew ?_))); (case side2 => exact HC0.out); rintro e w' ⟨rfl, ⟨nd, rfl⟩⟩; (try first | exact ⟨rfl, _, World.drewN_drewN _ _ _⟩ | exact ⟨rfl, _, Eq.trans (World.drewN_drewN _ _ _) (congrArg (World.drewN _) (Nat.add_assoc _ _ _))⟩)))
                                            repeat (go_quiet (first | ((with_reducible refine gate_dst (N := 9) rfl ?_); refine box_event ?hg (N := 9) ?hd (cs := #[.string (⟨#[]⟩ : ByteArray), .int .u8 0]) (t := 41) ?hr ?_; (case hd => rfl); (case hg => rfl); (case hr => first | (go_simp; done) | (go_simp; rfl)); intro gb139 hg w58 hbox hb; have n0_ := Aside0.mk (Kd.R_below (Kd.R_elderB (by (with_reducible repeat (first | apply Kd.R_alloc | apply Kd.R_drewN | apply Kd.R_drew)); exact HO_7.out) gb139 (Nat.le_of_eq hg.symm)) hb); have n1_ := Aside0.mk (blk_below (g := gb131) (o := .cells #[.string ((rd_T38 l0 a1).f0), .int .i64 ((rd_T38 l0 a1).f1), .slice (some ad138) ((rd_T38 l0 a1).f2).length c130_2] 38 (0, 0)) (by (with_reducible repeat (first | refine blk_drewN ?_ _ | refine blk_drew ?_ | refine blk_alloc ?_ _)); exact BK131.out) hb); have n2_ := Aside0.mk (below_step (by repeat (first | (with_reducible first | exact HB.out | apply below_alloc | apply pw_below_drewN | apply below_drew1 | refine below_set ?_ GE131.out) | exact HB.out)) hb); have n3_ := Aside0.mk (hbox); have n4_ := Aside0.mk ((by rw [hg]; exact (below_size (by repeat (first | (with_reducible first | exact HB.out | apply below_alloc | apply pw_below_drewN | apply below_drew1 | refine below_set ?_ GE131.out) | exact HB.out))) : w.heap.size ≤ gb139)); have n5_ := Aside0.mk ((by rw [hg]; exact (below_size (by repeat (first | (with_reducible first | exact HB.out | apply below_alloc | apply pw_below_drewN | apply below_drew1 | refine below_set ?_ GE131.out) | exact HB.out))) : w.heap.size ≤ gb139)); have n6_ := Aside0.mk ((by rw [hg]; exact Nat.ne_of_lt (blk_lt (g := gb131) (o := .cells #[.string ((rd_T38 l0 a1).f0), .int .i64 ((rd_T38 l0 a1).f1), .slice (some ad138) ((rd_T38 l0 a1).f2).length c130_2] 38 (0, 0)) (by (with_reducible repeat (first | refine blk_drewN ?_ _ | refine blk_drew ?_ | refine blk_alloc ?_ _)); exact BK131.out)) : gb131 ≠ gb139)); have n7_ := Aside0.mk ((by rw [hg]; exact Nat.ne_of_gt (blk_lt (g := gb131) (o := .cells #[.string ((rd_T38 l0 a1).f0), .int .i64 ((rd_T38 l0 a1).f1), .slice (some ad138) ((rd_T38 l0 a1).f2).length c130_2] 38 (0, 0)) (by (with_reducible repeat (first | refine blk_drewN ?_ _ | refine blk_drew ?_ | refine blk_alloc ?_ _)); exact BK131.out)) : gb139 ≠ gb131)); clear HO_7; clear BK131; clear HB; have HO_7 := n0_; have BK131 := n1_; have HB := n2_; have BK139 := n3_; have GW139 := n4_; have GE139 := n5_; have NB131_139 := n6_; have NB139_131 := n7_; clear n0_ n1_ n2_ n3_ n4_ n5_ n6_ n7_; clear hb hbox hg; have hnb59 := NB139_131.out; have hnc59 := NB131_139.out; have hcz60_0 : w58.cell? ⟨gb139, 0, none⟩ = some (.string (⟨#[]⟩ : ByteArray)) := (blk_cell BK139.out 0).trans rfl; have hcz60_1 : w58.cell? ⟨gb139, 1, none⟩ = some (.int .u8 0) := (blk_cell BK139.out 1).trans rfl; have hfz60_0 := blk_frozen BK139.out 0; have hfz60_1 := blk_frozen BK139.out 1) | ((with_reducible refine gate_store (t := 41) (p := 9) rfl ?_); (try (rw [drewN_self w58]; generalize hq_ : World.drewN w58 _ = w58; have n0_ := Aside0.mk (Kd.R_at hq_ HO_7.out); have n1_ := Aside0.mk (blk_at hq_ BK131.out); have n2_ := Aside0.mk (blk_at hq_ BK139.out); have n3_ := Aside0.mk (below_at hq_ HB.out); clear hq_ HO_7 BK131 BK139 HB; have HO_7 := n0_; have BK131 := n1_; have BK139 := n2_; have HB := n3_; clear n0_ n1_ n2_ n3_)); refine store_event (t := 41) (p := 9) (v := ?vo_w61) (w1 := ((w58.setCell ⟨gb139, 0, none⟩ (.string ((rd_T41 ((rd_T38 l0 a1).f2) x8_4).f0))).setCell ⟨gb139, 1, none⟩ (.int .u8 ((rd_T41 ((rd_T38 l0 a1).f2) x8_4).f1)))) ?hg ?ho ?hn ?hr ?_; (case ho => rfl); (case hg => rfl); (case hn => rfl); (case hr => first | (go_simp; done) | (go_simp; rfl)); intro w61 hw; have n0_ : Aside0 (Kd.R k41 41 w61 w.heap.size (fun k_ => k_ ≠ gb139) v136 t135) := ⟨(by rw [hw]; exact (by (with_reducible repeat (first | apply Kd.R_alloc | apply Kd.R_drewN | apply Kd.R_drew)); exact Kd.R_mono (Kd.R_far (p := ⟨gb139, 1, none⟩) (Kd.R_far (p := ⟨gb139, 0, none⟩) (Kd.R_mono HO_7.out (fun k_ hk => (⟨hk, hk.2⟩ : _ ∧ k_ ≠ gb139))) (fun _ hk => hk.2) (.string ((rd_T41 ((rd_T38 l0 a1).f2) x8_4).f0))) (fun _ hk => hk.2) (.int .u8 ((rd_T41 ((rd_T38 l0 a1).f2) x8_4).f1))) (fun _ hk => hk.1.2)))⟩; have n1_ : Aside0 (w61.heap[gb131]? = some (.cells #[.string ((rd_T38 l0 a1).f0), .int .i64 ((rd_T38 l0 a1).f1), .slice (some ad138) ((rd_T38 l0 a1).f2).length c130_2] 38 (0, 0))) := ⟨(by rw [hw]; exact (by (with_reducible repeat (first | refine blk_drewN ?_ _ | refine blk_drew ?_ | refine blk_alloc ?_ _)); refine blk_far ?_ NB131_139.out _; (with_reducible repeat (first | refine blk_drewN ?_ _ | refine blk_drew ?_ | refine blk_alloc ?_ _)); refine blk_far ?_ NB131_139.out _; (with_reducible repeat (first | refine blk_drewN ?_ _ | refine blk_drew ?_ | refine blk_alloc ?_ _)); exact BK131.out))⟩; have n2_ : Aside0 (w61.heap[gb139]? = some (.cells #[.string ((rd_T41 ((rd_T38 l0 a1).f2) x8_4).f0), .int .u8 ((rd_T41 ((rd_T38 l0 a1).f2) x8_4).f1)] 41 (0, 0))) := ⟨(by rw [hw]; exact (by (with_reducible repeat (first | refine blk_drewN ?_ _ | refine blk_drew ?_ | refine blk_alloc ?_ _)); refine blk_put (cs := #[.string ((rd_T41 ((rd_T38 l0 a1).f2) x8_4).f0), .int .u8 0]) ?_ 1 _ rfl; (with_reducible repeat (first | refine blk_drewN ?_ _ | refine blk_drew ?_ | refine blk_alloc ?_ _)); refine blk_put (cs := #[.string (⟨#[]⟩ : ByteArray), .int .u8 0]) ?_ 0 _ rfl; (with_reducible repeat (first | refine blk_drewN ?_ _ | refine blk_drew ?_ | refine blk_alloc ?_ _)); exact BK139.out))⟩; have n3_ : Aside0 (Below w.heap.size w w61) := ⟨(by rw [hw]; exact (by repeat (first | (with_reducible first | exact HB.out | apply below_alloc | apply pw_below_drewN | apply below_drew1 | refine below_set ?_ GE131.out | refine below_set ?_ GE139.out) | exact HB.out)))⟩; clear hw; clear HO_7; clear BK131; clear BK139; clear HB; have HO_7 := n0_; have BK131 := n1_; have BK139 := n2_; have HB := n3_; clear n0_ n1_ n2_ n3_; have hcz62_0 : w61.cell? ⟨gb139, 0, none⟩ = some (.string ((rd_T41 ((rd_T38 l0 a1).f2) x8_4).f0)) := (blk_cell BK139.out 0).trans rfl; have hcz62_1 : w61.cell? ⟨gb139, 1, none⟩ = some (.int .u8 ((rd_T41 ((rd_T38 l0 a1).f2) x8_4).f1)) := (blk_cell BK139.out 1).trans rfl; have hfz62_0 := blk_frozen BK139.out 0; have hfz62_1 := blk_frozen BK139.out 1) | (go_at_call 61; (with_reducible refine (provisoref02_IsName.calls k4 ((rd_T41 ((rd_T38 l0 a1).f2) x8_4).f0) true _ A33.out).mono ?_); rintro e w' ⟨rfl, ⟨nd, rfl⟩⟩; (try first | exact ⟨rfl, _, World.drewN_drewN _ _ _⟩ | exact ⟨rfl, _, Eq.trans (World.drewN_drewN _ _ _) (congrArg (World.drewN _) (Nat.add_assoc _ _ _))⟩); obtain ⟨Ao63, co63, eo63⟩ := Kd.R_slice HO_7.out; subst eo63) | (go_at_call 63; (with_reducible refine (provisoref02_has.calls k4 _ _ t135 ((rd_T41 ((rd_T38 l0 a1).f2) x8_4).f0) false _ ?side1 ?side2 A35.out).mono ?_); (case side1 => repeat (first | exact (Kd.R_reads' HO_7.out).2.2 | (with_reducible refine Kd.C_alloc ?_ _) | (with_reducible refine Kd.C_drewN ?_ _) | (with_reducible refine Kd.C_drew ?_))); (case side2 => exact (Kd.R_reads' HO_7.out).2.1); rintro e w' ⟨rfl, ⟨nd, rfl⟩⟩; (try first | exact ⟨rfl, _, World.drewN_drewN _ _ _⟩ | exact ⟨rfl, _, Eq.trans (World.drewN_drewN _ _ _) (congrArg (World.drewN _) (Nat.add_assoc _ _ _))⟩); have hcz64_0 : w61.cell? ⟨gb131, 0, none⟩ = some (.string ((rd_T38 l0 a1).f0)) := (blk_cell BK131.out 0).trans rfl; have hcz64_1 : w61.cell? ⟨gb131, 1, none⟩ = some (.int .i64 ((rd_T38 l0 a1).f1)) := (blk_cell BK131.out 1).trans rfl; have hcz64_2 : w61.cell? ⟨gb131, 2, none⟩ = some (.slice (some ad138) ((rd_T38 l0 a1).f2).length c130_2) := (blk_cell BK131.out 2).trans rfl; have hfz64_0 := blk_frozen BK131.out 0; have hfz64_1 := blk_frozen BK131.out 1; have hfz64_2 := blk_frozen BK131.out 2; have q65 : (x8_4 : Int) ≤ ((((rd_T38 l0 a1).f2).length : Int) : Int) := of_decide_eq_true (by first | (with_reducible assumption) | assumption); obtain ⟨i065, hi065, _, hsz65, _⟩ := info_parts info41; have hroom65 : ((rd_T38 l0 a1).f2).length ≤ c130_2 := HC130_2.out; have hC65 : Kd.C k41 _ (some ad138) ((rd_T38 l0 a1).f2).length ((rd_T38 l0 a1).f2) := HR130_2.out; have hcut65 := cut_to (P := Tryz.prog) 36 41 .i64 Tryz.underlying36 hi065 (some ad138) ((rd_T38 l0 a1).f2).length c130_2 x8_4 (of_decide_eq_true (by first | (with_reducible assumption) | assumption)) q65 hroom65; have hr65 := Kd.C_take (m := (x8_4 : Int).toNat) hC65 (by omega); have hy65 : y142.length = (x8_4 : Int).toNat := (by rw [Ny142.out, List.length_take]; omega); rw [← Ny142.out] at hr65; rw [← hy65] at hcut65; have HR145 := Aside0.mk hr65; have HC145 := Aside0.mk (show y142.length ≤ c130_2 from by omega); clear hr65 hC65 hroom65 hi065 hsz65; have KY65 := Aside0.mk hy65; clear hy65; replace q65 := eq_true q65) | (go_at_call 63; (with_reducible refine (provisoref02_has.calls k4 _ _ y142 ((rd_T41 ((rd_T38 l0 a1).f2) x8_4).f0) false _ ?side1 ?side2 A44.out).mono ?_); (case side1 => repeat (first | exact (Kd.C_below HR145.out (by repeat (first | (with_reducible first | exact HB.out | apply below_alloc | apply pw_below_drewN | apply below_drew1 | refine below_set ?_ GE131.out | refine below_set ?_ GE139.out) | exact HB.out))) | (with_reducible refine Kd.C_alloc ?_ _) | (with_reducible refine Kd.C_drewN ?_ _) | (with_reducible refine Kd.C_drew ?_))); (case side2 => exact HC145.out); rintro e w' ⟨rfl, ⟨nd, rfl⟩⟩; (try first | exact ⟨rfl, _, World.drewN_drewN _ _ _⟩ | exact ⟨rfl, _, Eq.trans (World.drewN_drewN _ _ _) (congrArg (World.drewN _) (Nat.add_assoc _ _ _))⟩)) | (go_at_call 64; (with_reducible refine (provisoref02_Stored.calls _ _ l0 ((rd_T41 ((rd_T38 l0 a1).f2) x8_4).f1) true _ ?side1 ?side2 A55.out).mono ?_); (case side1 => repeat (first | exact (Kd.C_below HR0.out (by repeat (first | (with_reducible first | exact HB.out | apply below_alloc | apply pw_below_drewN | apply below_drew1 | refine below_set ?_ GE131.out | refine below_set ?_ GE139.out) | exact HB.out))) | (with_reducible refine Kd.C_alloc ?_ _) | (with_reducible refine Kd.C_drewN ?_ _) | (with_reducible refine Kd.C_drew ?_))); (case side2 => exact HC0.out); rintro e w' ⟨rfl, ⟨nd, rfl⟩⟩; (try first | exact ⟨rfl, _, World.drewN_drewN _ _ _⟩ | exact ⟨rfl, _, Eq.trans (World.drewN_drewN _ _ _) (congrArg (World.drewN _) (Nat.add_assoc _ _ _))⟩))); try go_wp2_with (first | ((with_reducible refine gate_dst (N := 9) rfl ?_); refine box_event ?hg (N := 9) ?hd (cs := #[.string (⟨#[]⟩ : ByteArray), .int .u8 0]) (t := 41) ?hr ?_; (case hd => rfl); (case hg => rfl); (case hr => first | (go_simp; done) | (go_simp; rfl)); intro gb139 hg w58 hbox hb; have n0_ := Aside0.mk (Kd.R_below (Kd.R_elderB (by (with_reducible repeat (first | apply Kd.R_alloc | apply Kd.R_drewN | apply Kd.R_drew)); exact HO_7.out) gb139 (Nat.le_of_eq hg.symm)) hb); have n1_ := Aside0.mk (blk_below (g := gb131) (o := .cells #[.string ((rd_T38 l0 a1).f0), .int .i64 ((rd_T38 l0 a1).f1), .slice (some ad138) ((rd_T38 l0 a1).f2).length c130_2] 38 (0, 0)) (by (with_reducible repeat (first | refine blk_drewN ?_ _ | refine blk_drew ?_ | refine blk_alloc ?_ _)); exact BK131.out) hb); have n2_ := Aside0.mk (below_step (by repeat (first | (with_reducible first | exact HB.out | apply below_alloc | apply pw_below_drewN | apply below_drew1 | refine below_set ?_ GE131.out) | exact HB.out)) hb); have n3_ := Aside0.mk (hbox); have n4_ := Aside0.mk ((by rw [hg]; exact (below_size (by repeat (first | (with_reducible first | exact HB.out | apply below_alloc | apply pw_below_drewN | apply below_drew1 | refine below_set ?_ GE131.out) | exact HB.out))) : w.heap.size ≤ gb139)); have n5_ := Aside0.mk ((by rw [hg]; exact (below_size (by repeat (first | (with_reducible first | exact HB.out | apply below_alloc | apply pw_below_drewN | apply below_drew1 | refine below_set ?_ GE131.out) | exact HB.out))) : w.heap.size ≤ gb139)); have n6_ := Aside0.mk ((by rw [hg]; exact Nat.ne_of_lt (blk_lt (g := gb131) (o := .cells #[.string ((rd_T38 l0 a1).f0), .int .i64 ((rd_T38 l0 a1).f1), .slice (some ad138) ((rd_T38 l0 a1).f2).length c130_2] 38 (0, 0)) (by (with_reducible repeat (first | refine blk_drewN ?_ _ | refine blk_drew ?_ | refine blk_alloc ?_ _)); exact BK131.out)) : gb131 ≠ gb139)); have n7_ := Aside0.mk ((by rw [hg]; exact Nat.ne_of_gt (blk_lt (g := gb131) (o := .cells #[.string ((rd_T38 l0 a1).f0), .int .i64 ((rd_T38 l0 a1).f1), .slice (some ad138) ((rd_T38 l0 a1).f2).length c130_2] 38 (0, 0)) (by (with_reducible repeat (first | refine blk_drewN ?_ _ | refine blk_drew ?_ | refine blk_alloc ?_ _)); exact BK131.out)) : gb139 ≠ gb131)); clear HO_7; clear BK131; clear HB; have HO_7 := n0_; have BK131 := n1_; have HB := n2_; have BK139 := n3_; have GW139 := n4_; have GE139 := n5_; have NB131_139 := n6_; have NB139_131 := n7_; clear n0_ n1_ n2_ n3_ n4_ n5_ n6_ n7_; clear hb hbox hg; have hnb59 := NB139_131.out; have hnc59 := NB131_139.out; have hcz60_0 : w58.cell? ⟨gb139, 0, none⟩ = some (.string (⟨#[]⟩ : ByteArray)) := (blk_cell BK139.out 0).trans rfl; have hcz60_1 : w58.cell? ⟨gb139, 1, none⟩ = some (.int .u8 0) := (blk_cell BK139.out 1).trans rfl; have hfz60_0 := blk_frozen BK139.out 0; have hfz60_1 := blk_frozen BK139.out 1) | ((with_reducible refine gate_store (t := 41) (p := 9) rfl ?_); (try (rw [drewN_self w58]; generalize hq_ : World.drewN w58 _ = w58; have n0_ := Aside0.mk (Kd.R_at hq_ HO_7.out); have n1_ := Aside0.mk (blk_at hq_ BK131.out); have n2_ := Aside0.mk (blk_at hq_ BK139.out); have n3_ := Aside0.mk (below_at hq_ HB.out); clear hq_ HO_7 BK131 BK139 HB; have HO_7 := n0_; have BK131 := n1_; have BK139 := n2_; have HB := n3_; clear n0_ n1_ n2_ n3_)); refine store_event (t := 41) (p := 9) (v := ?vo_w61) (w1 := ((w58.setCell ⟨gb139, 0, none⟩ (.string ((rd_T41 ((rd_T38 l0 a1).f2) x8_4).f0))).setCell ⟨gb139, 1, none⟩ (.int .u8 ((rd_T41 ((rd_T38 l0 a1).f2) x8_4).f1)))) ?hg ?ho ?hn ?hr ?_; (case ho => rfl); (case hg => rfl); (case hn => rfl); (case hr => first | (go_simp; done) | (go_simp; rfl)); intro w61 hw; have n0_ : Aside0 (Kd.R k41 41 w61 w.heap.size (fun k_ => k_ ≠ gb139) v136 t135) := ⟨(by rw [hw]; exact (by (with_reducible repeat (first | apply Kd.R_alloc | apply Kd.R_drewN | apply Kd.R_drew)); exact Kd.R_mono (Kd.R_far (p := ⟨gb139, 1, none⟩) (Kd.R_far (p := ⟨gb139, 0, none⟩) (Kd.R_mono HO_7.out (fun k_ hk => (⟨hk, hk.2⟩ : _ ∧ k_ ≠ gb139))) (fun _ hk => hk.2) (.string ((rd_T41 ((rd_T38 l0 a1).f2) x8_4).f0))) (fun _ hk => hk.2) (.int .u8 ((rd_T41 ((rd_T38 l0 a1).f2) x8_4).f1))) (fun _ hk => hk.1.2)))⟩; have n1_ : Aside0 (w61.heap[gb131]? = some (.cells #[.string ((rd_T38 l0 a1).f0), .int .i64 ((rd_T38 l0 a1).f1), .slice (some ad138) ((rd_T38 l0 a1).f2).length c130_2] 38 (0, 0))) := ⟨(by rw [hw]; exact (by (with_reducible repeat (first | refine blk_drewN ?_ _ | refine blk_drew ?_ | refine blk_alloc ?_ _)); refine blk_far ?_ NB131_139.out _; (with_reducible repeat (first | refine blk_drewN ?_ _ | refine blk_drew ?_ | refine blk_alloc ?_ _)); refine blk_far ?_ NB131_139.out _; (with_reducible repeat (first | refine blk_drewN ?_ _ | refine blk_drew ?_ | refine blk_alloc ?_ _)); exact BK131.out))⟩; have n2_ : Aside0 (w61.heap[gb139]? = some (.cells #[.string ((rd_T41 ((rd_T38 l0 a1).f2) x8_4).f0), .int .u8 ((rd_T41 ((rd_T38 l0 a1).f2) x8_4).f1)] 41 (0, 0))) := ⟨(by rw [hw]; exact (by (with_reducible repeat (first | refine blk_drewN ?_ _ | refine blk_drew ?_ | refine blk_alloc ?_ _)); refine blk_put (cs := #[.string ((rd_T41 ((rd_T38 l0 a1).f2) x8_4).f0), .int .u8 0]) ?_ 1 _ rfl; (with_reducible repeat (first | refine blk_drewN ?_ _ | refine blk_drew ?_ | refine blk_alloc ?_ _)); refine blk_put (cs := #[.string (⟨#[]⟩ : ByteArray), .int .u8 0]) ?_ 0 _ rfl; (with_reducible repeat (first | refine blk_drewN ?_ _ | refine blk_drew ?_ | refine blk_alloc ?_ _)); exact BK139.out))⟩; have n3_ : Aside0 (Below w.heap.size w w61) := ⟨(by rw [hw]; exact (by repeat (first | (with_reducible first | exact HB.out | apply below_alloc | apply pw_below_drewN | apply below_drew1 | refine below_set ?_ GE131.out | refine below_set ?_ GE139.out) | exact HB.out)))⟩; clear hw; clear HO_7; clear BK131; clear BK139; clear HB; have HO_7 := n0_; have BK131 := n1_; have BK139 := n2_; have HB := n3_; clear n0_ n1_ n2_ n3_; have hcz62_0 : w61.cell? ⟨gb139, 0, none⟩ = some (.string ((rd_T41 ((rd_T38 l0 a1).f2) x8_4).f0)) := (blk_cell BK139.out 0).trans rfl; have hcz62_1 : w61.cell? ⟨gb139, 1, none⟩ = some (.int .u8 ((rd_T41 ((rd_T38 l0 a1).f2) x8_4).f1)) := (blk_cell BK139.out 1).trans rfl; have hfz62_0 := blk_frozen BK139.out 0; have hfz62_1 := blk_frozen BK139.out 1) | (go_at_call 61; (with_reducible refine (provisoref02_IsName.calls k4 ((rd_T41 ((rd_T38 l0 a1).f2) x8_4).f0) true _ A33.out).mono ?_); rintro e w' ⟨rfl, ⟨nd, rfl⟩⟩; (try first | exact ⟨rfl, _, World.drewN_drewN _ _ _⟩ | exact ⟨rfl, _, Eq.trans (World.drewN_drewN _ _ _) (congrArg (World.drewN _) (Nat.add_assoc _ _ _))⟩); obtain ⟨Ao63, co63, eo63⟩ := Kd.R_slice HO_7.out; subst eo63) | (go_at_call 63; (with_reducible refine (provisoref02_has.calls k4 _ _ t135 ((rd_T41 ((rd_T38 l0 a1).f2) x8_4).f0) false _ ?side1 ?side2 A35.out).mono ?_); (case side1 => repeat (first | exact (Kd.R_reads' HO_7.out).2.2 | (with_reducible refine Kd.C_alloc ?_ _) | (with_reducible refine Kd.C_drewN ?_ _) | (with_reducible refine Kd.C_drew ?_))); (case side2 => exact (Kd.R_reads' HO_7.out).2.1); rintro e w' ⟨rfl, ⟨nd, rfl⟩⟩; (try first | exact ⟨rfl, _, World.drewN_drewN _ _ _⟩ | exact ⟨rfl, _, Eq.trans (World.drewN_drewN _ _ _) (congrArg (World.drewN _) (Nat.add_assoc _ _ _))⟩); have hcz64_0 : w61.cell? ⟨gb131, 0, none⟩ = some (.string ((rd_T38 l0 a1).f0)) := (blk_cell BK131.out 0).trans rfl; have hcz64_1 : w61.cell? ⟨gb131, 1, none⟩ = some (.int .i64 ((rd_T38 l0 a1).f1)) := (blk_cell BK131.out 1).trans rfl; have hcz64_2 : w61.cell? ⟨gb131, 2, none⟩ = some (.slice (some ad138) ((rd_T38 l0 a1).f2).length c130_2) := (blk_cell BK131.out 2).trans rfl; have hfz64_0 := blk_frozen BK131.out 0; have hfz64_1 := blk_frozen BK131.out 1; have hfz64_2 := blk_frozen BK131.out 2; have q65 : (x8_4 : Int) ≤ ((((rd_T38 l0 a1).f2).length : Int) : Int) := of_decide_eq_true (by first | (with_reducible assumption) | assumption); obtain ⟨i065, hi065, _, hsz65, _⟩ := info_parts info41; have hroom65 : ((rd_T38 l0 a1).f2).length ≤ c130_2 := HC130_2.out; have hC65 : Kd.C k41 _ (some ad138) ((rd_T38 l0 a1).f2).length ((rd_T38 l0 a1).f2) := HR130_2.out; have hcut65 := cut_to (P := Tryz.prog) 36 41 .i64 Tryz.underlying36 hi065 (some ad138) ((rd_T38 l0 a1).f2).length c130_2 x8_4 (of_decide_eq_true (by first | (with_reducible assumption) | assumption)) q65 hroom65; have hr65 := Kd.C_take (m := (x8_4 : Int).toNat) hC65 (by omega); have hy65 : y142.length = (x8_4 : Int).toNat := (by rw [Ny142.out, List.length_take]; omega); rw [← Ny142.out] at hr65; rw [← hy65] at hcut65; have HR145 := Aside0.mk hr65; have HC145 := Aside0.mk (show y142.length ≤ c130_2 from by omega); clear hr65 hC65 hroom65 hi065 hsz65; have KY65 := Aside0.mk hy65; clear hy65; replace q65 := eq_true q65) | (go_at_call 63; (with_reducible refine (provisoref02_has.calls k4 _ _ y142 ((rd_T41 ((rd_T38 l0 a1).f2) x8_4).f0) false _ ?side1 ?side2 A44.out).mono ?_); (case side1 => repeat (first | exact (Kd.C_below HR145.out (by repeat (first | (with_reducible first | exact HB.out | apply below_alloc | apply pw_below_drewN | apply below_drew1 | refine below_set ?_ GE131.out | refine below_set ?_ GE139.out) | exact HB.out))) | (with_reducible refine Kd.C_alloc ?_ _) | (with_reducible refine Kd.C_drewN ?_ _) | (with_reducible refine Kd.C_drew ?_))); (case side2 => exact HC145.out); rintro e w' ⟨rfl, ⟨nd, rfl⟩⟩; (try first | exact ⟨rfl, _, World.drewN_drewN _ _ _⟩ | exact ⟨rfl, _, Eq.trans (World.drewN_drewN _ _ _) (congrArg (World.drewN _) (Nat.add_assoc _ _ _))⟩)) | (go_at_call 64; (with_reducible refine (provisoref02_Stored.calls _ _ l0 ((rd_T41 ((rd_T38 l0 a1).f2) x8_4).f1) true _ ?side1 ?side2 A55.out).mono ?_); (case side1 => repeat (first | exact (Kd.C_below HR0.out (by repeat (first | (with_reducible first | exact HB.out | apply below_alloc | apply pw_below_drewN | apply below_drew1 | refine below_set ?_ GE131.out | refine below_set ?_ GE139.out) | exact HB.out))) | (with_reducible refine Kd.C_alloc ?_ _) | (with_reducible refine Kd.C_drewN ?_ _) | (with_reducible refine Kd.C_drew ?_))); (case side2 => exact HC0.out); rintro e w' ⟨rfl, ⟨nd, rfl⟩⟩; (try first | exact ⟨rfl, _, World.drewN_drewN _ _ _⟩ | exact ⟨rfl, _, Eq.trans (World.drewN_drewN _ _ _) (congrArg (World.drewN _) (Nat.add_assoc _ _ _))⟩))))
                                            go_roundg k4
                                            case measure => have := HJ7.out; have := HK2.out; have := HJ22.out; have := HK4.out; omega
                                            case rel => exact ⟨(wrap64 (x8_4 + 1)), (by first | rfl | (simp; done) | (simp [*]; done)), H', ⟨by have := HJ7.out; have := HK2.out; have := HJ22.out; have := HK4.out; omega⟩, ⟨by (with_reducible repeat (first | apply Kd.R_alloc | apply Kd.R_drewN | apply Kd.R_drew)); exact Kd.R_mono HO_7.out (fun _ hk => trivial)⟩, ⟨by (with_reducible repeat (first | refine blk_drewN ?_ _ | refine blk_drew ?_ | refine blk_alloc ?_ _)); exact BK131.out⟩, ⟨by repeat (first | (with_reducible first | exact HB.out | apply below_alloc | apply pw_below_drewN | apply below_drew1 | refine below_set ?_ GE131.out | refine below_set ?_ GE139.out) | exact HB.out)⟩⟩
                                          · replace c56 := Bool.eq_false_iff.mpr c56
                                            subst c56
                                            have H1 : (some 22) = some r := by rw [if_neg (show ¬ (false = true) by decide)] at H; exact H
                                            clear H
                                            have H := H1
                                            clear H1
                                            obtain rfl := Option.some.inj H
                                            have hcz66_0 : wr.cell? ⟨gb131, 0, none⟩ = some (.string ((rd_T38 l0 a1).f0)) := (blk_cell BK131.out 0).trans rfl
                                            have hcz66_1 : wr.cell? ⟨gb131, 1, none⟩ = some (.int .i64 ((rd_T38 l0 a1).f1)) := (blk_cell BK131.out 1).trans rfl
                                            have hcz66_2 : wr.cell? ⟨gb131, 2, none⟩ = some (.slice A130_2 ((rd_T38 l0 a1).f2).length c130_2) := (blk_cell BK131.out 2).trans rfl
                                            have hfz66_0 := blk_frozen BK131.out 0
                                            have hfz66_1 := blk_frozen BK131.out 1
                                            have hfz66_2 := blk_frozen BK131.out 2
                                            have p138 : 0 ≤ (x8_4 : Int) := of_decide_eq_true (by first | (with_reducible assumption) | assumption)
                                            have q138 : x8_4 < (((rd_T38 l0 a1).f2).length : Int) := of_decide_eq_true (by first | (with_reducible assumption) | assumption)
                                            obtain ⟨ad138, e138, hx138_0, hx138_1⟩ := at_T41 HR130_2.out x8_4 p138 q138
                                            cases e138
                                            replace hx138_0 := (HB.out.cell (World.block_lt_of_cell? w _ hx138_0)).trans hx138_0
                                            replace hx138_1 := (HB.out.cell (World.block_lt_of_cell? w _ hx138_1)).trans hx138_1
                                            replace p138 := eq_true p138
                                            replace q138 := eq_true q138
                                            go_wp2_with (first | ((with_reducible refine gate_dst (N := 9) rfl ?_); refine box_event ?hg (N := 9) ?hd (cs := #[.string (⟨#[]⟩ : ByteArray), .int .u8 0]) (t := 41) ?hr ?_; (case hd => rfl); (case hg => rfl); (case hr => first | (go_simp; done) | (go_simp; rfl)); intro gb139 hg w67 hbox hb; have n0_ := Aside0.mk (Kd.R_below (Kd.R_elderB (by (with_reducible repeat (first | apply Kd.R_alloc | apply Kd.R_drewN | apply Kd.R_drew)); exact HO_7.out) gb139 (Nat.le_of_eq hg.symm)) hb); have n1_ := Aside0.mk (blk_below (g := gb131) (o := .cells #[.string ((rd_T38 l0 a1).f0), .int .i64 ((rd_T38 l0 a1).f1), .slice (some ad138) ((rd_T38 l0 a1).f2).length c130_2] 38 (0, 0)) (by (with_reducible repeat (first | refine blk_drewN ?_ _ | refine blk_drew ?_ | refine blk_alloc ?_ _)); exact BK131.out) hb); have n2_ := Aside0.mk (below_step (by repeat (first | (with_reducible first | exact HB.out | apply below_alloc | apply pw_below_drewN | apply below_drew1 | refine below_set ?_ GE131.out) | exact HB.out)) hb); have n3_ := Aside0.mk (hbox); have n4_ := Aside0.mk ((by rw [hg]; exact (below_size (by repeat (first | (with_reducible first | exact HB.out | apply below_alloc | apply pw_below_drewN | apply below_drew1 | refine below_set ?_ GE131.out) | exact HB.out))) : w.heap.size ≤ gb139)); have n5_ := Aside0.mk ((by rw [hg]; exact (below_size (by repeat (first | (with_reducible first | exact HB.out | apply below_alloc | apply pw_below_drewN | apply below_drew1 | refine below_set ?_ GE131.out) | exact HB.out))) : w.heap.size ≤ gb139)); have n6_ := Aside0.mk ((by rw [hg]; exact Nat.ne_of_lt (blk_lt (g := gb131) (o := .cells #[.string ((rd_T38 l0 a1).f0), .int .i64 ((rd_T38 l0 a1).f1), .slice (some ad138) ((rd_T38 l0 a1).f2).length c130_2] 38 (0, 0)) (by (with_reducible repeat (first | refine blk_drewN ?_ _ | refine blk_drew ?_ | refine blk_alloc ?_ _)); exact BK131.out)) : gb131 ≠ gb139)); have n7_ := Aside0.mk ((by rw [hg]; exact Nat.ne_of_gt (blk_lt (g := gb131) (o := .cells #[.string ((rd_T38 l0 a1).f0), .int .i64 ((rd_T38 l0 a1).f1), .slice (some ad138) ((rd_T38 l0 a1).f2).length c130_2] 38 (0, 0)) (by (with_reducible repeat (first | refine blk_drewN ?_ _ | refine blk_drew ?_ | refine blk_alloc ?_ _)); exact BK131.out)) : gb139 ≠ gb131)); clear HO_7; clear BK131; clear HB; have HO_7 := n0_; have BK131 := n1_; have HB := n2_; have BK139 := n3_; have GW139 := n4_; have GE139 := n5_; have NB131_139 := n6_; have NB139_131 := n7_; clear n0_ n1_ n2_ n3_ n4_ n5_ n6_ n7_; clear hb hbox hg; have hnb68 := NB139_131.out; have hnc68 := NB131_139.out; have hcz69_0 : w67.cell? ⟨gb139, 0, none⟩ = some (.string (⟨#[]⟩ : ByteArray)) := (blk_cell BK139.out 0).trans rfl; have hcz69_1 : w67.cell? ⟨gb139, 1, none⟩ = some (.int .u8 0) := (blk_cell BK139.out 1).trans rfl; have hfz69_0 := blk_frozen BK139.out 0; have hfz69_1 := blk_frozen BK139.out 1) | ((with_reducible refine gate_store (t := 41) (p := 9) rfl ?_); (try (rw [drewN_self w67]; generalize hq_ : World.drewN w67 _ = w67; have n0_ := Aside0.mk (Kd.R_at hq_ HO_7.out); have n1_ := Aside0.mk (blk_at hq_ BK131.out); have n2_ := Aside0.mk (blk_at hq_ BK139.out); have n3_ := Aside0.mk (below_at hq_ HB.out); clear hq_ HO_7 BK131 BK139 HB; have HO_7 := n0_; have BK131 := n1_; have BK139 := n2_; have HB := n3_; clear n0_ n1_ n2_ n3_)); refine store_event (t := 41) (p := 9) (v := ?vo_w70) (w1 := ((w67.setCell ⟨gb139, 0, none⟩ (.string ((rd_T41 ((rd_T38 l0 a1).f2) x8_4).f0))).setCell ⟨gb139, 1, none⟩ (.int .u8 ((rd_T41 ((rd_T38 l0 a1).f2) x8_4).f1)))) ?hg ?ho ?hn ?hr ?_; (case ho => rfl); (case hg => rfl); (case hn => rfl); (case hr => first | (go_simp; done) | (go_simp; rfl)); intro w70 hw; have n0_ : Aside0 (Kd.R k41 41 w70 w.heap.size (fun k_ => k_ ≠ gb139) v136 t135) := ⟨(by rw [hw]; exact (by (with_reducible repeat (first | apply Kd.R_alloc | apply Kd.R_drewN | apply Kd.R_drew)); exact Kd.R_mono (Kd.R_far (p := ⟨gb139, 1, none⟩) (Kd.R_far (p := ⟨gb139, 0, none⟩) (Kd.R_mono HO_7.out (fun k_ hk => (⟨hk, hk.2⟩ : _ ∧ k_ ≠ gb139))) (fun _ hk => hk.2) (.string ((rd_T41 ((rd_T38 l0 a1).f2) x8_4).f0))) (fun _ hk => hk.2) (.int .u8 ((rd_T41 ((rd_T38 l0 a1).f2) x8_4).f1))) (fun _ hk => hk.1.2)))⟩; have n1_ : Aside0 (w70.heap[gb131]? = some (.cells #[.string ((rd_T38 l0 a1).f0), .int .i64 ((rd_T38 l0 a1).f1), .slice (some ad138) ((rd_T38 l0 a1).f2).length c130_2] 38 (0, 0))) := ⟨(by rw [hw]; exact (by (with_reducible repeat (first | refine blk_drewN ?_ _ | refine blk_drew ?_ | refine blk_alloc ?_ _)); refine blk_far ?_ NB131_139.out _; (with_reducible repeat (first | refine blk_drewN ?_ _ | refine blk_drew ?_ | refine blk_alloc ?_ _)); refine blk_far ?_ NB131_139.out _; (with_reducible repeat (first | refine blk_drewN ?_ _ | refine blk_drew ?_ | refine blk_alloc ?_ _)); exact BK131.out))⟩; have n2_ : Aside0 (w70.heap[gb139]? = some (.cells #[.string ((rd_T41 ((rd_T38 l0 a1).f2) x8_4).f0), .int .u8 ((rd_T41 ((rd_T38 l0 a1).f2) x8_4).f1)] 41 (0, 0))) := ⟨(by rw [hw]; exact (by (with_reducible repeat (first | refine blk_drewN ?_ _ | refine blk_drew ?_ | refine blk_alloc ?_ _)); refine blk_put (cs := #[.string ((rd_T41 ((rd_T38 l0 a1).f2) x8_4).f0), .int .u8 0]) ?_ 1 _ rfl; (with_reducible repeat (first | refine blk_drewN ?_ _ | refine blk_drew ?_ | refine blk_alloc ?_ _)); refine blk_put (cs := #[.string (⟨#[]⟩ : ByteArray), .int .u8 0]) ?_ 0 _ rfl; (with_reducible repeat (first | refine blk_drewN ?_ _ | refine blk_drew ?_ | refine blk_alloc ?_ _)); exact BK139.out))⟩; have n3_ : Aside0 (Below w.heap.size w w70) := ⟨(by rw [hw]; exact (by repeat (first | (with_reducible first | exact HB.out | apply below_alloc | apply pw_below_drewN | apply below_drew1 | refine below_set ?_ GE131.out | refine below_set ?_ GE139.out) | exact HB.out)))⟩; clear hw; clear HO_7; clear BK131; clear BK139; clear HB; have HO_7 := n0_; have BK131 := n1_; have BK139 := n2_; have HB := n3_; clear n0_ n1_ n2_ n3_; have hcz71_0 : w70.cell? ⟨gb139, 0, none⟩ = some (.string ((rd_T41 ((rd_T38 l0 a1).f2) x8_4).f0)) := (blk_cell BK139.out 0).trans rfl; have hcz71_1 : w70.cell? ⟨gb139, 1, none⟩ = some (.int .u8 ((rd_T41 ((rd_T38 l0 a1).f2) x8_4).f1)) := (blk_cell BK139.out 1).trans rfl; have hfz71_0 := blk_frozen BK139.out 0; have hfz71_1 := blk_frozen BK139.out 1) | (go_at_call 61; (with_reducible refine (provisoref02_IsName.calls k4 ((rd_T41 ((rd_T38 l0 a1).f2) x8_4).f0) true _ A33.out).mono ?_); rintro e w' ⟨rfl, ⟨nd, rfl⟩⟩; (try first | exact ⟨rfl, _, World.drewN_drewN _ _ _⟩ | exact ⟨rfl, _, Eq.trans (World.drewN_drewN _ _ _) (congrArg (World.drewN _) (Nat.add_assoc _ _ _))⟩); obtain ⟨Ao72, co72, eo72⟩ := Kd.R_slice HO_7.out; subst eo72) | (go_at_call 63; (with_reducible refine (provisoref02_has.calls k4 _ _ t135 ((rd_T41 ((rd_T38 l0 a1).f2) x8_4).f0) false _ ?side1 ?side2 A35.out).mono ?_); (case side1 => repeat (first | exact (Kd.R_reads' HO_7.out).2.2 | (with_reducible refine Kd.C_alloc ?_ _) | (with_reducible refine Kd.C_drewN ?_ _) | (with_reducible refine Kd.C_drew ?_))); (case side2 => exact (Kd.R_reads' HO_7.out).2.1); rintro e w' ⟨rfl, ⟨nd, rfl⟩⟩; (try first | exact ⟨rfl, _, World.drewN_drewN _ _ _⟩ | exact ⟨rfl, _, Eq.trans (World.drewN_drewN _ _ _) (congrArg (World.drewN _) (Nat.add_assoc _ _ _))⟩); have hcz73_0 : w70.cell? ⟨gb131, 0, none⟩ = some (.string ((rd_T38 l0 a1).f0)) := (blk_cell BK131.out 0).trans rfl; have hcz73_1 : w70.cell? ⟨gb131, 1, none⟩ = some (.int .i64 ((rd_T38 l0 a1).f1)) := (blk_cell BK131.out 1).trans rfl; have hcz73_2 : w70.cell? ⟨gb131, 2, none⟩ = some (.slice (some ad138) ((rd_T38 l0 a1).f2).length c130_2) := (blk_cell BK131.out 2).trans rfl; have hfz73_0 := blk_frozen BK131.out 0; have hfz73_1 := blk_frozen BK131.out 1; have hfz73_2 := blk_frozen BK131.out 2; have q74 : (x8_4 : Int) ≤ ((((rd_T38 l0 a1).f2).length : Int) : Int) := of_decide_eq_true (by first | (with_reducible assumption) | assumption); obtain ⟨i074, hi074, _, hsz74, _⟩ := info_parts info41; have hroom74 : ((rd_T38 l0 a1).f2).length ≤ c130_2 := HC130_2.out; have hC74 : Kd.C k41 _ (some ad138) ((rd_T38 l0 a1).f2).length ((rd_T38 l0 a1).f2) := HR130_2.out; have hcut74 := cut_to (P := Tryz.prog) 36 41 .i64 Tryz.underlying36 hi074 (some ad138) ((rd_T38 l0 a1).f2).length c130_2 x8_4 (of_decide_eq_true (by first | (with_reducible assumption) | assumption)) q74 hroom74; have hr74 := Kd.C_take (m := (x8_4 : Int).toNat) hC74 (by omega); have hy74 : y142.length = (x8_4 : Int).toNat := (by rw [Ny142.out, List.length_take]; omega); rw [← Ny142.out] at hr74; rw [← hy74] at hcut74; have HR145 := Aside0.mk hr74; have HC145 := Aside0.mk (show y142.length ≤ c130_2 from by omega); clear hr74 hC74 hroom74 hi074 hsz74; have KY74 := Aside0.mk hy74; clear hy74; replace q74 := eq_true q74) | (go_at_call 63; (with_reducible refine (provisoref02_has.calls k4 _ _ y142 ((rd_T41 ((rd_T38 l0 a1).f2) x8_4).f0) false _ ?side1 ?side2 A44.out).mono ?_); (case side1 => repeat (first | exact (Kd.C_below HR145.out (by repeat (first | (with_reducible first | exact HB.out | apply below_alloc | apply pw_below_drewN | apply below_drew1 | refine below_set ?_ GE131.out | refine below_set ?_ GE139.out) | exact HB.out))) | (with_reducible refine Kd.C_alloc ?_ _) | (with_reducible refine Kd.C_drewN ?_ _) | (with_reducible refine Kd.C_drew ?_))); (case side2 => exact HC145.out); rintro e w' ⟨rfl, ⟨nd, rfl⟩⟩; (try first | exact ⟨rfl, _, World.drewN_drewN _ _ _⟩ | exact ⟨rfl, _, Eq.trans (World.drewN_drewN _ _ _) (congrArg (World.drewN _) (Nat.add_assoc _ _ _))⟩)) | (go_at_call 64; (with_reducible refine (provisoref02_Stored.calls _ _ l0 ((rd_T41 ((rd_T38 l0 a1).f2) x8_4).f1) false _ ?side1 ?side2 A55.out).mono ?_); (case side1 => repeat (first | exact (Kd.C_below HR0.out (by repeat (first | (with_reducible first | exact HB.out | apply below_alloc | apply pw_below_drewN | apply below_drew1 | refine below_set ?_ GE131.out | refine below_set ?_ GE139.out) | exact HB.out))) | (with_reducible refine Kd.C_alloc ?_ _) | (with_reducible refine Kd.C_drewN ?_ _) | (with_reducible refine Kd.C_drew ?_))); (case side2 => exact HC0.out); rintro e w' ⟨rfl, ⟨nd, rfl⟩⟩; (try first | exact ⟨rfl, _, World.drewN_drewN _ _ _⟩ | exact ⟨rfl, _, Eq.trans (World.drewN_drewN _ _ _) (congrArg (World.drewN _) (Nat.add_assoc _ _ _))⟩)))
                                            repeat (go_quiet (first | ((with_reducible refine gate_dst (N := 9) rfl ?_); refine box_event ?hg (N := 9) ?hd (cs := #[.string (⟨#[]⟩ : ByteArray), .int .u8 0]) (t := 41) ?hr ?_; (case hd => rfl); (case hg => rfl); (case hr => first | (go_simp; done) | (go_simp; rfl)); intro gb139 hg w67 hbox hb; have n0_ := Aside0.mk (Kd.R_below (Kd.R_elderB (by (with_reducible repeat (first | apply Kd.R_alloc | apply Kd.R_drewN | apply Kd.R_drew)); exact HO_7.out) gb139 (Nat.le_of_eq hg.symm)) hb); have n1_ := Aside0.mk (blk_below (g := gb131) (o := .cells #[.string ((rd_T38 l0 a1).f0), .int .i64 ((rd_T38 l0 a1).f1), .slice (some ad138) ((rd_T38 l0 a1).f2).length c130_2] 38 (0, 0)) (by (with_reducible repeat (first | refine blk_drewN ?_ _ | refine blk_drew ?_ | refine blk_alloc ?_ _)); exact BK131.out) hb); have n2_ := Aside0.mk (below_step (by repeat (first | (with_reducible first | exact HB.out | apply below_alloc | apply pw_below_drewN | apply below_drew1 | refine below_set ?_ GE131.out) | exact HB.out)) hb); have n3_ := Aside0.mk (hbox); have n4_ := Aside0.mk ((by rw [hg]; exact (below_size (by repeat (first | (with_reducible first | exact HB.out | apply below_alloc | apply pw_below_drewN | apply below_drew1 | refine below_set ?_ GE131.out) | exact HB.out))) : w.heap.size ≤ gb139)); have n5_ := Aside0.mk ((by rw [hg]; exact (below_size (by repeat (first | (with_reducible first | exact HB.out | apply below_alloc | apply pw_below_drewN | apply below_drew1 | refine below_set ?_ GE131.out) | exact HB.out))) : w.heap.size ≤ gb139)); have n6_ := Aside0.mk ((by rw [hg]; exact Nat.ne_of_lt (blk_lt (g := gb131) (o := .cells #[.string ((rd_T38 l0 a1).f0), .int .i64 ((rd_T38 l0 a1).f1), .slice (some ad138) ((rd_T38 l0 a1).f2).length c130_2] 38 (0, 0)) (by (with_reducible repeat (first | refine blk_drewN ?_ _ | refine blk_drew ?_ | refine blk_alloc ?_ _)); exact BK131.out)) : gb131 ≠ gb139)); have n7_ := Aside0.mk ((by rw [hg]; exact Nat.ne_of_gt (blk_lt (g := gb131) (o := .cells #[.string ((rd_T38 l0 a1).f0), .int .i64 ((rd_T38 l0 a1).f1), .slice (some ad138) ((rd_T38 l0 a1).f2).length c130_2] 38 (0, 0)) (by (with_reducible repeat (first | refine blk_drewN ?_ _ | refine blk_drew ?_ | refine blk_alloc ?_ _)); exact BK131.out)) : gb139 ≠ gb131)); clear HO_7; clear BK131; clear HB; have HO_7 := n0_; have BK131 := n1_; have HB := n2_; have BK139 := n3_; have GW139 := n4_; have GE139 := n5_; have NB131_139 := n6_; have NB139_131 := n7_; clear n0_ n1_ n2_ n3_ n4_ n5_ n6_ n7_; clear hb hbox hg; have hnb68 := NB139_131.out; have hnc68 := NB131_139.out; have hcz69_0 : w67.cell? ⟨gb139, 0, none⟩ = some (.string (⟨#[]⟩ : ByteArray)) := (blk_cell BK139.out 0).trans rfl; have hcz69_1 : w67.cell? ⟨gb139, 1, none⟩ = some (.int .u8 0) := (blk_cell BK139.out 1).trans rfl; have hfz69_0 := blk_frozen BK139.out 0; have hfz69_1 := blk_frozen BK139.out 1) | ((with_reducible refine gate_store (t := 41) (p := 9) rfl ?_); (try (rw [drewN_self w67]; generalize hq_ : World.drewN w67 _ = w67; have n0_ := Aside0.mk (Kd.R_at hq_ HO_7.out); have n1_ := Aside0.mk (blk_at hq_ BK131.out); have n2_ := Aside0.mk (blk_at hq_ BK139.out); have n3_ := Aside0.mk (below_at hq_ HB.out); clear hq_ HO_7 BK131 BK139 HB; have HO_7 := n0_; have BK131 := n1_; have BK139 := n2_; have HB := n3_; clear n0_ n1_ n2_ n3_)); refine store_event (t := 41) (p := 9) (v := ?vo_w70) (w1 := ((w67.setCell ⟨gb139, 0, none⟩ (.string ((rd_T41 ((rd_T38 l0 a1).f2) x8_4).f0))).setCell ⟨gb139, 1, none⟩ (.int .u8 ((rd_T41 ((rd_T38 l0 a1).f2) x8_4).f1)))) ?hg ?ho ?hn ?hr ?_; (case ho => rfl); (case hg => rfl); (case hn => rfl); (case hr => first | (go_simp; done) | (go_simp; rfl)); intro w70 hw; have n0_ : Aside0 (Kd.R k41 41 w70 w.heap.size (fun k_ => k_ ≠ gb139) v136 t135) := ⟨(by rw [hw]; exact (by (with_reducible repeat (first | apply Kd.R_alloc | apply Kd.R_drewN | apply Kd.R_drew)); exact Kd.R_mono (Kd.R_far (p := ⟨gb139, 1, none⟩) (Kd.R_far (p := ⟨gb139, 0, none⟩) (Kd.R_mono HO_7.out (fun k_ hk => (⟨hk, hk.2⟩ : _ ∧ k_ ≠ gb139))) (fun _ hk => hk.2) (.string ((rd_T41 ((rd_T38 l0 a1).f2) x8_4).f0))) (fun _ hk => hk.2) (.int .u8 ((rd_T41 ((rd_T38 l0 a1).f2) x8_4).f1))) (fun _ hk => hk.1.2)))⟩; have n1_ : Aside0 (w70.heap[gb131]? = some (.cells #[.string ((rd_T38 l0 a1).f0), .int .i64 ((rd_T38 l0 a1).f1), .slice (some ad138) ((rd_T38 l0 a1).f2).length c130_2] 38 (0, 0))) := ⟨(by rw [hw]; exact (by (with_reducible repeat (first | refine blk_drewN ?_ _ | refine blk_drew ?_ | refine blk_alloc ?_ _)); refine blk_far ?_ NB131_139.out _; (with_reducible repeat (first | refine blk_drewN ?_ _ | refine blk_drew ?_ | refine blk_alloc ?_ _)); refine blk_far ?_ NB131_139.out _; (with_reducible repeat (first | refine blk_drewN ?_ _ | refine blk_drew ?_ | refine blk_alloc ?_ _)); exact BK131.out))⟩; have n2_ : Aside0 (w70.heap[gb139]? = some (.cells #[.string ((rd_T41 ((rd_T38 l0 a1).f2) x8_4).f0), .int .u8 ((rd_T41 ((rd_T38 l0 a1).f2) x8_4).f1)] 41 (0, 0))) := ⟨(by rw [hw]; exact (by (with_reducible repeat (first | refine blk_drewN ?_ _ | refine blk_drew ?_ | refine blk_alloc ?_ _)); refine blk_put (cs := #[.string ((rd_T41 ((rd_T38 l0 a1).f2) x8_4).f0), .int .u8 0]) ?_ 1 _ rfl; (with_reducible repeat (first | refine blk_drewN ?_ _ | refine blk_drew ?_ | refine blk_alloc ?_ _)); refine blk_put (cs := #[.string (⟨#[]⟩ : ByteArray), .int .u8 0]) ?_ 0 _ rfl; (with_reducible repeat (first | refine blk_drewN ?_ _ | refine blk_drew ?_ | refine blk_alloc ?_ _)); exact BK139.out))⟩; have n3_ : Aside0 (Below w.heap.size w w70) := ⟨(by rw [hw]; exact (by repeat (first | (with_reducible first | exact HB.out | apply below_alloc | apply pw_below_drewN | apply below_drew1 | refine below_set ?_ GE131.out | refine below_set ?_ GE139.out) | exact HB.out)))⟩; clear hw; clear HO_7; clear BK131; clear BK139; clear HB; have HO_7 := n0_; have BK131 := n1_; have BK139 := n2_; have HB := n3_; clear n0_ n1_ n2_ n3_; have hcz71_0 : w70.cell? ⟨gb139, 0, none⟩ = some (.string ((rd_T41 ((rd_T38 l0 a1).f2) x8_4).f0)) := (blk_cell BK139.out 0).trans rfl; have hcz71_1 : w70.cell? ⟨gb139, 1, none⟩ = some (.int .u8 ((rd_T41 ((rd_T38 l0 a1).f2) x8_4).f1)) := (blk_cell BK139.out 1).trans rfl; have hfz71_0 := blk_frozen BK139.out 0; have hfz71_1 := blk_frozen BK139.out 1) | (go_at_call 61; (with_reducible refine (provisoref02_IsName.calls k4 ((rd_T41 ((rd_T38 l0 a1).f2) x8_4).f0) true _ A33.out).mono ?_); rintro e w' ⟨rfl, ⟨nd, rfl⟩⟩; (try first | exact ⟨rfl, _, World.drewN_drewN _ _ _⟩ | exact ⟨rfl, _, Eq.trans (World.drewN_drewN _ _ _) (congrArg (World.drewN _) (Nat.add_assoc _ _ _))⟩); obtain ⟨Ao72, co72, eo72⟩ := Kd.R_slice HO_7.out; subst eo72) | (go_at_call 63; (with_reducible refine (provisoref02_has.calls k4 _ _ t135 ((rd_T41 ((rd_T38 l0 a1).f2) x8_4).f0) false _ ?side1 ?side2 A35.out).mono ?_); (case side1 => repeat (first | exact (Kd.R_reads' HO_7.out).2.2 | (with_reducible refine Kd.C_alloc ?_ _) | (with_reducible refine Kd.C_drewN ?_ _) | (with_reducible refine Kd.C_drew ?_))); (case side2 => exact (Kd.R_reads' HO_7.out).2.1); rintro e w' ⟨rfl, ⟨nd, rfl⟩⟩; (try first | exact ⟨rfl, _, World.drewN_drewN _ _ _⟩ | exact ⟨rfl, _, Eq.trans (World.drewN_drewN _ _ _) (congrArg (World.drewN _) (Nat.add_assoc _ _ _))⟩); have hcz73_0 : w70.cell? ⟨gb131, 0, none⟩ = some (.string ((rd_T38 l0 a1).f0)) := (blk_cell BK131.out 0).trans rfl; have hcz73_1 : w70.cell? ⟨gb131, 1, none⟩ = some (.int .i64 ((rd_T38 l0 a1).f1)) := (blk_cell BK131.out 1).trans rfl; have hcz73_2 : w70.cell? ⟨gb131, 2, none⟩ = some (.slice (some ad138) ((rd_T38 l0 a1).f2).length c130_2) := (blk_cell BK131.out 2).trans rfl; have hfz73_0 := blk_frozen BK131.out 0; have hfz73_1 := blk_frozen BK131.out 1; have hfz73_2 := blk_frozen BK131.out 2; have q74 : (x8_4 : Int) ≤ ((((rd_T38 l0 a1).f2).length : Int) : Int) := of_decide_eq_true (by first | (with_reducible assumption) | assumption); obtain ⟨i074, hi074, _, hsz74, _⟩ := info_parts info41; have hroom74 : ((rd_T38 l0 a1).f2).length ≤ c130_2 := HC130_2.out; have hC74 : Kd.C k41 _ (some ad138) ((rd_T38 l0 a1).f2).length ((rd_T38 l0 a1).f2) := HR130_2.out; have hcut74 := cut_to (P := Tryz.prog) 36 41 .i64 Tryz.underlying36 hi074 (some ad138) ((rd_T38 l0 a1).f2).length c130_2 x8_4 (of_decide_eq_true (by first | (with_reducible assumption) | assumption)) q74 hroom74; have hr74 := Kd.C_take (m := (x8_4 : Int).toNat) hC74 (by omega); have hy74 : y142.length = (x8_4 : Int).toNat := (by rw [Ny142.out, List.length_take]; omega); rw [← Ny142.out] at hr74; rw [← hy74] at hcut74; have HR145 := Aside0.mk hr74; have HC145 := Aside0.mk (show y142.length ≤ c130_2 from by omega); clear hr74 hC74 hroom74 hi074 hsz74; have KY74 := Aside0.mk hy74; clear hy74; replace q74 := eq_true q74) | (go_at_call 63; (with_reducible refine (provisoref02_has.calls k4 _ _ y142 ((rd_T41 ((rd_T38 l0 a1).f2) x8_4).f0) false _ ?side1 ?side2 A44.out).mono ?_); (case side1 => repeat (first | exact (Kd.C_below HR145.out (by repeat (first | (with_reducible first | exact HB.out | apply below_alloc | apply pw_below_drewN | apply below_drew1 | refine below_set ?_ GE131.out | refine below_set ?_ GE139.out) | exact HB.out))) | (with_reducible refine Kd.C_alloc ?_ _) | (with_reducible refine Kd.C_drewN ?_ _) | (with_reducible refine Kd.C_drew ?_))); (case side2 => exact HC145.out); rintro e w' ⟨rfl, ⟨nd, rfl⟩⟩; (try first | exact ⟨rfl, _, World.drewN_drewN _ _ _⟩ | exact ⟨rfl, _, Eq.trans (World.drewN_drewN _ _ _) (congrArg (World.drewN _) (Nat.add_assoc _ _ _))⟩)) | (go_at_call 64; (with_reducible refine (provisoref02_Stored.calls _ _ l0 ((rd_T41 ((rd_T38 l0 a1).f2) x8_4).f1) false _ ?side1 ?side2 A55.out).mono ?_); (case side1 => repeat (first | exact (Kd.C_below HR0.out (by repeat (first | (with_reducible first | exact HB.out | apply below_alloc | apply pw_below_drewN | apply below_drew1 | refine below_set ?_ GE131.out | refine below_set ?_ GE139.out) | exact HB.out))) | (with_reducible refine Kd.C_alloc ?_ _) | (with_reducible refine Kd.C_drewN ?_ _) | (with_reducible refine Kd.C_drew ?_))); (case side2 => exact HC0.out); rintro e w' ⟨rfl, ⟨nd, rfl⟩⟩; (try first | exact ⟨rfl, _, World.drewN_drewN _ _ _⟩ | exact ⟨rfl, _, Eq.trans (World.drewN_drewN _ _ _) (congrArg (World.drewN _) (Nat.add_assoc _ _ _))⟩))); try go_wp2_with (first | ((with_reducible refine gate_dst (N := 9) rfl ?_); refine box_event ?hg (N := 9) ?hd (cs := #[.string (⟨#[]⟩ : ByteArray), .int .u8 0]) (t := 41) ?hr ?_; (case hd => rfl); (case hg => rfl); (case hr => first | (go_simp; done) | (go_simp; rfl)); intro gb139 hg w67 hbox hb; have n0_ := Aside0.mk (Kd.R_below (Kd.R_elderB (by (with_reducible repeat (first | apply Kd.R_alloc | apply Kd.R_drewN | apply Kd.R_drew)); exact HO_7.out) gb139 (Nat.le_of_eq hg.symm)) hb); have n1_ := Aside0.mk (blk_below (g := gb131) (o := .cells #[.string ((rd_T38 l0 a1).f0), .int .i64 ((rd_T38 l0 a1).f1), .slice (some ad138) ((rd_T38 l0 a1).f2).length c130_2] 38 (0, 0)) (by (with_reducible repeat (first | refine blk_drewN ?_ _ | refine blk_drew ?_ | refine blk_alloc ?_ _)); exact BK131.out) hb); have n2_ := Aside0.mk (below_step (by repeat (first | (with_reducible first | exact HB.out | apply below_alloc | apply pw_below_drewN | apply below_drew1 | refine below_set ?_ GE131.out) | exact HB.out)) hb); have n3_ := Aside0.mk (hbox); have n4_ := Aside0.mk ((by rw [hg]; exact (below_size (by repeat (first | (with_reducible first | exact HB.out | apply below_alloc | apply pw_below_drewN | apply below_drew1 | refine below_set ?_ GE131.out) | exact HB.out))) : w.heap.size ≤ gb139)); have n5_ := Aside0.mk ((by rw [hg]; exact (below_size (by repeat (first | (with_reducible first | exact HB.out | apply below_alloc | apply pw_below_drewN | apply below_drew1 | refine below_set ?_ GE131.out) | exact HB.out))) : w.heap.size ≤ gb139)); have n6_ := Aside0.mk ((by rw [hg]; exact Nat.ne_of_lt (blk_lt (g := gb131) (o := .cells #[.string ((rd_T38 l0 a1).f0), .int .i64 ((rd_T38 l0 a1).f1), .slice (some ad138) ((rd_T38 l0 a1).f2).length c130_2] 38 (0, 0)) (by (with_reducible repeat (first | refine blk_drewN ?_ _ | refine blk_drew ?_ | refine blk_alloc ?_ _)); exact BK131.out)) : gb131 ≠ gb139)); have n7_ := Aside0.mk ((by rw [hg]; exact Nat.ne_of_gt (blk_lt (g := gb131) (o := .cells #[.string ((rd_T38 l0 a1).f0), .int .i64 ((rd_T38 l0 a1).f1), .slice (some ad138) ((rd_T38 l0 a1).f2).length c130_2] 38 (0, 0)) (by (with_reducible repeat (first | refine blk_drewN ?_ _ | refine blk_drew ?_ | refine blk_alloc ?_ _)); exact BK131.out)) : gb139 ≠ gb131)); clear HO_7; clear BK131; clear HB; have HO_7 := n0_; have BK131 := n1_; have HB := n2_; have BK139 := n3_; have GW139 := n4_; have GE139 := n5_; have NB131_139 := n6_; have NB139_131 := n7_; clear n0_ n1_ n2_ n3_ n4_ n5_ n6_ n7_; clear hb hbox hg; have hnb68 := NB139_131.out; have hnc68 := NB131_139.out; have hcz69_0 : w67.cell? ⟨gb139, 0, none⟩ = some (.string (⟨#[]⟩ : ByteArray)) := (blk_cell BK139.out 0).trans rfl; have hcz69_1 : w67.cell? ⟨gb139, 1, none⟩ = some (.int .u8 0) := (blk_cell BK139.out 1).trans rfl; have hfz69_0 := blk_frozen BK139.out 0; have hfz69_1 := blk_frozen BK139.out 1) | ((with_reducible refine gate_store (t := 41) (p := 9) rfl ?_); (try (rw [drewN_self w67]; generalize hq_ : World.drewN w67 _ = w67; have n0_ := Aside0.mk (Kd.R_at hq_ HO_7.out); have n1_ := Aside0.mk (blk_at hq_ BK131.out); have n2_ := Aside0.mk (blk_at hq_ BK139.out); have n3_ := Aside0.mk (below_at hq_ HB.out); clear hq_ HO_7 BK131 BK139 HB; have HO_7 := n0_; have BK131 := n1_; have BK139 := n2_; have HB := n3_; clear n0_ n1_ n2_ n3_)); refine store_event (t := 41) (p := 9) (v := ?vo_w70) (w1 := ((w67.setCell ⟨gb139, 0, none⟩ (.string ((rd_T41 ((rd_T38 l0 a1).f2) x8_4).f0))).setCell ⟨gb139, 1, none⟩ (.int .u8 ((rd_T41 ((rd_T38 l0 a1).f2) x8_4).f1)))) ?hg ?ho ?hn ?hr ?_; (case ho => rfl); (case hg => rfl); (case hn => rfl); (case hr => first | (go_simp; done) | (go_simp; rfl)); intro w70 hw; have n0_ : Aside0 (Kd.R k41 41 w70 w.heap.size (fun k_ => k_ ≠ gb139) v136 t135) := ⟨(by rw [hw]; exact (by (with_reducible repeat (first | apply Kd.R_alloc | apply Kd.R_drewN | apply Kd.R_drew)); exact Kd.R_mono (Kd.R_far (p := ⟨gb139, 1, none⟩) (Kd.R_far (p := ⟨gb139, 0, none⟩) (Kd.R_mono HO_7.out (fun k_ hk => (⟨hk, hk.2⟩ : _ ∧ k_ ≠ gb139))) (fun _ hk => hk.2) (.string ((rd_T41 ((rd_T38 l0 a1).f2) x8_4).f0))) (fun _ hk => hk.2) (.int .u8 ((rd_T41 ((rd_T38 l0 a1).f2) x8_4).f1))) (fun _ hk => hk.1.2)))⟩; have n1_ : Aside0 (w70.heap[gb131]? = some (.cells #[.string ((rd_T38 l0 a1).f0), .int .i64 ((rd_T38 l0 a1).f1), .slice (some ad138) ((rd_T38 l0 a1).f2).length c130_2] 38 (0, 0))) := ⟨(by rw [hw]; exact (by (with_reducible repeat (first | refine blk_drewN ?_ _ | refine blk_drew ?_ | refine blk_alloc ?_ _)); refine blk_far ?_ NB131_139.out _; (with_reducible repeat (first | refine blk_drewN ?_ _ | refine blk_drew ?_ | refine blk_alloc ?_ _)); refine blk_far ?_ NB131_139.out _; (with_reducible repeat (first | refine blk_drewN ?_ _ | refine blk_drew ?_ | refine blk_alloc ?_ _)); exact BK131.out))⟩; have n2_ : Aside0 (w70.heap[gb139]? = some (.cells #[.string ((rd_T41 ((rd_T38 l0 a1).f2) x8_4).f0), .int .u8 ((rd_T41 ((rd_T38 l0 a1).f2) x8_4).f1)] 41 (0, 0))) := ⟨(by rw [hw]; exact (by (with_reducible repeat (first | refine blk_drewN ?_ _ | refine blk_drew ?_ | refine blk_alloc ?_ _)); refine blk_put (cs := #[.string ((rd_T41 ((rd_T38 l0 a1).f2) x8_4).f0), .int .u8 0]) ?_ 1 _ rfl; (with_reducible repeat (first | refine blk_drewN ?_ _ | refine blk_drew ?_ | refine blk_alloc ?_ _)); refine blk_put (cs := #[.string (⟨#[]⟩ : ByteArray), .int .u8 0]) ?_ 0 _ rfl; (with_reducible repeat (first | refine blk_drewN ?_ _ | refine blk_drew ?_ | refine blk_alloc ?_ _)); exact BK139.out))⟩; have n3_ : Aside0 (Below w.heap.size w w70) := ⟨(by rw [hw]; exact (by repeat (first | (with_reducible first | exact HB.out | apply below_alloc | apply pw_below_drewN | apply below_drew1 | refine below_set ?_ GE131.out | refine below_set ?_ GE139.out) | exact HB.out)))⟩; clear hw; clear HO_7; clear BK131; clear BK139; clear HB; have HO_7 := n0_; have BK131 := n1_; have BK139 := n2_; have HB := n3_; clear n0_ n1_ n2_ n3_; have hcz71_0 : w70.cell? ⟨gb139, 0, none⟩ = some (.string ((rd_T41 ((rd_T38 l0 a1).f2) x8_4).f0)) := (blk_cell BK139.out 0).trans rfl; have hcz71_1 : w70.cell? ⟨gb139, 1, none⟩ = some (.int .u8 ((rd_T41 ((rd_T38 l0 a1).f2) x8_4).f1)) := (blk_cell BK139.out 1).trans rfl; have hfz71_0 := blk_frozen BK139.out 0; have hfz71_1 := blk_frozen BK139.out 1) | (go_at_call 61; (with_reducible refine (provisoref02_IsName.calls k4 ((rd_T41 ((rd_T38 l0 a1).f2) x8_4).f0) true _ A33.out).mono ?_); rintro e w' ⟨rfl, ⟨nd, rfl⟩⟩; (try first | exact ⟨rfl, _, World.drewN_drewN _ _ _⟩ | exact ⟨rfl, _, Eq.trans (World.drewN_drewN _ _ _) (congrArg (World.drewN _) (Nat.add_assoc _ _ _))⟩); obtain ⟨Ao72, co72, eo72⟩ := Kd.R_slice HO_7.out; subst eo72) | (go_at_call 63; (with_reducible refine (provisoref02_has.calls k4 _ _ t135 ((rd_T41 ((rd_T38 l0 a1).f2) x8_4).f0) false _ ?side1 ?side2 A35.out).mono ?_); (case side1 => repeat (first | exact (Kd.R_reads' HO_7.out).2.2 | (with_reducible refine Kd.C_alloc ?_ _) | (with_reducible refine Kd.C_drewN ?_ _) | (with_reducible refine Kd.C_drew ?_))); (case side2 => exact (Kd.R_reads' HO_7.out).2.1); rintro e w' ⟨rfl, ⟨nd, rfl⟩⟩; (try first | exact ⟨rfl, _, World.drewN_drewN _ _ _⟩ | exact ⟨rfl, _, Eq.trans (World.drewN_drewN _ _ _) (congrArg (World.drewN _) (Nat.add_assoc _ _ _))⟩); have hcz73_0 : w70.cell? ⟨gb131, 0, none⟩ = some (.string ((rd_T38 l0 a1).f0)) := (blk_cell BK131.out 0).trans rfl; have hcz73_1 : w70.cell? ⟨gb131, 1, none⟩ = some (.int .i64 ((rd_T38 l0 a1).f1)) := (blk_cell BK131.out 1).trans rfl; have hcz73_2 : w70.cell? ⟨gb131, 2, none⟩ = some (.slice (some ad138) ((rd_T38 l0 a1).f2).length c130_2) := (blk_cell BK131.out 2).trans rfl; have hfz73_0 := blk_frozen BK131.out 0; have hfz73_1 := blk_frozen BK131.out 1; have hfz73_2 := blk_frozen BK131.out 2; have q74 : (x8_4 : Int) ≤ ((((rd_T38 l0 a1).f2).length : Int) : Int) := of_decide_eq_true (by first | (with_reducible assumption) | assumption); obtain ⟨i074, hi074, _, hsz74, _⟩ := info_parts info41; have hroom74 : ((rd_T38 l0 a1).f2).length ≤ c130_2 := HC130_2.out; have hC74 : Kd.C k41 _ (some ad138) ((rd_T38 l0 a1).f2).length ((rd_T38 l0 a1).f2) := HR130_2.out; have hcut74 := cut_to (P := Tryz.prog) 36 41 .i64 Tryz.underlying36 hi074 (some ad138) ((rd_T38 l0 a1).f2).length c130_2 x8_4 (of_decide_eq_true (by first | (with_reducible assumption) | assumption)) q74 hroom74; have hr74 := Kd.C_take (m := (x8_4 : Int).toNat) hC74 (by omega); have hy74 : y142.length = (x8_4 : Int).toNat := (by rw [Ny142.out, List.length_take]; omega); rw [← Ny142.out] at hr74; rw [← hy74] at hcut74; have HR145 := Aside0.mk hr74; have HC145 := Aside0.mk (show y142.length ≤ c130_2 from by omega); clear hr74 hC74 hroom74 hi074 hsz74; have KY74 := Aside0.mk hy74; clear hy74; replace q74 := eq_true q74) | (go_at_call 63; (with_reducible refine (provisoref02_has.calls k4 _ _ y142 ((rd_T41 ((rd_T38 l0 a1).f2) x8_4).f0) false _ ?side1 ?side2 A44.out).mono ?_); (case side1 => repeat (first | exact (Kd.C_below HR145.out (by repeat (first | (with_reducible first | exact HB.out | apply below_alloc | apply pw_below_drewN | apply below_drew1 | refine below_set ?_ GE131.out | refine below_set ?_ GE139.out) | exact HB.out))) | (with_reducible refine Kd.C_alloc ?_ _) | (with_reducible refine Kd.C_drewN ?_ _) | (with_reducible refine Kd.C_drew ?_))); (case side2 => exact HC145.out); rintro e w' ⟨rfl, ⟨nd, rfl⟩⟩; (try first | exact ⟨rfl, _, World.drewN_drewN _ _ _⟩ | exact ⟨rfl, _, Eq.trans (World.drewN_drewN _ _ _) (congrArg (World.drewN _) (Nat.add_assoc _ _ _))⟩)) | (go_at_call 64; (with_reducible refine (provisoref02_Stored.calls _ _ l0 ((rd_T41 ((rd_T38 l0 a1).f2) x8_4).f1) false _ ?side1 ?side2 A55.out).mono ?_); (case side1 => repeat (first | exact (Kd.C_below HR0.out (by repeat (first | (with_reducible first | exact HB.out | apply below_alloc | apply pw_below_drewN | apply below_drew1 | refine below_set ?_ GE131.out | refine below_set ?_ GE139.out) | exact HB.out))) | (with_reducible refine Kd.C_alloc ?_ _) | (with_reducible refine Kd.C_drewN ?_ _) | (with_reducible refine Kd.C_drew ?_))); (case side2 => exact HC0.out); rintro e w' ⟨rfl, ⟨nd, rfl⟩⟩; (try first | exact ⟨rfl, _, World.drewN_drewN _ _ _⟩ | exact ⟨rfl, _, Eq.trans (World.drewN_drewN _ _ _) (congrArg (World.drewN _) (Nat.add_assoc _ _ _))⟩))))
                                            go_ret
                                            exact ⟨by first | rfl | (simp [errW_none, errW_some] <;> rfl) | (simp [*, errW_none, errW_some] <;> rfl), by repeat (first | (with_reducible first | exact HB.out | apply below_alloc | apply pw_below_drewN | apply below_drew1 | refine below_set ?_ GE131.out | refine below_set ?_ GE139.out) | exact HB.out)⟩
                                      · rw [if_neg c43] at H
                                        exact absurd H (by simp)
                                  · replace c34 := Bool.eq_false_iff.mpr c34
                                    subst c34
                                    have H1 : (some 6) = some r := by rw [if_neg (show ¬ (false = true) by decide)] at H; exact H
                                    clear H
                                    have H := H1
                                    clear H1
                                    obtain rfl := Option.some.inj H
                                    have hcz75_0 : wr.cell? ⟨gb131, 0, none⟩ = some (.string ((rd_T38 l0 a1).f0)) := (blk_cell BK131.out 0).trans rfl
                                    have hcz75_1 : wr.cell? ⟨gb131, 1, none⟩ = some (.int .i64 ((rd_T38 l0 a1).f1)) := (blk_cell BK131.out 1).trans rfl
                                    have hcz75_2 : wr.cell? ⟨gb131, 2, none⟩ = some (.slice A130_2 ((rd_T38 l0 a1).f2).length c130_2) := (blk_cell BK131.out 2).trans rfl
                                    have hfz75_0 := blk_frozen BK131.out 0
                                    have hfz75_1 := blk_frozen BK131.out 1
                                    have hfz75_2 := blk_frozen BK131.out 2
                                    have p138 : 0 ≤ (x8_4 : Int) := of_decide_eq_true (by first | (with_reducible assumption) | assumption)
                                    have q138 : x8_4 < (((rd_T38 l0 a1).f2).length : Int) := of_decide_eq_true (by first | (with_reducible assumption) | assumption)
                                    obtain ⟨ad138, e138, hx138_0, hx138_1⟩ := at_T41 HR130_2.out x8_4 p138 q138
                                    cases e138
                                    replace hx138_0 := (HB.out.cell (World.block_lt_of_cell? w _ hx138_0)).trans hx138_0
                                    replace hx138_1 := (HB.out.cell (World.block_lt_of_cell? w _ hx138_1)).trans hx138_1
                                    replace p138 := eq_true p138
                                    replace q138 := eq_true q138
                                    go_wp2_with (first | ((with_reducible refine gate_dst (N := 9) rfl ?_); refine box_event ?hg (N := 9) ?hd (cs := #[.string (⟨#[]⟩ : ByteArray), .int .u8 0]) (t := 41) ?hr ?_; (case hd => rfl); (case hg => rfl); (case hr => first | (go_simp; done) | (go_simp; rfl)); intro gb139 hg w76 hbox hb; have n0_ := Aside0.mk (Kd.R_below (Kd.R_elderB (by (with_reducible repeat (first | apply Kd.R_alloc | apply Kd.R_drewN | apply Kd.R_drew)); exact HO_7.out) gb139 (Nat.le_of_eq hg.symm)) hb); have n1_ := Aside0.mk (blk_below (g := gb131) (o := .cells #[.string ((rd_T38 l0 a1).f0), .int .i64 ((rd_T38 l0 a1).f1), .slice (some ad138) ((rd_T38 l0 a1).f2).length c130_2] 38 (0, 0)) (by (with_reducible repeat (first | refine blk_drewN ?_ _ | refine blk_drew ?_ | refine blk_alloc ?_ _)); exact BK131.out) hb); have n2_ := Aside0.mk (below_step (by repeat (first | (with_reducible first | exact HB.out | apply below_alloc | apply pw_below_drewN | apply below_drew1 | refine below_set ?_ GE131.out) | exact HB.out)) hb); have n3_ := Aside0.mk (hbox); have n4_ := Aside0.mk ((by rw [hg]; exact (below_size (by repeat (first | (with_reducible first | exact HB.out | apply below_alloc | apply pw_below_drewN | apply below_drew1 | refine below_set ?_ GE131.out) | exact HB.out))) : w.heap.size ≤ gb139)); have n5_ := Aside0.mk ((by rw [hg]; exact (below_size (by repeat (first | (with_reducible first | exact HB.out | apply below_alloc | apply pw_below_drewN | apply below_drew1 | refine below_set ?_ GE131.out) | exact HB.out))) : w.heap.size ≤ gb139)); have n6_ := Aside0.mk ((by rw [hg]; exact Nat.ne_of_lt (blk_lt (g := gb131) (o := .cells #[.string ((rd_T38 l0 a1).f0), .int .i64 ((rd_T38 l0 a1).f1), .slice (some ad138) ((rd_T38 l0 a1).f2).length c130_2] 38 (0, 0)) (by (with_reducible repeat (first | refine blk_drewN ?_ _ | refine blk_drew ?_ | refine blk_alloc ?_ _)); exact BK131.out)) : gb131 ≠ gb139)); have n7_ := Aside0.mk ((by rw [hg]; exact Nat.ne_of_gt (blk_lt (g := gb131) (o := .cells #[.string ((rd_T38 l0 a1).f0), .int .i64 ((rd_T38 l0 a1).f1), .slice (some ad138) ((rd_T38 l0 a1).f2).length c130_2] 38 (0, 0)) (by (with_reducible repeat (first | refine blk_drewN ?_ _ | refine blk_drew ?_ | refine blk_alloc ?_ _)); exact BK131.out)) : gb139 ≠ gb131)); clear HO_7; clear BK131; clear HB; have HO_7 := n0_; have BK131 := n1_; have HB := n2_; have BK139 := n3_; have GW139 := n4_; have GE139 := n5_; have NB131_139 := n6_; have NB139_131 := n7_; clear n0_ n1_ n2_ n3_ n4_ n5_ n6_ n7_; clear hb hbox hg; have hnb77 := NB139_131.out; have hnc77 := NB131_139.out; have hcz78_0 : w76.cell? ⟨gb139, 0, none⟩ = some (.string (⟨#[]⟩ : ByteArray)) := (blk_cell BK139.out 0).trans rfl; have hcz78_1 : w76.cell? ⟨gb139, 1, none⟩ = some (.int .u8 0) := (blk_cell BK139.out 1).trans rfl; have hfz78_0 := blk_frozen BK139.out 0; have hfz78_1 := blk_frozen BK139.out 1) | (go_at_call 61; (with_reducible refine (provisoref02_IsName.calls k4 ((rd_T41 ((rd_T38 l0 a1).f2) x8_4).f0) false _ A33.out).mono ?_); rintro e w' ⟨rfl, ⟨nd, rfl⟩⟩; (try first | exact ⟨rfl, _, World.drewN_drewN _ _ _⟩ | exact ⟨rfl, _, Eq.trans (World.drewN_drewN _ _ _) (congrArg (World.drewN _) (Nat.add_assoc _ _ _))⟩)))
                                    repeat (go_quiet (first | ((with_reducible refine gate_dst (N := 9) rfl ?_); refine box_event ?hg (N := 9) ?hd (cs := #[.string (⟨#[]⟩ : ByteArray), .int .u8 0]) (t := 41) ?hr ?_; (case hd => rfl); (case hg => rfl); (case hr => first | (go_simp; done) | (go_simp; rfl)); intro gb139 hg w76 hbox hb; have n0_ := Aside0.mk (Kd.R_below (Kd.R_elderB (by (with_reducible repeat (first | apply Kd.R_alloc | apply Kd.R_drewN | apply Kd.R_drew)); exact HO_7.out) gb139 (Nat.le_of_eq hg.symm)) hb); have n1_ := Aside0.mk (blk_below (g := gb131) (o := .cells #[.string ((rd_T38 l0 a1).f0), .int .i64 ((rd_T38 l0 a1).f1), .slice (some ad138) ((rd_T38 l0 a1).f2).length c130_2] 38 (0, 0)) (by (with_reducible repeat (first | refine blk_drewN ?_ _ | refine blk_drew ?_ | refine blk_alloc ?_ _)); exact BK131.out) hb); have n2_ := Aside0.mk (below_step (by repeat (first | (with_reducible first | exact HB.out | apply below_alloc | apply pw_below_drewN | apply below_drew1 | refine below_set ?_ GE131.out) | exact HB.out)) hb); have n3_ := Aside0.mk (hbox); have n4_ := Aside0.mk ((by rw [hg]; exact (below_size (by repeat (first | (with_reducible first | exact HB.out | apply below_alloc | apply pw_below_drewN | apply below_drew1 | refine below_set ?_ GE131.out) | exact HB.out))) : w.heap.size ≤ gb139)); have n5_ := Aside0.mk ((by rw [hg]; exact (below_size (by repeat (first | (with_reducible first | exact HB.out | apply below_alloc | apply pw_below_drewN | apply below_drew1 | refine below_set ?_ GE131.out) | exact HB.out))) : w.heap.size ≤ gb139)); have n6_ := Aside0.mk ((by rw [hg]; exact Nat.ne_of_lt (blk_lt (g := gb131) (o := .cells #[.string ((rd_T38 l0 a1).f0), .int .i64 ((rd_T38 l0 a1).f1), .slice (some ad138) ((rd_T38 l0 a1).f2).length c130_2] 38 (0, 0)) (by (with_reducible repeat (first | refine blk_drewN ?_ _ | refine blk_drew ?_ | refine blk_alloc ?_ _)); exact BK131.out)) : gb131 ≠ gb139)); have n7_ := Aside0.mk ((by rw [hg]; exact Nat.ne_of_gt (blk_lt (g := gb131) (o := .cells #[.string ((rd_T38 l0 a1).f0), .int .i64 ((rd_T38 l0 a1).f1), .slice (some ad138) ((rd_T38 l0 a1).f2).length c130_2] 38 (0, 0)) (by (with_reducible repeat (first | refine blk_drewN ?_ _ | refine blk_drew ?_ | refine blk_alloc ?_ _)); exact BK131.out)) : gb139 ≠ gb131)); clear HO_7; clear BK131; clear HB; have HO_7 := n0_; have BK131 := n1_; have HB := n2_; have BK139 := n3_; have GW139 := n4_; have GE139 := n5_; have NB131_139 := n6_; have NB139_131 := n7_; clear n0_ n1_ n2_ n3_ n4_ n5_ n6_ n7_; clear hb hbox hg; have hnb77 := NB139_131.out; have hnc77 := NB131_139.out; have hcz78_0 : w76.cell? ⟨gb139, 0, none⟩ = some (.string (⟨#[]⟩ : ByteArray)) := (blk_cell BK139.out 0).trans rfl; have hcz78_1 : w76.cell? ⟨gb139, 1, none⟩ = some (.int .u8 0) := (blk_cell BK139.out 1).trans rfl; have hfz78_0 := blk_frozen BK139.out 0; have hfz78_1 := blk_frozen BK139.out 1) | (go_at_call 61; (with_reducible refine (provisoref02_IsName.calls k4 ((rd_T41 ((rd_T38 l0 a1).f2) x8_4).f0) false _ A33.out).mono ?_); rintro e w' ⟨rfl, ⟨nd, rfl⟩⟩; (try first | exact ⟨rfl, _, World.drewN_drewN _ _ _⟩ | exact ⟨rfl, _, Eq.trans (World.drewN_drewN _ _ _) (congrArg (World.drewN _) (Nat.add_assoc _ _ _))⟩))); try go_wp2_with (first | ((with_reducible refine gate_dst (N := 9) rfl ?_); refine box_event ?hg (N := 9) ?hd (cs := #[.string (⟨#[]⟩ : ByteArray), .int .u8 0]) (t := 41) ?hr ?_; (case hd => rfl); (case hg => rfl); (case hr => first | (go_simp; done) | (go_simp; rfl)); intro gb139 hg w76 hbox hb; have n0_ := Aside0.mk (Kd.R_below (Kd.R_elderB (by (with_reducible repeat (first | apply Kd.R_alloc | apply Kd.R_drewN | apply Kd.R_drew)); exact HO_7.out) gb139 (Nat.le_of_eq hg.symm)) hb); have n1_ := Aside0.mk (blk_below (g := gb131) (o := .cells #[.string ((rd_T38 l0 a1).f0), .int .i64 ((rd_T38 l0 a1).f1), .slice (some ad138) ((rd_T38 l0 a1).f2).length c130_2] 38 (0, 0)) (by (with_reducible repeat (first | refine blk_drewN ?_ _ | refine blk_drew ?_ | refine blk_alloc ?_ _)); exact BK131.out) hb); have n2_ := Aside0.mk (below_step (by repeat (first | (with_reducible first | exact HB.out | apply below_alloc | apply pw_below_drewN | apply below_drew1 | refine below_set ?_ GE131.out) | exact HB.out)) hb); have n3_ := Aside0.mk (hbox); have n4_ := Aside0.mk ((by rw [hg]; exact (below_size (by repeat (first | (with_reducible first | exact HB.out | apply below_alloc | apply pw_below_drewN | apply below_drew1 | refine below_set ?_ GE131.out) | exact HB.out))) : w.heap.size ≤ gb139)); have n5_ := Aside0.mk ((by rw [hg]; exact (below_size (by repeat (first | (with_reducible first | exact HB.out | apply below_alloc | apply pw_below_drewN | apply below_drew1 | refine below_set ?_ GE131.out) | exact HB.out))) : w.heap.size ≤ gb139)); have n6_ := Aside0.mk ((by rw [hg]; exact Nat.ne_of_lt (blk_lt (g := gb131) (o := .cells #[.string ((rd_T38 l0 a1).f0), .int .i64 ((rd_T38 l0 a1).f1), .slice (some ad138) ((rd_T38 l0 a1).f2).length c130_2] 38 (0, 0)) (by (with_reducible repeat (first | refine blk_drewN ?_ _ | refine blk_drew ?_ | refine blk_alloc ?_ _)); exact BK131.out)) : gb131 ≠ gb139)); have n7_ := Aside0.mk ((by rw [hg]; exact Nat.ne_of_gt (blk_lt (g := gb131) (o := .cells #[.string ((rd_T38 l0 a1).f0), .int .i64 ((rd_T38 l0 a1).f1), .slice (some ad138) ((rd_T38 l0 a1).f2).length c130_2] 38 (0, 0)) (by (with_reducible repeat (first | refine blk_drewN ?_ _ | refine blk_drew ?_ | refine blk_alloc ?_ _)); exact BK131.out)) : gb139 ≠ gb131)); clear HO_7; clear BK131; clear HB; have HO_7 := n0_; have BK131 := n1_; have HB := n2_; have BK139 := n3_; have GW139 := n4_; have GE139 := n5_; have NB131_139 := n6_; have NB139_131 := n7_; clear n0_ n1_ n2_ n3_ n4_ n5_ n6_ n7_; clear hb hbox hg; have hnb77 := NB139_131.out; have hnc77 := NB131_139.out; have hcz78_0 : w76.cell? ⟨gb139, 0, none⟩ = some (.string (⟨#[]⟩ : ByteArray)) := (blk_cell BK139.out 0).trans rfl; have hcz78_1 : w76.cell? ⟨gb139, 1, none⟩ = some (.int .u8 0) := (blk_cell BK139.out 1).trans rfl; have hfz78_0 := blk_frozen BK139.out 0; have hfz78_1 := blk_frozen BK139.out 1) | (go_at_call 61; (with_reducible refine (provisoref02_IsName.calls k4 ((rd_T41 ((rd_T38 l0 a1).f2) x8_4).f0) false _ A33.out).mono ?_); rintro e w' ⟨rfl, ⟨nd, rfl⟩⟩; (try first | exact ⟨rfl, _, World.drewN_drewN _ _ _⟩ | exact ⟨rfl, _, Eq.trans (World.drewN_drewN _ _ _) (congrArg (World.drewN _) (Nat.add_assoc _ _ _))⟩))))
                                    go_ret
                                    exact ⟨by first | rfl | (simp [errW_none, errW_some] <;> rfl) | (simp [*, errW_none, errW_some] <;> rfl), by repeat (first | (with_reducible first | exact HB.out | apply below_alloc | apply pw_below_drewN | apply below_drew1 | refine below_set ?_ GE131.out | refine below_set ?_ GE139.out) | exact HB.out)⟩
                                · rw [if_neg c32] at H
                                  exact absurd H (by simp)
                              · rw [if_neg c31] at H
                                have c31b0 : decide (x8_4 < (((rd_T38 l0 a1).f2).length : Int)) = false := decide_eq_false c31
                                clear c31
                                by_cases c79 : (((rd_T38 l0 a1).f2).length : Int) > (wrap64 (32 - (t135.length : Int)))
                                · rw [if_pos c79] at H
                                  have c79b0 : decide ((wrap64 (32 - (t135.length : Int))) < (((rd_T38 l0 a1).f2).length : Int)) = true := decide_eq_true c79
                                  clear c79
                                  obtain rfl := Option.some.inj H
                                  have hcz80_0 : wr.cell? ⟨gb131, 0, none⟩ = some (.string ((rd_T38 l0 a1).f0)) := (blk_cell BK131.out 0).trans rfl
                                  have hcz80_1 : wr.cell? ⟨gb131, 1, none⟩ = some (.int .i64 ((rd_T38 l0 a1).f1)) := (blk_cell BK131.out 1).trans rfl
                                  have hcz80_2 : wr.cell? ⟨gb131, 2, none⟩ = some (.slice A130_2 ((rd_T38 l0 a1).f2).length c130_2) := (blk_cell BK131.out 2).trans rfl
                                  have hfz80_0 := blk_frozen BK131.out 0
                                  have hfz80_1 := blk_frozen BK131.out 1
                                  have hfz80_2 := blk_frozen BK131.out 2
                                  obtain ⟨Ao81, co81, eo81⟩ := Kd.R_slice HO_7.out
                                  subst eo81
                                  go_wp2
                                  repeat (go_quiet (fail); try go_wp2)
                                  go_ret
                                  exact ⟨by first | rfl | (simp [errW_none, errW_some] <;> rfl) | (simp [*, errW_none, errW_some] <;> rfl), by repeat (first | (with_reducible first | exact HB.out | apply below_alloc | apply pw_below_drewN | apply below_drew1 | refine below_set ?_ GE131.out) | exact HB.out)⟩
                                · rw [if_neg c79] at H
                                  have c79b0 : decide ((wrap64 (32 - (t135.length : Int))) < (((rd_T38 l0 a1).f2).length : Int)) = false := decide_eq_false c79
                                  clear c79
                                  obtain rfl := Option.some.inj H
                                  have hcz82_0 : wr.cell? ⟨gb131, 0, none⟩ = some (.string ((rd_T38 l0 a1).f0)) := (blk_cell BK131.out 0).trans rfl
                                  have hcz82_1 : wr.cell? ⟨gb131, 1, none⟩ = some (.int .i64 ((rd_T38 l0 a1).f1)) := (blk_cell BK131.out 1).trans rfl
                                  have hcz82_2 : wr.cell? ⟨gb131, 2, none⟩ = some (.slice A130_2 ((rd_T38 l0 a1).f2).length c130_2) := (blk_cell BK131.out 2).trans rfl
                                  have hfz82_0 := blk_frozen BK131.out 0
                                  have hfz82_1 := blk_frozen BK131.out 1
                                  have hfz82_2 := blk_frozen BK131.out 2
                                  obtain ⟨Ao83, co83, eo83⟩ := Kd.R_slice HO_7.out
                                  subst eo83
                                  go_wp2
                                  repeat (go_quiet (fail); try go_wp2)
                                  go_ret
                                  exact ⟨by first | rfl | (simp [errW_none, errW_some] <;> rfl) | (simp [*, errW_none, errW_some] <;> rfl), by repeat (first | (with_reducible first | exact HB.out | apply below_alloc | apply pw_below_drewN | apply below_drew1 | refine below_set ?_ GE131.out) | exact HB.out)⟩
    · rw [if_neg c4] at H
      exact absurd H (by simp)
  · rw [if_neg c3] at H
    exact absurd H (by simp)

end Go.Proofs.YtkjagcamikkjkaaGreat.P

end

section
namespace Go.Proofs.YtkjagcamikkjkaaGreat.P
open Go.RowKit Go.Proofs.YtkjagcamikkjkaaGreatW.PrintWords Go.Proofs.YtkjagcamikkjkaaGreatW.PrintLast Go.Proofs.YtkjagcamikkjkaaGreatW.PrintMore
attribute [local go_sem] max2_int min2_int max_two min_two max_three min_three max_four min_four   -- for this text's walks alone
set_option linter.unusedVariables false
set_option linter.unusedSimpArgs false

def provisoref02_Check.l0 : Nat → List (S38) → Int → Option (Int × Int)
  | 0, _, _ => none
  | k + 1, x0, x4 => if x4 < (x0.length : Int) then ((provisoref02_fault.f k x0 x4).bind fun t148 => (if t148 = 0 then (provisoref02_Check.l0 k x0 (wrap64 (x4 + 1))) else (some (x4, t148)))) else (some (0, 0))
def provisoref02_Check.f (k : Nat) (l0 : List (S38)) : Option (Int × Int) := provisoref02_Check.l0 k l0 0
set_option maxHeartbeats 8000000 in
set_option maxRecDepth 100000 in
theorem provisoref02_Check.calls (k : Nat) (A0 : Option Addr) (c0 : Nat) (l0 : List (S38)) (r1 : Int) (r2 : Int) (w : World) (hr0 : Kd.C k38 w A0 l0.length l0) (hc0 : l0.length ≤ c0) (h : provisoref02_Check.f k l0 = some (r1, r2)) :
    Calls Tryz.prog 12 #[.slice A0 l0.length c0] w fun e w' => e = .returned (.tuple #[.int .i64 r1, .int .i64 r2]) ∧ Below w.heap.size w w' := by
  have HR0 := Aside0.mk hr0
  have HC0 := Aside0.mk hc0
  clear hr0 hc0
  have HB := Aside0.mk (Below.refl w.heap.size w)
  have H : (provisoref02_Check.l0 k l0 0) = some (r1, r2) := h
  clear h
  have H' := Aside0.mk H
  clear H
  go_enter Tryz.func12, Tryz.ntmps12
  go_wp2
  go_loopg [4] k (fun kq v4 w' => ∃ (x4_1 : Int), v4 = .int .i64 x4_1 ∧ Aside0 (provisoref02_Check.l0 kq l0 x4_1 = some (r1, r2)) ∧ Aside0 (kq ≤ k) ∧ Aside0 (Below w.heap.size w w'))
  case atStart => exact ⟨(0), (by first | rfl | (simp; done) | (simp [*]; done)), H', ⟨Nat.le_refl _⟩, ⟨by repeat (first | (with_reducible first | exact HB.out | apply below_alloc | apply pw_below_drewN | apply below_drew1) | exact HB.out)⟩⟩
  case round =>
    clear H'
    try clear c1
    obtain ⟨x4_1, rfl, HA, HK1, HB⟩ := hrel
    cases gk with
    | zero => exact absurd HA.out (by simp [provisoref02_Check.l0])
    | succ k1 =>
      have H := HA.out
      clear HA
      simp only [provisoref02_Check.l0] at H
      by_cases c2 : x4_1 < (l0.length : Int)
      · rw [if_pos c2] at H
        have c2b0 : decide (x4_1 < (l0.length : Int)) = true := decide_eq_true c2
        clear c2
        replace H := Option.bind_eq_some_iff.mp H
        obtain ⟨t148, A30, H⟩ := H
        replace H : (if t148 = 0 then (provisoref02_Check.l0 k1 l0 (wrap64 (x4_1 + 1))) else (some (x4_1, t148))) = some (r1, r2) := H
        have A3 := Aside0.mk A30
        clear A30
        by_cases c4 : t148 = 0
        · rw [if_pos c4] at H
          have c4b0 : (t148 == 0) = true := beq_iff_eq.mpr c4
          have c4b1 : (t148 != 0) = false := bne_eq_false_iff_eq.mpr c4
          clear c4
          have H' := Aside0.mk H
          clear H
          go_wp2_with (first | ((with_reducible refine gate_callee (f := 41) rfl ?_); refine goesL_ (some 14) rfl rfl Tryz.func41 (by kernel_rfl) rfl #[.slice A0 l0.length c0, .int .i64 x4_1] rfl (by (try simp only [List.map_toArray, List.map_cons, List.map_nil]); first | done | rfl | (simp only [List.length_drop, List.length_take]; rfl)) ?_; (with_reducible refine (provisoref02_fault.calls k1 _ _ l0 x4_1 t148 _ ?side1 ?side2 A3.out).mono ?_); (case side1 => repeat (first | exact (Kd.C_below HR0.out HB.out) | (with_reducible refine Kd.C_alloc ?_ _) | (with_reducible refine Kd.C_drewN ?_ _) | (with_reducible refine Kd.C_drew ?_))); (case side2 => exact HC0.out); rintro e w5 ⟨rfl, hb⟩; refine ⟨_, rfl, ?_⟩; have n0_ := Aside0.mk (below_step (by repeat (first | (with_reducible first | exact HB.out | apply below_alloc | apply pw_below_drewN | apply below_drew1) | exact HB.out)) hb); clear HB; have HB := n0_; clear n0_; (try clear hb); (try clear hb2); (try clear hk); (try clear hi)))
          go_roundg k1
          case measure => have := HK1.out; omega
          case rel => exact ⟨(wrap64 (x4_1 + 1)), (by first | rfl | (simp; done) | (simp [*]; done)), H', ⟨by have := HK1.out; omega⟩, ⟨by repeat (first | (with_reducible first | exact HB.out | apply below_alloc | apply pw_below_drewN | apply below_drew1) | exact HB.out)⟩⟩
        · rw [if_neg c4] at H
          have c4b0 : (t148 == 0) = false := beq_eq_false_iff_ne.mpr c4
          have c4b1 : (t148 != 0) = true := bne_iff_ne.mpr c4
          simp only [Option.some.injEq, Prod.mk.injEq] at H
          obtain ⟨rfl, rfl⟩ := H
          go_wp2_with (first | ((with_reducible refine gate_callee (f := 41) rfl ?_); refine goesL_ (some 14) rfl rfl Tryz.func41 (by kernel_rfl) rfl #[.slice A0 l0.length c0, .int .i64 x4_1] rfl (by (try simp only [List.map_toArray, List.map_cons, List.map_nil]); first | done | rfl | (simp only [List.length_drop, List.length_take]; rfl)) ?_; (with_reducible refine (provisoref02_fault.calls k1 _ _ l0 x4_1 t148 _ ?side1 ?side2 A3.out).mono ?_); (case side1 => repeat (first | exact (Kd.C_below HR0.out HB.out) | (with_reducible refine Kd.C_alloc ?_ _) | (with_reducible refine Kd.C_drewN ?_ _) | (with_reducible refine Kd.C_drew ?_))); (case side2 => exact HC0.out); rintro e w6 ⟨rfl, hb⟩; refine ⟨_, rfl, ?_⟩; have n0_ := Aside0.mk (below_step (by repeat (first | (with_reducible first | exact HB.out | apply below_alloc | apply pw_below_drewN | apply below_drew1) | exact HB.out)) hb); clear HB; have HB := n0_; clear n0_; (try clear hb); (try clear hb2); (try clear hk); (try clear hi)))
          go_ret2
          exact ⟨by first | rfl | (simp [errW_none, errW_some] <;> rfl) | (simp [*, errW_none, errW_some] <;> rfl), by repeat (first | (with_reducible first | exact HB.out | apply below_alloc | apply pw_below_drewN | apply below_drew1) | exact HB.out)⟩
      · rw [if_neg c2] at H
        have c2b0 : decide (x4_1 < (l0.length : Int)) = false := decide_eq_false c2
        clear c2
        simp only [Option.some.injEq, Prod.mk.injEq] at H
        obtain ⟨rfl, rfl⟩ := H
        go_wp2
        go_ret2
        exact ⟨by first | rfl | (simp [errW_none, errW_some] <;> rfl) | (simp [*, errW_none, errW_some] <;> rfl), by repeat (first | (with_reducible first | exact HB.out | apply below_alloc | apply pw_below_drewN | apply below_drew1) | exact HB.out)⟩




def slices_Equal_int_int.l0 : Nat → List Int → List Int → Int → Int → Option (Bool)
  | 0, _, _, _, _ => none
  | k + 1, x0, x1, x12, x13 => if x13 < x12 then (if 0 ≤ x13 then (if x13 < (x0.length : Int) then (if x13 < (x1.length : Int) then (if (rd x0 x13) = (rd x1 x13) then (slices_Equal_int_int.l0 k x0 x1 x12 (wrap64 (x13 + 1))) else (some false)) else (none)) else (none)) else (none)) else (some true)
def slices_Equal_int_int.f (k : Nat) (l0 : List Int) (l1 : List Int) : Option (Bool) := if (l0.length : Int) = (l1.length : Int) then (slices_Equal_int_int.l0 k l0 l1 (l0.length : Int) 0) else (some false)
set_option maxHeartbeats 8000000 in
set_option maxRecDepth 100000 in
theorem slices_Equal_int_int.calls (k : Nat) (A0 : Option Addr) (c0 : Nat) (l0 : List Int) (A1 : Option Addr) (c1 : Nat) (l1 : List Int) (r : Bool) (w : World) (hr0 : Kd.C (Kd.int .i64) w A0 l0.length l0) (hc0 : l0.length ≤ c0) (hr1 : Kd.C (Kd.int .i64) w A1 l1.length l1) (hc1 : l1.length ≤ c1) (h : slices_Equal_int_int.f k l0 l1 = some r) :
    Calls Tryz.prog 26 #[.slice A0 l0.length c0, .slice A1 l1.length c1] w fun e w' => e = .returned (.bool r) ∧ Drawn0 w w' := by
  have HR0 := Aside0.mk hr0
  have HC0 := Aside0.mk hc0
  clear hr0 hc0
  have HR1 := Aside0.mk hr1
  have HC1 := Aside0.mk hc1
  clear hr1 hc1
  have H : (if (l0.length : Int) = (l1.length : Int) then (slices_Equal_int_int.l0 k l0 l1 (l0.length : Int) 0) else (some false)) = some r := h
  clear h
  by_cases c3 : (l0.length : Int) = (l1.length : Int)
  · rw [if_pos c3] at H
    have c3b0 : ((l0.length : Int) == (l1.length : Int)) = true := beq_iff_eq.mpr c3
    have c3b1 : ((l0.length : Int) != (l1.length : Int)) = false := bne_eq_false_iff_eq.mpr c3
    have c3b2 : (l0.length == l1.length) = true := by first | simpa using c3 | (simp at c3 ⊢; omega)
    clear c3
    have H' := Aside0.mk H
    clear H
    go_enter Tryz.func26, Tryz.ntmps26
    go_wp2
    repeat (go_quiet (fail); try go_wp2)
    go_loopg [13] k (fun kq v13 w' => ∃ (x13_1 : Int), v13 = .int .i64 x13_1 ∧ Aside0 (slices_Equal_int_int.l0 kq l0 l1 (l0.length : Int) x13_1 = some r) ∧ Aside0 (kq ≤ k) ∧ Drawn0 w w')
    case atStart => exact ⟨(0), (by first | rfl | (simp; done) | (simp [*]; done)), H', ⟨Nat.le_refl _⟩, by repeat (first | exact Drawn0.refl _ | apply Drawn0.step)⟩
    case round =>
      clear H'
      try clear c1
      try clear c2
      try clear p2
      try clear c3
      try clear c3b0
      try clear c3b1
      try clear c3b2
      obtain ⟨x13_1, rfl, HA, HK1, ⟨m1, rfl⟩⟩ := hrel
      cases gk with
      | zero => exact absurd HA.out (by simp [slices_Equal_int_int.l0])
      | succ k1 =>
        have H := HA.out
        clear HA
        simp only [slices_Equal_int_int.l0] at H
        by_cases c4 : x13_1 < (l0.length : Int)
        · rw [if_pos c4] at H
          have c4b0 : decide (x13_1 < (l0.length : Int)) = true := decide_eq_true c4
          clear c4
          by_cases c5 : 0 ≤ x13_1
          · rw [if_pos c5] at H
            have c5b0 : decide (0 ≤ x13_1) = true := decide_eq_true c5
            clear c5
            by_cases c6 : x13_1 < (l0.length : Int)
            · rw [if_pos c6] at H
              have c6b0 : decide (x13_1 < (l0.length : Int)) = true := decide_eq_true c6
              clear c6
              by_cases c7 : x13_1 < (l1.length : Int)
              · rw [if_pos c7] at H
                have c7b0 : decide (x13_1 < (l1.length : Int)) = true := decide_eq_true c7
                clear c7
                by_cases c8 : (rd l0 x13_1) = (rd l1 x13_1)
                · rw [if_pos c8] at H
                  have c8b0 : ((rd l0 x13_1) == (rd l1 x13_1)) = true := beq_iff_eq.mpr c8
                  have c8b1 : ((rd l0 x13_1) != (rd l1 x13_1)) = false := bne_eq_false_iff_eq.mpr c8
                  clear c8
                  have H' := Aside0.mk H
                  clear H
                  have p153 : 0 ≤ (x13_1 : Int) := of_decide_eq_true (by first | (with_reducible assumption) | assumption)
                  have q153 : x13_1 < (l0.length : Int) := of_decide_eq_true (by first | (with_reducible assumption) | assumption)
                  obtain ⟨ad153, e153, hx153_0⟩ := Kd.at_int HR0.out x13_1 p153 q153
                  cases e153
                  replace p153 := eq_true p153
                  replace q153 := eq_true q153
                  have p154 : 0 ≤ (x13_1 : Int) := of_decide_eq_true (by first | (with_reducible assumption) | assumption)
                  have q154 : x13_1 < (l1.length : Int) := of_decide_eq_true (by first | (with_reducible assumption) | assumption)
                  obtain ⟨ad154, e154, hx154_0⟩ := Kd.at_int HR1.out x13_1 p154 q154
                  cases e154
                  replace p154 := eq_true p154
                  replace q154 := eq_true q154
                  go_wp2
                  repeat (go_quiet (fail); try go_wp2)
                  go_roundg k1
                  case measure => have := HK1.out; omega
                  case rel => exact ⟨(wrap64 (x13_1 + 1)), (by first | rfl | (simp; done) | (simp [*]; done)), H', ⟨by have := HK1.out; omega⟩, by repeat (first | exact Drawn0.refl _ | apply Drawn0.step)⟩
                · rw [if_neg c8] at H
                  have c8b0 : ((rd l0 x13_1) == (rd l1 x13_1)) = false := beq_eq_false_iff_ne.mpr c8
                  have c8b1 : ((rd l0 x13_1) != (rd l1 x13_1)) = true := bne_iff_ne.mpr c8
                  obtain rfl := Option.some.inj H
                  have p153 : 0 ≤ (x13_1 : Int) := of_decide_eq_true (by first | (with_reducible assumption) | assumption)
                  have q153 : x13_1 < (l0.length : Int) := of_decide_eq_true (by first | (with_reducible assumption) | assumption)
                  obtain ⟨ad153, e153, hx153_0⟩ := Kd.at_int HR0.out x13_1 p153 q153
                  cases e153
                  replace p153 := eq_true p153
                  replace q153 := eq_true q153
                  have p154 : 0 ≤ (x13_1 : Int) := of_decide_eq_true (by first | (with_reducible assumption) | assumption)
                  have q154 : x13_1 < (l1.length : Int) := of_decide_eq_true (by first | (with_reducible assumption) | assumption)
                  obtain ⟨ad154, e154, hx154_0⟩ := Kd.at_int HR1.out x13_1 p154 q154
                  cases e154
                  replace p154 := eq_true p154
                  replace q154 := eq_true q154
                  go_wp2
                  repeat (go_quiet (fail); try go_wp2)
                  go_ret
                  exact ⟨by first | rfl | (simp; done) | (simp [*]; done), by repeat (first | exact Drawn0.refl _ | apply Drawn0.step)⟩
              · rw [if_neg c7] at H
                exact absurd H (by simp)
            · rw [if_neg c6] at H
              exact absurd H (by simp)
          · rw [if_neg c5] at H
            exact absurd H (by simp)
        · rw [if_neg c4] at H
          have c4b0 : decide (x13_1 < (l0.length : Int)) = false := decide_eq_false c4
          clear c4
          obtain rfl := Option.some.inj H
          go_wp2
          repeat (go_quiet (fail); try go_wp2)
          go_ret
          exact ⟨by first | rfl | (simp; done) | (simp [*]; done), by repeat (first | exact Drawn0.refl _ | apply Drawn0.step)⟩
  · rw [if_neg c3] at H
    have c3b0 : ((l0.length : Int) == (l1.length : Int)) = false := beq_eq_false_iff_ne.mpr c3
    have c3b1 : ((l0.length : Int) != (l1.length : Int)) = true := bne_iff_ne.mpr c3
    have c3b2 : (l0.length == l1.length) = false := by first | simpa using c3 | (simp at c3 ⊢; omega)
    obtain rfl := Option.some.inj H
    go_enter Tryz.func26, Tryz.ntmps26
    go_wp2
    repeat (go_quiet (fail); try go_wp2)
    go_ret
    exact ⟨by first | rfl | (simp; done) | (simp [*]; done), by repeat (first | exact Drawn0.refl _ | apply Drawn0.step)⟩





def slices_Clone_int_int.f (l0 : List Int) : Option (List Int) := if l0.length < 17592186044416 then some l0 else none
set_option maxHeartbeats 800000 in
set_option maxRecDepth 100000 in
theorem slices_Clone_int_int.calls (A0 : Option Addr) (c0 : Nat) (l0 : List Int) (r : List Int) (w : World) (hr0 : Kd.C (Kd.int .i64) w A0 l0.length l0) (hc0 : l0.length ≤ c0) (h : slices_Clone_int_int.f l0 = some r) :
    Calls Tryz.prog 13 #[.slice A0 l0.length c0] w fun e w' => ∃ v0_ : Value, e = .returned v0_ ∧ Kd.R (Kd.int .i64) 3 w' w.heap.size (fun _ => True) v0_ r ∧ Below w.heap.size w w' := by
  obtain ⟨hlim, rfl⟩ : l0.length < 17592186044416 ∧ r = l0 := by
    unfold slices_Clone_int_int.f at h
    split at h
    · rename_i h9
      exact ⟨h9, (Option.some.inj h).symm⟩
    · cases h
  have hnil := Lib.run_eql_slice_nil (P := Tryz.prog) (h := Tryz.underlying42)
  have HR := Aside0.mk hr0
  have HL := Aside0.mk hlim
  cases A0 with
  | none =>
    have e0 : r = [] := by
      rcases Nat.eq_zero_or_pos r.length with h0 | h0
      · exact List.length_eq_zero_iff.1 h0
      · obtain ⟨ad, e, _⟩ := hr0.2.2 h0
        cases e
    have E0 := Aside0.mk e0
    clear h hr0 hlim e0
    go_enter Tryz.func13, Tryz.ntmps13
    go_wp2
    go_ret
    refine ⟨_, rfl, ?_, Below.refl _ _⟩
    rw [E0.out]
    exact Kd.R_nil _ _ _ _ _
  | some ad =>
    clear h hr0 hlim
    go_enter Tryz.func13, Tryz.ntmps13
    go_wp2_with (first | ((with_reducible refine gate_dst (N := 5) rfl ?_); refine Kd.R_lit (Kd.int .i64) _ 3 ?hg (N := 5) ?hd (xs := ([] : List Int)) (inner := []) (ok := fun _ => True) (okp := fun _ => True) ?hr ?hp (fun _ hk => hk) trivial (Below.refl _ _) (Nat.le_refl _) (by simp) ?_; (case hd => rfl); (case hg => rfl); (case hr => first | (go_simp; done) | (go_simp; rfl)); (case hp => exact (Reps.none _ _)); intro v1 w1 ho1 hb1 _ _; have n1 := Aside0.mk ho1; have n2 := Aside0.mk hb1; clear ho1 hb1; obtain ⟨A1, c1, e1⟩ := Kd.R_slice n1.out; subst e1) | ((with_reducible refine gate_builtin (b := .append) (xs := #[.tmp 5, .tmp 6]) rfl ?_); at_builtin; refine Kd.R_append_rows (Kd.int .i64) (w0 := w) w.heap.size rfl (.tmp 5) (.tmp 6) 42 3 (.int .i64 0) 8 rfl Tryz.underlying42 info3 rfl (by decide) (by omega) (.slice A1 (([] : List Int)).length c1) ([] : List Int) r _ _ _ (fun _ => True) (fun _ => False) rfl rfl ?aO ?aR (fun _ _ h => h) (fun _ h => h.elim) ?aF ?aB ?aS ?aL ?_; (case aR => exact Kd.C_below HR.out n2.out); (case aB => exact n2.out); (case aF => exact (fun _ _ => trivial)); (case aO => exact n1.out); (case aS => exact n2.out.size); (case aL => have h9 := HL.out; simp only [List.length_nil]; omega); intro v2 w2 ho2 hb2 _ _; have n3 := Aside0.mk ho2; have n4 := Aside0.mk hb2; clear ho2 hb2))
    go_ret
    exact ⟨_, rfl, n3.out, n4.out⟩


def types_Fields.f (l0 : List S38) (a1 : Int) : Option (List S41) := if (climbL l0 a1).length < 17592186044416 ∧ ((climbL l0 a1).reverse.flatMap fun c => (rd_T38 l0 c).f2).length < 5864062014805 then some ((climbL l0 a1).reverse.flatMap fun c => (rd_T38 l0 c).f2) else none
set_option maxHeartbeats 800000 in
set_option maxRecDepth 100000 in
theorem types_Fields_step (B : Nat) (base : Nat) (x : Int) (ys : List Int) (v : Value) (W : World) (hI : W.heap[B]? = some (.cells #[v] 42 (0, 0))) (hbase : base ≤ W.heap.size) (hv : Kd.R (Kd.int .i64) 3 W base (fun _ => True) v ys) (hl : ys.length < 17592186044416) :
    Calls Tryz.prog 65 #[.int .i64 x, .pointer (some ⟨B, 0, none⟩)] W fun e W' => e = .returned (.bool true) ∧ (∃ v1 : Value, W'.heap[B]? = some (.cells #[v1] 42 (0, 0)) ∧ Kd.R (Kd.int .i64) 3 W' base (fun _ => True) v1 (ys ++ [x])) ∧ (∀ u, Below base u W → base ≤ B → Below base u W') := by
  obtain ⟨Ao, co, rfl⟩ := Kd.R_slice hv
  have hc := blk_cell hI 0
  have HI := Aside0.mk hI
  have HV := Aside0.mk hv
  have HL := Aside0.mk hl
  have HBA := Aside0.mk hbase
  clear hI hv hl hbase
  go_enter Tryz.func65, Tryz.ntmps65
  go_wp2_with (first | ((with_reducible refine gate_builtin (b := .append) (xs := #[.tmp 4, .tmp 6]) rfl ?_); at_builtin; refine Kd.R_append (Kd.int .i64) (w0 := W) base rfl (.tmp 4) (.tmp 6) 42 3 (.int .i64 0) 8 rfl Tryz.underlying42 info3 rfl (by decide) (by omega) (.slice Ao ys.length co) ys x [.int .i64 x] (fun _ => True) (fun _ => False) rfl rfl ?aP (fun _ hk => hk.elim) ?aF ?aO ?aB ?aS ?aL ?_; (case aP => exact rfl); (case aB => exact Below.refl _ _); (case aF => exact (fun _ _ => trivial)); (case aO => exact HV.out); (case aS => exact HBA.out); (case aL => have := HL.out; omega); intro v1 w1 ho hb hg hat; obtain ⟨A2, c2, e2⟩ := Kd.R_slice ho; subst e2; rw [List.length_append, List.length_singleton] at ho; have hI1 := blk_grown HI.out hg (Kd.R_ne HV.out HI.out (by decide)); have hc1 := blk_cell hI1 0; have hf1 := blk_frozen hI1 0; have HI1 := Aside0.mk hI1; have HO := Aside0.mk ho; have HB := Aside0.mk hb; clear hI1 ho hb hg hat))
  go_ret
  refine ⟨rfl, ⟨_, blk_set HI1.out 0 _, Kd.R_set HO.out HI1.out (by decide) _ _⟩, fun u hu hB => ?_⟩
  exact (hu.trans HB.out).setCell hB _
structure FieldsInv (W0 : World) (r : List Int) (xs : List Int) (W : World) : Prop where
  now : ∃ (v : Value) (ys : List Int), W.heap[W0.heap.size]? = some (.cells #[v] 42 (0, 0)) ∧ Kd.R (Kd.int .i64) 3 W W0.heap.size (fun _ => True) v ys ∧ ys ++ xs = r
  below : Below W0.heap.size W0 W
structure FieldsFin (W0 : World) (r : List Int) (W : World) : Prop where
  now : ∃ v : Value, W.heap[W0.heap.size]? = some (.cells #[v] 42 (0, 0)) ∧ Kd.R (Kd.int .i64) 3 W W0.heap.size (fun _ => True) v r
  below : Below W0.heap.size W0 W
def laidFields (l : List S38) (line : List Int) (d : Nat) : List S41 := (line.drop d).reverse.flatMap fun c => (rd_T38 l c).f2
theorem laid_next (l : List S38) (line : List Int) (d : Nat) (h : d < line.length) : laidFields l line d = laidFields l line (d + 1) ++ (rd_T38 l (rd line d)).f2 := by
  unfold laidFields
  rw [List.drop_eq_getElem_cons h, List.reverse_cons, List.flatMap_append]
  simp [rd, List.getD_eq_getElem?_getD, h]
theorem laid_le (l : List S38) (line : List Int) (d : Nat) : (laidFields l line d).length ≤ (laidFields l line 0).length := by
  unfold laidFields
  have : line.drop 0 = line.take d ++ line.drop d := by simp
  rw [this, List.reverse_append, List.flatMap_append, List.length_append]
  omega
set_option maxHeartbeats 1600000 in
set_option maxRecDepth 100000 in
theorem types_Fields.calls (A0 : Option Addr) (c0 : Nat) (l0 : List S38) (a1 : Int) (r : List S41) (w : World) (hr0 : Kd.C k38 w A0 l0.length l0) (hc0 : l0.length ≤ c0) (h : types_Fields.f l0 a1 = some r) :
    Calls Tryz.prog 44 #[.slice A0 l0.length c0, .int .i64 a1] w fun e w' => ∃ v0_ : Value, e = .returned v0_ ∧ Kd.R k41 41 w' w.heap.size (fun _ => True) v0_ r ∧ Below w.heap.size w w' := by
  have hmf : ∀ (fn : Fn) (first cap : Array Value) (w : World), (Instr.makeFunc fn first cap).run Tryz.prog w = .ok (.func fn first cap) w := fun _ _ _ _ => rfl
  have HR := Aside0.mk hr0
  have HC := Aside0.mk hc0
  obtain ⟨line, hline⟩ : ∃ l, l = climbL l0 a1 := ⟨_, rfl⟩
  obtain ⟨hlim0, hlim, hr⟩ : line.length < 17592186044416 ∧ (laidFields l0 line 0).length < 5864062014805 ∧ r = laidFields l0 line 0 := by
    unfold types_Fields.f at h
    split at h
    · rename_i h9
      unfold laidFields
      rw [hline, List.drop_zero]
      exact ⟨h9.1, h9.2, (Option.some.inj h).symm⟩
    · cases h
  have hlen : l0.length ≤ 9223372036854775807 := hr0.2.1
  have hcl := climbL_length l0 a1
  have hmem := climbL_mem l0 a1
  rw [← hline] at hcl hmem
  subst hr
  have HLIM := Aside0.mk hlim
  have HMEM := Aside0.mk hmem
  have HLINE := Aside0.mk hline
  have hl0 : line.length ≤ 9223372036854775807 := by omega
  have HLEN := Aside0.mk hlim0
  clear hr0 hc0 h hlim hline hlen hcl hmem hlim0
  go_enter Tryz.func44, Tryz.ntmps44
  go_wp2_with fail
  refine (climb_any 65 _ A0 c0 l0 w HR.out (FieldsInv w line) (FieldsFin w line) (fun _ _ h => h.below) ?_ ?_ (callFunc_run Tryz.func65 (by kernel_rfl) (by kernel_rfl)) a1 _ ?_).mono ?_
  · rintro W ⟨⟨v, ys, h1, h2, h3⟩, h4⟩
    rw [List.append_nil] at h3
    subst h3
    exact ⟨⟨v, h1, h2⟩, h4⟩
  · rintro x xs W ⟨⟨v, ys, h1, h2, h3⟩, h4⟩
    have hyl : ys.length < line.length := by rw [← h3]; simp
    have := HLEN.out
    refine (types_Fields_step _ w.heap.size x ys v W h1 h4.size h2 (by omega)).mono ?_
    rintro e W' ⟨rfl, ⟨v1, h5, h6⟩, h7⟩
    left
    exact ⟨rfl, ⟨v1, ys ++ [x], h5, h6, by simpa using h3⟩, h7 _ h4 (Nat.le_refl _)⟩
  · exact ⟨⟨.slice none 0 0, [], blk_new _ _, Kd.R_nil _ _ _ _ _, HLINE.out.symm⟩, (Below.refl _ _).alloc (Nat.le_refl _) _⟩
  · rintro e w1 ⟨rfl, ⟨v, h1, h2⟩, h3⟩
    obtain ⟨Ao, co, rfl⟩ := Kd.R_slice h2
    have hc := blk_cell h1 0
    have HI := Aside0.mk h1
    have HV := Aside0.mk h2
    have HB := Aside0.mk h3
    clear h1 h2 h3
    go_wp2
    go_loopw [6, 7] (fun v6 v7 wr => ∃ y : Int, v7 = .int .i64 y ∧ -1 ≤ y ∧ y < line.length ∧ Aside0 (Kd.R k41 41 wr w.heap.size (fun _ => True) v6 (laidFields l0 line (y + 1).toNat)) ∧ Aside0 (wr.heap[w.heap.size]? = some (.cells #[.slice Ao line.length co] 42 (0, 0))) ∧ Aside0 (Kd.R (Kd.int .i64) 3 wr w.heap.size (fun _ => True) (.slice Ao line.length co) line) ∧ Aside0 (Below w.heap.size w wr)) (fun _ v7 _ => (intOf v7 + 1).toNat)
    case atStart =>
      refine ⟨_, rfl, by omega, by omega, ⟨?_⟩, HI, HV, HB⟩
      have e : ((line.length : Int) - 1 + 1).toNat = line.length := by omega
      have e2 : laidFields l0 line line.length = [] := by unfold laidFields; simp
      rw [e, e2]
      exact Kd.R_nil _ _ _ _ _
    case round =>
      obtain ⟨y, rfl, hy0, hy1, HO, HI, HV, HB⟩ := hrel
      obtain ⟨A6, c6, rfl⟩ := Kd.R_slice HO.out
      by_cases c1 : 0 ≤ y
      · have c1b : decide (0 ≤ y) = true := decide_eq_true c1
        have hc := blk_cell HI.out 0
        obtain ⟨ad, e0, hx0⟩ := Kd.at_int (Kd.R_reads' HV.out).2.2 y c1 hy1
        cases e0
        have hrange := HMEM.out (rd line y) (by
          have : y.toNat < line.length := by omega
          simp [rd, List.getD_eq_getElem?_getD, this])
        obtain ⟨hr1, hr2⟩ := hrange
        obtain ⟨ad2, A2, c2, e1, _, _, hx2, hl2, hi2⟩ := at_T38 HR.out (rd line y) hr1 hr2
        cases e1
        replace hx2 := (HB.out.cell (World.block_lt_of_cell? w _ hx2)).trans hx2
        have HR2 := Aside0.mk hi2
        have HC2 := Aside0.mk hl2
        have hnext := laid_next l0 line y.toNat (by omega)
        have ey : (y + 1).toNat = y.toNat + 1 := by omega
        have eyy : ((y.toNat : Nat) : Int) = y := by omega
        rw [← ey, eyy] at hnext
        have HNEXT := Aside0.mk hnext
        have HLE := Aside0.mk (Nat.lt_of_le_of_lt (laid_le l0 line y.toNat) HLIM.out)
        clear hi2 hl2 hnext ey eyy
        have p3 := eq_true hr1
        have p4 := eq_true hr2
        clear hr1 hr2
        go_wp2_with (first | ((with_reducible refine gate_builtin (b := .append) (xs := #[.tmp 19, .tmp 27]) rfl ?_); at_builtin; refine Kd.R_append_rows k41 (w0 := w) w.heap.size rfl (.tmp 19) (.tmp 27) 36 41 (.agg #[(.string ⟨#[]⟩), (.int .u8 0)]) 24 rfl Tryz.underlying36 info41 rfl (by decide) (by omega) (.slice A6 (laidFields l0 line (y + 1).toNat).length c6) (laidFields l0 line (y + 1).toNat) ((rd_T38 l0 (rd line y)).f2) _ _ _ (fun _ => True) (fun _ => False) rfl rfl ?aO ?aR (fun _ _ h => h) (fun _ h => h.elim) ?aF ?aB ?aS ?aL ?_; (case aR => exact Kd.C_below HR2.out HB.out); (case aB => exact HB.out); (case aF => exact (fun _ _ => trivial)); (case aO => exact HO.out); (case aS => exact HB.out.size); (case aL => have h9 := HLE.out; have h8 := congrArg List.length HNEXT.out; rw [List.length_append] at h8; omega); intro v1 w2 ho hb hg hat; rw [← HNEXT.out] at ho; have n0 := Aside0.mk ho; have n1 := Aside0.mk hb; have n2 := Aside0.mk (blk_grown HI.out hg (Kd.R_ne HO.out HI.out (by decide))); have n3 := Aside0.mk (Kd.R_over' HV.out (Kd.R_typed HO.out) (by decide) hg); clear HO HB HI HV ho hb hg hat))
        go_roundw
        case rel => exact ⟨y - 1, rfl, by omega, by omega, by rw [show (y - 1 + 1).toNat = y.toNat by omega]; exact n0, n2, n3, n1⟩
        case measure => simp [intOf]; omega
      · have c1b : decide (0 ≤ y) = false := decide_eq_false c1
        have ey : (y + 1).toNat = 0 := by omega
        have HO3 : Aside0 (Kd.R k41 41 wr w.heap.size (fun _ => True) (.slice A6 (laidFields l0 line (y + 1).toNat).length c6) (laidFields l0 line 0)) := ⟨by have h9 := HO.out; rw [ey] at h9 ⊢; exact h9⟩
        clear ey
        go_wp2
        go_ret
        exact ⟨_, rfl, HO3.out, HB.out⟩








def types_IsRef.f (a0 : Int) : Option (Bool) := if a0 = 3 then (some true) else (if a0 = 4 then (some true) else (if a0 = 5 then (some true) else (some (decide (a0 ≥ 16)))))
set_option maxHeartbeats 8000000 in
set_option maxRecDepth 100000 in
theorem types_IsRef.calls (a0 : Int) (r : Bool) (w : World) (h : types_IsRef.f a0 = some r) :
    Calls Tryz.prog 69 #[.int .u8 a0] w fun e w' => e = .returned (.bool r) ∧ Drawn0 w w' := by
  have H : (if a0 = 3 then (some true) else (if a0 = 4 then (some true) else (if a0 = 5 then (some true) else (some (decide (a0 ≥ 16)))))) = some r := h
  clear h
  by_cases c2 : a0 = 3
  · rw [if_pos c2] at H
    have c2b0 : (a0 == 3) = true := beq_iff_eq.mpr c2
    have c2b1 : (a0 != 3) = false := bne_eq_false_iff_eq.mpr c2
    clear c2
    obtain rfl := Option.some.inj H
    go_enter Tryz.func69, Tryz.ntmps69
    go_wp2
    go_ret
    exact ⟨by first | rfl | (simp; done) | (simp [*]; done), by repeat (first | exact Drawn0.refl _ | apply Drawn0.step)⟩
  · rw [if_neg c2] at H
    have c2b0 : (a0 == 3) = false := beq_eq_false_iff_ne.mpr c2
    have c2b1 : (a0 != 3) = true := bne_iff_ne.mpr c2
    by_cases c3 : a0 = 4
    · rw [if_pos c3] at H
      have c3b0 : (a0 == 4) = true := beq_iff_eq.mpr c3
      have c3b1 : (a0 != 4) = false := bne_eq_false_iff_eq.mpr c3
      clear c3
      obtain rfl := Option.some.inj H
      go_enter Tryz.func69, Tryz.ntmps69
      go_wp2
      go_ret
      exact ⟨by first | rfl | (simp; done) | (simp [*]; done), by repeat (first | exact Drawn0.refl _ | apply Drawn0.step)⟩
    · rw [if_neg c3] at H
      have c3b0 : (a0 == 4) = false := beq_eq_false_iff_ne.mpr c3
      have c3b1 : (a0 != 4) = true := bne_iff_ne.mpr c3
      by_cases c4 : a0 = 5
      · rw [if_pos c4] at H
        have c4b0 : (a0 == 5) = true := beq_iff_eq.mpr c4
        have c4b1 : (a0 != 5) = false := bne_eq_false_iff_eq.mpr c4
        clear c4
        obtain rfl := Option.some.inj H
        go_enter Tryz.func69, Tryz.ntmps69
        go_wp2
        go_ret
        exact ⟨by first | rfl | (simp; done) | (simp [*]; done), by repeat (first | exact Drawn0.refl _ | apply Drawn0.step)⟩
      · rw [if_neg c4] at H
        have c4b0 : (a0 == 5) = false := beq_eq_false_iff_ne.mpr c4
        have c4b1 : (a0 != 5) = true := bne_iff_ne.mpr c4
        obtain rfl := Option.some.inj H
        go_enter Tryz.func69, Tryz.ntmps69
        go_wp2
        go_ret
        exact ⟨by first | rfl | (simp; done) | (simp [*]; done), by repeat (first | exact Drawn0.refl _ | apply Drawn0.step)⟩




def provisoref02_IsRef.f (a0 : Int) : Option (Bool) := if a0 = 3 then (some true) else (if a0 = 4 then (some true) else (if a0 = 5 then (some true) else (some (decide (a0 ≥ 16)))))
set_option maxHeartbeats 8000000 in
set_option maxRecDepth 100000 in
theorem provisoref02_IsRef.calls (a0 : Int) (r : Bool) (w : World) (h : provisoref02_IsRef.f a0 = some r) :
    Calls Tryz.prog 73 #[.int .u8 a0] w fun e w' => e = .returned (.bool r) ∧ Drawn0 w w' := by
  have H : (if a0 = 3 then (some true) else (if a0 = 4 then (some true) else (if a0 = 5 then (some true) else (some (decide (a0 ≥ 16)))))) = some r := h
  clear h
  by_cases c2 : a0 = 3
  · rw [if_pos c2] at H
    have c2b0 : (a0 == 3) = true := beq_iff_eq.mpr c2
    have c2b1 : (a0 != 3) = false := bne_eq_false_iff_eq.mpr c2
    clear c2
    obtain rfl := Option.some.inj H
    go_enter Tryz.func73, Tryz.ntmps73
    go_wp2
    go_ret
    exact ⟨by first | rfl | (simp; done) | (simp [*]; done), by repeat (first | exact Drawn0.refl _ | apply Drawn0.step)⟩
  · rw [if_neg c2] at H
    have c2b0 : (a0 == 3) = false := beq_eq_false_iff_ne.mpr c2
    have c2b1 : (a0 != 3) = true := bne_iff_ne.mpr c2
    by_cases c3 : a0 = 4
    · rw [if_pos c3] at H
      have c3b0 : (a0 == 4) = true := beq_iff_eq.mpr c3
      have c3b1 : (a0 != 4) = false := bne_eq_false_iff_eq.mpr c3
      clear c3
      obtain rfl := Option.some.inj H
      go_enter Tryz.func73, Tryz.ntmps73
      go_wp2
      go_ret
      exact ⟨by first | rfl | (simp; done) | (simp [*]; done), by repeat (first | exact Drawn0.refl _ | apply Drawn0.step)⟩
    · rw [if_neg c3] at H
      have c3b0 : (a0 == 4) = false := beq_eq_false_iff_ne.mpr c3
      have c3b1 : (a0 != 4) = true := bne_iff_ne.mpr c3
      by_cases c4 : a0 = 5
      · rw [if_pos c4] at H
        have c4b0 : (a0 == 5) = true := beq_iff_eq.mpr c4
        have c4b1 : (a0 != 5) = false := bne_eq_false_iff_eq.mpr c4
        clear c4
        obtain rfl := Option.some.inj H
        go_enter Tryz.func73, Tryz.ntmps73
        go_wp2
        go_ret
        exact ⟨by first | rfl | (simp; done) | (simp [*]; done), by repeat (first | exact Drawn0.refl _ | apply Drawn0.step)⟩
      · rw [if_neg c4] at H
        have c4b0 : (a0 == 5) = false := beq_eq_false_iff_ne.mpr c4
        have c4b1 : (a0 != 5) = true := bne_iff_ne.mpr c4
        obtain rfl := Option.some.inj H
        go_enter Tryz.func73, Tryz.ntmps73
        go_wp2
        go_ret
        exact ⟨by first | rfl | (simp; done) | (simp [*]; done), by repeat (first | exact Drawn0.refl _ | apply Drawn0.step)⟩







end Go.Proofs.YtkjagcamikkjkaaGreat.P

end

section
namespace Go.Proofs.YtkjagcamikkjkaaGreat.P
open Go.RowKit Go.Proofs.YtkjagcamikkjkaaGreatW.PrintWords Go.Proofs.YtkjagcamikkjkaaGreatW.PrintLast Go.Proofs.YtkjagcamikkjkaaGreatW.PrintMore
attribute [local go_sem] max2_int min2_int max_two min_two max_three min_three max_four min_four
set_option linter.unusedVariables false
set_option linter.unusedSimpArgs false
section
variable {P : Program} {ops : Array Oper} {rest : List Oper} {o : Oper} {a : Act} {Q : Exit → Act → World → Prop} {K : Act → World → Prop}
structure Rws (w0 : World) (l : List (Nat × TypeId × Array Value)) (W : World) : Prop where
  lies : ∀ p ∈ l, W.heap[p.1]? = some (.cells p.2.2 p.2.1 (0, 0)) ∧ w0.heap.size ≤ p.1
  ne : (l.map Prod.fst).Nodup
  below : Below w0.heap.size w0 W
theorem Rws.nil (w : World) : Rws w [] w := ⟨fun _ h => by simp at h, by simp, Below.refl _ _⟩
theorem Rws.step {w0 W W1 : World} {l : List (Nat × TypeId × Array Value)} (h : Rws w0 l W) (hb : Below W.heap.size W W1) : Rws w0 l W1 := ⟨fun p hp => ⟨blk_below (h.lies p hp).1 hb, (h.lies p hp).2⟩, h.ne, below_step h.below hb⟩
theorem Rws.drewN {w0 W : World} {l : List (Nat × TypeId × Array Value)} (h : Rws w0 l W) (m : Nat) : Rws w0 l (W.drewN m) := h.step (pw_below_drewN (Below.refl _ _) m)
theorem Rws.mem {w0 W : World} {l : List (Nat × TypeId × Array Value)} (h : Rws w0 l W) {g : Nat} {t : TypeId} {cs : Array Value} (hm : (g, t, cs) ∈ l) : W.heap[g]? = some (.cells cs t (0, 0)) := (h.lies _ hm).1
theorem Rws.add {w0 W : World} {l : List (Nat × TypeId × Array Value)} (h : Rws w0 l W) (t : TypeId) (cs : Array Value) : Rws w0 ((W.heap.size, t, cs) :: l) (W.alloc (.cells cs t (0, 0))) := by
  have hb : Below W.heap.size W (W.alloc (.cells cs t (0, 0))) := below_alloc (Below.refl _ _) _
  refine ⟨fun p hp => ?_, ?_, below_step h.below hb⟩
  · rcases List.mem_cons.1 hp with rfl | hp
    · exact ⟨blk_new W _, h.below.size⟩
    · exact ⟨blk_below (h.lies p hp).1 hb, (h.lies p hp).2⟩
  · rw [List.map_cons, List.nodup_cons]
    refine ⟨fun hm => ?_, h.ne⟩
    obtain ⟨p, hp, e⟩ := List.mem_map.1 hm
    have := blk_lt (h.lies p hp).1
    have e : p.1 = W.heap.size := e
    omega
theorem Rws.put {w0 W W1 : World} (l1 : List (Nat × TypeId × Array Value)) {l2 : List (Nat × TypeId × Array Value)} {g : Nat} {t : TypeId} {cs cs' : Array Value} (h : Rws w0 (l1 ++ (g, t, cs) :: l2) W) (hx : W1.heap[g]? = some (.cells cs' t (0, 0))) (hk : Kept W W1 (fun k => k = g)) (hb : ∀ (B : Nat) (w0 : World), B ≤ g → Below B w0 W → Below B w0 W1) : Rws w0 (l1 ++ (g, t, cs') :: l2) W1 := by
  have hn : ((l1 ++ (g, t, cs) :: l2).map Prod.fst) = ((l1 ++ (g, t, cs') :: l2).map Prod.fst) := by simp
  have hne := h.ne
  have hge := (h.lies (g, t, cs) (by simp)).2
  refine ⟨fun p hp => ?_, hn ▸ hne, hb _ _ hge h.below⟩
  have hnd : ∀ q ∈ l1 ++ l2, q.1 ≠ g := by
    rw [List.map_append, List.map_cons, List.nodup_append] at hne
    intro q hq e
    rcases List.mem_append.1 hq with hq | hq
    · exact hne.2.2 q.1 (List.mem_map.2 ⟨q, hq, rfl⟩) g (by simp) e
    · have := (List.nodup_cons.1 hne.2.1).1
      exact this (List.mem_map.2 ⟨q, hq, e⟩)
  rcases List.mem_append.1 hp with hp | hp
  · have hq := h.lies p (List.mem_append.2 (.inl hp))
    exact ⟨blk_kept hq.1 hk (fun e => hnd p (List.mem_append.2 (.inl hp)) e), hq.2⟩
  · rcases List.mem_cons.1 hp with rfl | hp
    · exact ⟨hx, hge⟩
    · have hq := h.lies p (List.mem_append.2 (.inr (List.mem_cons_of_mem _ hp)))
      exact ⟨blk_kept hq.1 hk (fun e => hnd p (List.mem_append.2 (.inr hp)) e), hq.2⟩
theorem rw_box (hgd : o.guard = none) (ty : TypeId) {x : Operand} (ho : o.op = .box ty x) {cs : Array Value} (hx : a.eval x = .agg cs) {w0 W : World} {l : List (Nat × TypeId × Array Value)} (hl : Rws w0 l W)
    (h : ∀ g w1, Rws w0 ((g, ty, cs) :: l) w1 → wpList P ops Q rest (a.put o.dst (.pointer (some ⟨g, 0, none⟩))) w1) : wpList P ops Q (o :: rest) a W :=
  Kd.event_run hgd (by
    unfold execOp
    simp only [ho, hx]
    simp [Instr.box, newVar, newRow, Value.cells, Sem.run_bind]) (h W.heap.size _ (hl.add ty cs))
theorem rw_alloc_wp (ty : TypeId) (ho : o.op = .alloc ty) {cs : Array Value} (hz : (P.info? ty).map (·.zero) = some (some (.agg cs))) {w0 W : World} {l : List (Nat × TypeId × Array Value)} (hl : Rws w0 l W)
    (h : ∀ g w1, g = W.heap.size → Rws w0 ((g, ty, cs) :: l) w1 → Below W.heap.size W w1 → K (a.put o.dst (.pointer (some ⟨g, 0, none⟩))) w1) : Oper.wp P o a W K Q := by
  have hrun : (execOp a.eval o).run P W = .ok (.value (.pointer (some ⟨W.heap.size, 0, none⟩))) (W.alloc (.cells cs ty (0, 0))) := by
    unfold execOp
    cases hq : P.info? ty with
    | none => simp [hq] at hz
    | some i =>
      have hs : i.zero = some (.agg cs) := by simpa [hq] using hz
      simp only [ho]
      simp [Instr.alloc, zeroValue, typeInfo, hq, hs, newVar, newRow, Value.cells, Sem.run_bind]
  have hw := h W.heap.size _ rfl (hl.add ty cs) (below_alloc (Below.refl _ _) _)
  unfold Oper.wp
  rw [hrun]
  exact hw
theorem take_dst {S : World → Prop} {md : Region.Mode} {i : Nat} (N : Tmp) {oi : Oper} {v : Value} {fuel : Nat} {listed : Array Bool} {a : Act} {w : World} (hi : ops[i]? = some oi) (hN : oi.dst = some N)
    (hs : Region.noSelect ops = true) (hf : Region.free md ops listed i = true) (hr : (Region.ready md ops listed).contains i = true)
    (hQ : ∀ c a w, Q (.panic c) (a.put (some N) v) w → Q (.panic c) a w) (hy : YieldsIf P ops S oi v a) (hS : S w)
    (h : wpAnyH P md ops Q S fuel (listed.setIfInBounds i true) (a.put (some N) v) w) : wpAnyH P md ops Q S (fuel + 1) listed a w :=
  wpAnyH_take hi hs hf hr (by rw [hN]; exact hQ) hy hS (by rw [hN]; exact h)
end
section
variable {P : Program} {ops : Array Oper} {rest : List Oper} {o : Oper} {a : Act} {Q : Exit → Act → World → Prop} {K : Act → World → Prop}
theorem one_cells {u : Value} (h : u.oneCell' = true) : u.cells = #[u] := by cases u <;> first | rfl | cases h
theorem Rws.set {w0 W : World} (l1 : List (Nat × TypeId × Array Value)) {l2 : List (Nat × TypeId × Array Value)} {g : Nat} {t : TypeId} {cs : Array Value} (h : Rws w0 (l1 ++ (g, t, cs) :: l2) W) (i : Nat) (u : Value) : Rws w0 (l1 ++ (g, t, cs.setIfInBounds i u) :: l2) (W.setCell ⟨g, i, none⟩ u) :=
  h.put l1 (blk_set (h.mem (g := g) (t := t) (cs := cs) (by simp)) i u) ⟨by simp [World.setCell], fun k _ hn => Below.heap_setCell W ⟨g, i, none⟩ u k hn⟩ (fun B w0 hB hb => hb.setCell hB u)
theorem set_kept (W : World) (g i : Nat) (u : Value) : Kept W (W.setCell ⟨g, i, none⟩ u) (fun k => k = g) := ⟨by simp [World.setCell], fun k _ hn => Below.heap_setCell W ⟨g, i, none⟩ u k hn⟩
theorem run_store_one_cell (ty : TypeId) {W : World} {g i : Nat} {t : TypeId} {cs : Array Value} {u : Value} (hg : W.heap[g]? = some (.cells cs t (0, 0))) (hi : i < cs.size) (hu : u.oneCell' = true) (hsz : (P.info? ty).map (·.size) = some 1) : (storeVar ty ⟨g, i, none⟩ u).run P W = .ok () (W.setCell ⟨g, i, none⟩ u) := by
  have h1 := run_store P W ⟨g, i, none⟩ u .plain hu
  rw [blk_cell hg i, blk_frozen hg i, Array.getElem?_eq_getElem hi] at h1
  cases hq : P.info? ty with
  | none => simp [hq] at hsz
  | some j =>
    have hs : j.size = 1 := by simpa [hq] using hsz
    have := run_storeCells_cells (P := P) g i [u] 0 W (fun j hj => by simp at hj; subst hj; simp only [Nat.add_zero]; rw [blk_cell hg i, Array.getElem?_eq_getElem hi]; rfl) (fun j hj => by simp at hj; subst hj; simp only [Nat.add_zero]; rw [blk_frozen hg i]) (fun v hv => by simp at hv; subst hv; exact hu)
    simp only [Nat.add_zero] at this
    simp [storeVar, sizeOf, typeInfo, hq, one_cells hu, hs, this, World.setCells]
theorem rw_cell_wp (ty : TypeId) {x y : Operand} (ho : o.op = .store ty x y) {g i : Nat} (hx : a.eval x = .pointer (some ⟨g, i, none⟩)) {u : Value} (hy : a.eval y = u) (hu : u.oneCell' = true) {w0 W : World} (l1 : List (Nat × TypeId × Array Value)) {l2 : List (Nat × TypeId × Array Value)} {t : TypeId} {cs : Array Value} (hl : Rws w0 (l1 ++ (g, t, cs) :: l2) W) (hi : i < cs.size) (hsz : (P.info? ty).map (·.size) = some 1)
    (h : ∀ w1, Rws w0 (l1 ++ (g, t, cs.setIfInBounds i u) :: l2) w1 → Kept W w1 (fun k => k = g) → K (a.put o.dst undef) w1) : Oper.wp P o a W K Q := by
  have hrun := run_store_one_cell (P := P) ty (hl.mem (g := g) (t := t) (cs := cs) (by simp)) hi hu hsz
  unfold Oper.wp execOp
  simp only [ho, hx, hy, Instr.storeAt, Instr.sureAddr, Sem.run_bind, Sem.run_pure, Result.andThen_ok, hrun]
  exact h _ (hl.set l1 i u) (set_kept W g i u)
theorem rw_cell (hgd : o.guard = none) (ty : TypeId) {x y : Operand} (ho : o.op = .store ty x y) {g i : Nat} (hx : a.eval x = .pointer (some ⟨g, i, none⟩)) {u : Value} (hy : a.eval y = u) (hu : u.oneCell' = true) {w0 W : World} (l1 : List (Nat × TypeId × Array Value)) {l2 : List (Nat × TypeId × Array Value)} {t : TypeId} {cs : Array Value} (hl : Rws w0 (l1 ++ (g, t, cs) :: l2) W) (hi : i < cs.size) (hsz : (P.info? ty).map (·.size) = some 1)
    (h : ∀ w1, Rws w0 (l1 ++ (g, t, cs.setIfInBounds i u) :: l2) w1 → Kept W w1 (fun k => k = g) → wpList P ops Q rest (a.put o.dst undef) w1) : wpList P ops Q (o :: rest) a W :=
  wpList_plain hgd fun _ hK => rw_cell_wp ty ho hx hy hu l1 hl hi hsz (fun w1 hX hk => hK _ _ (h w1 hX hk))
theorem rw_alloc1 (hgd : o.guard = none) (ty : TypeId) (ho : o.op = .alloc ty) {z : Value} (hz : (P.info? ty).map (·.zero) = some (some z)) (h1 : z.oneCell' = true) {w0 W : World} {l : List (Nat × TypeId × Array Value)} (hl : Rws w0 l W)
    (h : ∀ g w1, g = W.heap.size → Rws w0 ((g, ty, #[z]) :: l) w1 → Below W.heap.size W w1 → wpList P ops Q rest (a.put o.dst (.pointer (some ⟨g, 0, none⟩))) w1) : wpList P ops Q (o :: rest) a W :=
  Kd.event_run hgd (by
    unfold execOp
    cases hq : P.info? ty with
    | none => simp [hq] at hz
    | some i =>
      have hs : i.zero = some z := by simpa [hq] using hz
      simp only [ho]
      simp [Instr.alloc, zeroValue, typeInfo, hq, hs, newVar, newRow, one_cells h1, Sem.run_bind]) (h W.heap.size _ rfl (hl.add ty #[z]) (below_alloc (Below.refl _ _) _))
end
theorem mkeyed : Go.Maps.Keyed Tryz.prog 3 := Go.Maps.int_keyed Tryz.underlying3
def I64 (x : Int) : Prop := -9223372036854775808 ≤ x ∧ x ≤ 9223372036854775807
theorem I64.wf {x : Int} (h : I64 x) : (Lit.int .i64 x).wf = true := WalkArith.wf_i64 h
def ptrR : Value → Option (DataW Unit × List MemPlace)
  | .pointer none => some (.lit (.bool false), [])
  | .pointer (some ⟨b, 0, none⟩) => some (.lit (.int .i64 (b : Int)), [])
  | _ => none
theorem ptrR_inv {v : Value} {b : Nat} {ps : List MemPlace} (h : ptrR v = some (.lit (.int .i64 (b : Int)), ps)) : v = .pointer (some ⟨b, 0, none⟩) := by
  unfold ptrR at h
  split at h
  · simp at h
  · rename_i b2
    simp at h
    have h9 : b2 = b := by have := h.1; omega
    rw [h9]
  · cases h
theorem ptrR_inv0 {v : Value} {ps : List MemPlace} (h : ptrR v = some (.lit (.bool false), ps)) : v = .pointer none := by
  unfold ptrR at h
  split at h
  · rfl
  · simp at h
  · cases h
theorem pzero (w : World) : (zeroValue 84).run Tryz.prog w = .ok (.pointer none) w := by kernel_rfl
def PMap (W : World) (B n : Nat) (g : Int → Option Nat) : Prop := ∃ D : DataW Unit, W.ownsMap Tryz.prog 3 ptrR B n D ∧ (∀ x, Maps.has D (.int .i64 x) = (g x).isSome) ∧ (∀ x b, g x = some b → ∀ z, D.atKey (.int .i64 x) z = .lit (.int .i64 (b : Int)))
theorem PMap.made (w : World) : PMap (w.alloc (.map #[] 0)) w.heap.size 0 (fun _ => none) := ⟨.map [], World.ownsMap_made _ _ _ _, fun _ => rfl, fun _ _ h => by cases h⟩
theorem PMap.block {W W1 : World} {B n : Nat} {g : Int → Option Nat} (h : PMap W B n g) (hb : W1.heap[B]? = W.heap[B]?) : PMap W1 B n g := by
  obtain ⟨D, ⟨es, clock, h1, h2⟩, h3⟩ := h
  exact ⟨D, ⟨es, clock, hb.trans h1, h2⟩, h3⟩
theorem PMap.lt {W : World} {B n : Nat} {g : Int → Option Nat} (h : PMap W B n g) : B < W.heap.size := by
  obtain ⟨D, h1, _⟩ := h
  exact h1.lt
theorem PMap.is {W : World} {B n : Nat} {g : Int → Option Nat} (h : PMap W B n g) : ∃ es clock, W.heap[B]? = some (.map es clock) := by
  obtain ⟨D, ⟨es, clock, h1, _⟩, _⟩ := h
  exact ⟨es, clock, h1⟩
theorem PMap.ne {W : World} {B n : Nat} {g : Int → Option Nat} (h : PMap W B n g) {b : Nat} {cs : Array Value} {t : TypeId} {fr : Nat × Nat} (hb : W.heap[b]? = some (.cells cs t fr)) : B ≠ b := fun e => by
  obtain ⟨es, clock, h1⟩ := h.is
  rw [e, hb] at h1
  cases h1
theorem PMap.mono {W : World} {B n n' : Nat} {g : Int → Option Nat} (h : PMap W B n g) (hn : n ≤ n') : PMap W B n' g := by
  obtain ⟨D, h1, h2⟩ := h
  exact ⟨D, h1.mono hn, h2⟩
def updP (g : Int → Option Nat) (x : Int) (v : Nat) : Int → Option Nat := fun y => if y = x then some v else g y
def delP (g : Int → Option Nat) (x : Int) : Int → Option Nat := fun y => if y = x then none else g y
theorem PMap.put_has {D : DataW Unit} {g : Int → Option Nat} {x : Int} {v : Nat} (hm : Maps.IsMap D) (h1 : ∀ x, Maps.has D (.int .i64 x) = (g x).isSome) (h2 : ∀ x b, g x = some b → ∀ z, D.atKey (.int .i64 x) z = .lit (.int .i64 (b : Int))) :
    (∀ y, Maps.has (D.put (.int .i64 x) (.lit (.int .i64 (v : Int)))) (.int .i64 y) = (updP g x v y).isSome) ∧ (∀ y b, updP g x v y = some b → ∀ z, (D.put (.int .i64 x) (.lit (.int .i64 (v : Int)))).atKey (.int .i64 y) z = .lit (.int .i64 (b : Int))) := by
  have hk : WideAt.IsKeyLit (.int .i64 x) := trivial
  refine ⟨fun y => ?_, fun y c hy z => ?_⟩
  · unfold updP
    by_cases e : y = x
    · rw [if_pos e, e, Maps.has_put_same hm hk]; rfl
    · rw [if_neg e, Maps.has_put_other (fun e' => e (by cases e'; rfl)), h1]
  · unfold updP at hy
    by_cases e : y = x
    · rw [if_pos e] at hy
      cases hy
      rw [e, Maps.atKey_put_same hm hk]
    · rw [if_neg e] at hy
      rw [Maps.atKey_put_other (fun e' => e (by cases e'; rfl)), h2 y c hy]
section
variable {ops : Array Oper} {rest : List Oper} {o : Oper} {a : Act} {Q : Exit → Act → World → Prop} {K : Act → World → Prop}
theorem pm_make (hgd : o.guard = none) (ho : o.op = .makeMap 52 none) {W : World} (h : PMap (W.alloc (.map #[] 0)) W.heap.size 0 (fun _ => none) → wpList Tryz.prog ops Q rest (a.put o.dst (.map (some W.heap.size))) (W.alloc (.map #[] 0))) : wpList Tryz.prog ops Q (o :: rest) a W :=
  Kd.event_run hgd (by
    unfold execOp
    simp only [ho]
    simp [run_makeMap, Sem.run_bind]) (h (PMap.made W))
theorem pm_store_wp {m x v : Operand} (ho : o.op = .mapUpdate 52 m x v) {W : World} {B n : Nat} {g : Int → Option Nat} (hm : a.eval m = .map (some B)) (hown : PMap W B n g) (hn : n < maxLen) {k : Int} {b : Nat} (hx : a.eval x = .int .i64 k) (hv : a.eval v = .pointer (some ⟨b, 0, none⟩)) (hk : I64 k)
    (h : ∀ w1, PMap w1 B (n + 1) (updP g k b) → W.grownBy w1 (some B) → K (a.put o.dst undef) w1) : Oper.wp Tryz.prog o a W K Q := by
  obtain ⟨D, h1, h2, h3⟩ := hown
  obtain ⟨w', hrun, r1, r2⟩ := h1.update mkeyed Tryz.underlying52 hn (Go.Maps.keyOf_int_mk Tryz.underlying3 hk.wf) (show ptrR (.pointer (some ⟨b, 0, none⟩)) = some (.lit (.int .i64 (b : Int)), []) from rfl)
  have hp := PMap.put_has (v := b) (x := k) (h1.tidy mkeyed).isMap h2 h3
  unfold Oper.wp
  simp [execOp, ho, hm, hx, hv, hrun, Result.andThen]
  exact h _ ⟨_, r1, hp.1, hp.2⟩ r2
theorem pm_look (hgd : o.guard = none) {m x : Operand} (ho : o.op = .lookup 52 m x false) {W : World} {B n : Nat} {g : Int → Option Nat} (hm : a.eval m = .map (some B)) (hown : PMap W B n g) {k : Int} (hx : a.eval x = .int .i64 k) (hk : I64 k)
    (h : wpList Tryz.prog ops Q rest (a.put o.dst (.pointer ((g k).map fun b => ⟨b, 0, none⟩))) W) : wpList Tryz.prog ops Q (o :: rest) a W :=
  wpList_plain hgd fun _ hK => by
    obtain ⟨D, h1, h2, h3⟩ := hown
    obtain ⟨v, ps, hrun, hv⟩ := h1.lookup mkeyed Tryz.underlying52 (pzero W) (show ptrR (.pointer none) = some (.lit (.bool false), []) from rfl) (Go.Maps.keyOf_int_mk Tryz.underlying3 hk.wf)
    have e : v = .pointer ((g k).map fun b => ⟨b, 0, none⟩) := by
      cases hg : g k with
      | none =>
        have h9 := h2 k
        rw [hg] at h9
        rw [Maps.atKey_of_not_has (by simpa using h9)] at hv
        exact ptrR_inv0 hv
      | some b =>
        rw [h3 k b hg] at hv
        exact ptrR_inv hv
    unfold Oper.wp
    simp [execOp, ho, hm, hx, hrun, Result.andThen]
    rw [e]
    exact hK _ _ h
end
def fieldsL (l : List S38) (c : Int) : List S41 := (climbL l c).reverse.flatMap fun c => (rd_T38 l c).f2
def ObjOK (l : List S38) (last : Nat) (x : Int) (o : Int × List Int) : Prop := 1 ≤ x ∧ x ≤ (last : Int) ∧ o.2.length ≤ 4096 ∧ (0 ≤ o.1 → o.1 < (l.length : Int) ∧ o.2.length = (fieldsL l o.1).length) ∧ ∀ y ∈ o.2, -2147483648 ≤ y ∧ y ≤ 2147483647
structure HS where
  hb : Nat
  B : Nat
  vc : Value
  l : List S38
  room : Int
  used : Int
  last : Nat
  m : Int → Option (Int × List Int)
  fr : Nat → Prop
  w9 : World
def HS.cell (s : HS) : Array Value := #[s.vc, .int .i64 s.room, .int .i64 s.used, .int .i64 (s.last : Int), .map (some s.B)]
structure HeapIn (w0 : World) (s : HS) (ob rb : Int → Nat) (W : World) : Prop where
  hd : W.heap[s.hb]? = some (.cells s.cell 54 (0, 0))
  mp : PMap W s.B s.last (fun x => (s.m x).map fun _ => ob x)
  obj : ∀ x o, s.m x = some o → W.heap[ob x]? = some (.cells #[.int .i64 o.1, .slice (some ⟨rb x, 0, none⟩) o.2.length o.2.length] 91 (0, 0)) ∧ W.heap[rb x]? = some (.cells (o.2.map (Value.int .i64)).toArray 3 (0, 0))
  inj : ∀ x y o p, s.m x = some o → s.m y = some p → x ≠ y → ob x ≠ ob y ∧ rb x ≠ rb y
  base : w0.heap.size ≤ s.hb ∧ w0.heap.size ≤ s.B ∧ ∀ x o, s.m x = some o → w0.heap.size ≤ ob x ∧ w0.heap.size ≤ rb x
  cls : Kd.R k38 38 W w0.heap.size (fun k => ¬ s.fr k) s.vc s.l
  dom : ∀ x o, s.m x = some o → ObjOK s.l s.last x o
  num : 0 ≤ s.used ∧ s.used ≤ s.room ∧ s.room ≤ 4096
  below : Below w0.heap.size w0 W
  keep : s.w9.heap.size ≤ W.heap.size ∧ ∀ k, s.fr k → k < s.w9.heap.size ∧ W.heap[k]? = s.w9.heap[k]?
  sep : ∀ k, s.fr k → k ≠ s.hb ∧ k ≠ s.B ∧ ∀ x o, s.m x = some o → k ≠ ob x ∧ k ≠ rb x
def HeapAt (w0 : World) (s : HS) (W : World) : Prop := ∃ ob rb, HeapIn w0 s ob rb W
theorem HeapIn.step {w0 : World} {s : HS} {ob rb : Int → Nat} {W W1 : World} (h : HeapIn w0 s ob rb W) (hb : Below W.heap.size W W1) : HeapIn w0 s ob rb W1 :=
  ⟨blk_below h.hd hb, h.mp.block (hb.block _ h.mp.lt), fun x o hx => ⟨blk_below (h.obj x o hx).1 hb, blk_below (h.obj x o hx).2 hb⟩, h.inj, h.base, Kd.R_below h.cls hb, h.dom, h.num, below_step h.below hb, ⟨Nat.le_trans h.keep.1 hb.size, fun k hk => ⟨(h.keep.2 k hk).1, (hb.block k (Nat.lt_of_lt_of_le (h.keep.2 k hk).1 h.keep.1)).trans (h.keep.2 k hk).2⟩⟩, h.sep⟩
theorem HeapAt.step {w0 : World} {s : HS} {W W1 : World} (h : HeapAt w0 s W) (hb : Below W.heap.size W W1) : HeapAt w0 s W1 := by
  obtain ⟨ob, rb, h⟩ := h
  exact ⟨ob, rb, h.step hb⟩
theorem HeapAt.below {w0 : World} {s : HS} {W : World} (h : HeapAt w0 s W) : Below w0.heap.size w0 W := by
  obtain ⟨ob, rb, h⟩ := h
  exact h.below
theorem HeapAt.num {w0 : World} {s : HS} {W : World} (h : HeapAt w0 s W) : 0 ≤ s.used ∧ s.used ≤ s.room ∧ s.room ≤ 4096 := by
  obtain ⟨ob, rb, h⟩ := h
  exact h.num
theorem HeapAt.head {w0 : World} {s : HS} {W : World} (h : HeapAt w0 s W) : W.heap[s.hb]? = some (.cells s.cell 54 (0, 0)) := by
  obtain ⟨ob, rb, h⟩ := h
  exact h.hd
theorem HeapAt.cells {w0 : World} {s : HS} {W : World} (h : HeapAt w0 s W) : W.cell? ⟨s.hb, 0, none⟩ = some s.vc ∧ W.cell? ⟨s.hb, 1, none⟩ = some (.int .i64 s.room) ∧ W.cell? ⟨s.hb, 2, none⟩ = some (.int .i64 s.used) ∧ W.cell? ⟨s.hb, 3, none⟩ = some (.int .i64 (s.last : Int)) ∧ W.cell? ⟨s.hb, 4, none⟩ = some (.map (some s.B)) :=
  ⟨blk_cell h.head 0, blk_cell h.head 1, blk_cell h.head 2, blk_cell h.head 3, blk_cell h.head 4⟩
theorem map_some_neq (B : Nat) (w : World) : (binOp .neq 52 (.map (some B)) (.map none)).run Tryz.prog w = .ok (.bool true) w := by kernel_rfl
set_option maxHeartbeats 1600000 in
set_option maxRecDepth 100000 in
theorem hp_made (w0 : World) (s : HS) (W : World) (h : HeapAt w0 s W) : Calls Tryz.prog 42 #[.pointer (some ⟨s.hb, 0, none⟩)] W fun e w' => e = .returned (.bool true) ∧ Below W.heap.size W w' := by
  have H := Aside0.mk h
  have hmn := map_some_neq
  obtain ⟨f0, f1, f2, f3, f4⟩ := h.cells
  clear h
  go_enter Tryz.func42, Tryz.ntmps42
  go_wp2
  go_ret
  exact ⟨rfl, Below.refl _ _⟩
set_option maxHeartbeats 1600000 in
set_option maxRecDepth 100000 in
theorem hp_Used (w0 : World) (s : HS) (W : World) (h : HeapAt w0 s W) : Calls Tryz.prog 29 #[.pointer (some ⟨s.hb, 0, none⟩)] W fun e w' => e = .returned (.int .i64 s.used) ∧ Below W.heap.size W w' := by
  have H := Aside0.mk h
  clear h
  go_enter Tryz.func29, Tryz.ntmps29
  go_wp2_with fail
  refine (hp_made w0 s _ H.out).mono ?_
  rintro e w1 ⟨rfl, hb⟩
  have HB := Aside0.mk hb
  replace H := Aside0.mk (H.out.step hb)
  clear hb
  obtain ⟨f0, f1, f2, f3, f4⟩ := H.out.cells
  go_wp2
  go_ret
  exact ⟨rfl, HB.out⟩
def findV (s : HS) (ob : Int → Nat) (x : Int) : Value := if x = 0 then .tuple #[.pointer none, .iface 28 (.int .i64 140)] else match s.m x with
  | none => .tuple #[.pointer none, .iface 28 (.int .i64 141)]
  | some _ => .tuple #[.pointer (some ⟨ob x, 0, none⟩), .nilIface]
set_option maxHeartbeats 1600000 in
set_option maxRecDepth 100000 in
theorem hp_find (w0 : World) (s : HS) (ob rb : Int → Nat) (x : Int) (hk : I64 x) (W : World) (h : HeapIn w0 s ob rb W) : Calls Tryz.prog 48 #[.pointer (some ⟨s.hb, 0, none⟩), .int .i64 x] W fun e w' => e = .returned (findV s ob x) ∧ Below W.heap.size W w' := by
  have H := Aside0.mk h
  clear h
  have HK := Aside0.mk hk
  clear hk
  unfold findV
  by_cases c0 : x = 0
  · have c0b : (x == 0) = true := by rw [c0]; rfl
    rw [if_pos c0]
    clear c0
    go_enter Tryz.func48, Tryz.ntmps48
    go_wp2_with fail
    refine ((hp_made w0 s _ ⟨ob, rb, H.out⟩)).mono ?_
    rintro e w1 ⟨rfl, hb⟩
    have HB := Aside0.mk hb
    replace H := Aside0.mk (H.out.step hb)
    clear hb
    obtain ⟨f0, f1, f2, f3, f4⟩ := (show HeapAt w0 s w1 from ⟨ob, rb, H.out⟩).cells
    go_wp2
    go_ret2
    exact ⟨rfl, HB.out⟩
  · have c0b : (x == 0) = false := by rw [beq_eq_false_iff_ne]; exact c0
    rw [if_neg c0]
    clear c0
    cases hm : s.m x with
    | none =>
      have HM := Aside0.mk hm
      clear hm
      go_enter Tryz.func48, Tryz.ntmps48
      go_wp2_with fail
      refine ((hp_made w0 s _ ⟨ob, rb, H.out⟩)).mono ?_
      rintro e w1 ⟨rfl, hb⟩
      have HB := Aside0.mk hb
      replace H := Aside0.mk (H.out.step hb)
      clear hb
      obtain ⟨f0, f1, f2, f3, f4⟩ := (show HeapAt w0 s w1 from ⟨ob, rb, H.out⟩).cells
      go_wp2_with (first | ((with_reducible refine gate_dst (N := 21) rfl ?_); refine pm_look rfl rfl rfl H.out.mp rfl HK.out ?_; rw [HM.out]; simp only [Option.map_none, Option.map_some]) | ((with_reducible refine gate_dst (N := 29) rfl ?_); refine pm_look rfl rfl rfl H.out.mp rfl HK.out ?_; rw [HM.out]; simp only [Option.map_none, Option.map_some]))
      go_ret2
      exact ⟨rfl, HB.out⟩
    | some o =>
      have HM := Aside0.mk hm
      clear hm
      go_enter Tryz.func48, Tryz.ntmps48
      go_wp2_with fail
      refine ((hp_made w0 s _ ⟨ob, rb, H.out⟩)).mono ?_
      rintro e w1 ⟨rfl, hb⟩
      have HB := Aside0.mk hb
      replace H := Aside0.mk (H.out.step hb)
      clear hb
      obtain ⟨f0, f1, f2, f3, f4⟩ := (show HeapAt w0 s w1 from ⟨ob, rb, H.out⟩).cells
      go_wp2_with (first | ((with_reducible refine gate_dst (N := 21) rfl ?_); refine pm_look rfl rfl rfl H.out.mp rfl HK.out ?_; rw [HM.out]; simp only [Option.map_none, Option.map_some]) | ((with_reducible refine gate_dst (N := 29) rfl ?_); refine pm_look rfl rfl rfl H.out.mp rfl HK.out ?_; rw [HM.out]; simp only [Option.map_none, Option.map_some]))
      go_ret2
      exact ⟨rfl, HB.out⟩
theorem isTypeOf (v : Value) (w : World) : (Go.Extern.ReflectliteType.typeOf #[.iface 28 v]).run Tryz.prog w = .ok (.iface 127 (.agg #[.pointer (some ⟨0, 28, none⟩)])) w := by kernel_rfl
def comparableFn : Array Value → Sem Value := Go.Extern.ReflectliteType.method fun t => do Go.Extern.Rtype.noPackHeld "Comparable" t; pure (.bool (← Go.typeInfo t).comparable)
theorem isComparable (w : World) : (comparableFn #[.agg #[.pointer (some ⟨0, 28, none⟩)]]).run Tryz.prog w = .ok (.bool true) w := by kernel_rfl
theorem isMethodComparable (v : Value) (w : World) : (Go.method 289 127 v "Comparable").run Tryz.prog w = .ok (120, v) w := by kernel_rfl
theorem isComp : (Tryz.prog.info? 28).map (·.comparable) = some true := by kernel_rfl
set_option maxHeartbeats 1600000 in
set_option maxRecDepth 100000 in
theorem is_errno (k : Int) (w : World) :
    Calls Tryz.prog 67 #[.iface 28 (.int .i64 k), .iface 28 (.int .i64 k)] w fun e w' => e = .returned (.bool true) ∧ w' = w := by
  have h8 := @run_callFunc_extern Tryz.prog 78 _ Go.Extern.ReflectliteType.typeOf Tryz.func78 (by kernel_rfl) (by kernel_rfl) (by kernel_rfl) (by kernel_rfl)
  have h32 := @run_callFunc_extern Tryz.prog 120 _ comparableFn Tryz.func120 (by kernel_rfl) (by kernel_rfl) (by kernel_rfl) (by kernel_rfl)
  have tT := isTypeOf
  have cT := isComparable
  have mR := isMethodComparable
  have heq := Go.Lib.run_eql_iface_int (P := Tryz.prog) w (t := 86) (k := .i64) k k Tryz.underlying86 isComp Tryz.underlying28
  have hkk : (k == k) = true := by simp
  rw [hkk] at heq
  go_enter Tryz.func67, Tryz.ntmps67
  go_wp2

  refine wp_loop_rounds 1 ?_
  rw [rounds_succ]
  go_wp2
  go_ret
  exact ⟨rfl, rfl⟩
theorem isAssert1 (k : Int) (w : World) : (Instr.typeAssert (.iface 28 (.int .i64 k)) 86 129 true).run Tryz.prog w = .ok (.tuple #[.nilIface, .bool false]) w := run_typeAssert_lacksB Tryz.underlying129 (by kernel_rfl) (by kernel_rfl) _ _ w
theorem isAssert2 (k : Int) (w : World) : (Instr.typeAssert (.iface 28 (.int .i64 k)) 86 132 true).run Tryz.prog w = .ok (.tuple #[.nilIface, .bool false]) w := run_typeAssert_lacksB Tryz.underlying132 (by kernel_rfl) (by kernel_rfl) _ _ w
theorem isAssert3 (k : Int) (w : World) : (Instr.typeAssert (.iface 28 (.int .i64 k)) 86 134 true).run Tryz.prog w = .ok (.tuple #[.nilIface, .bool false]) w := run_typeAssert_lacksB Tryz.underlying134 (by kernel_rfl) (by kernel_rfl) _ _ w
set_option maxHeartbeats 1600000 in
set_option maxRecDepth 100000 in
theorem is_not (k n : Int) (h : ¬ k = n) (w : World) :
    Calls Tryz.prog 67 #[.iface 28 (.int .i64 k), .iface 28 (.int .i64 n)] w fun e w' => e = .returned (.bool false) ∧ w' = w := by
  have h8 := @run_callFunc_extern Tryz.prog 78 _ Go.Extern.ReflectliteType.typeOf Tryz.func78 (by kernel_rfl) (by kernel_rfl) (by kernel_rfl) (by kernel_rfl)
  have h32 := @run_callFunc_extern Tryz.prog 120 _ comparableFn Tryz.func120 (by kernel_rfl) (by kernel_rfl) (by kernel_rfl) (by kernel_rfl)
  have tT := isTypeOf
  have cT := isComparable
  have mR := isMethodComparable
  have heq := Go.Lib.run_eql_iface_int (P := Tryz.prog) w (t := 86) (k := .i64) k n Tryz.underlying86 isComp Tryz.underlying28
  have hkk : (k == n) = false := by rw [beq_eq_false_iff_ne]; exact h
  have ta1 := isAssert1
  have ta2 := isAssert2
  have ta3 := isAssert3
  clear h
  rw [hkk] at heq
  go_enter Tryz.func67, Tryz.ntmps67
  go_wp2

  refine wp_loop_rounds 1 ?_
  rw [rounds_succ]
  go_wp2
  go_ret
  exact ⟨rfl, rfl⟩
set_option maxHeartbeats 1600000 in
set_option maxRecDepth 100000 in
theorem number_140 (w : World) : Calls Tryz.prog 49 #[.iface 28 (.int .i64 140)] w fun e w' => e = .returned (.int .i64 140) ∧ Below w.heap.size w w' := by
  have HBW := Aside0.mk (below_alloc (Below.refl w.heap.size w) (.cells #[.int .i64 8, .int .i64 140, .int .i64 141] 28))
  go_enter Tryz.func49, Tryz.ntmps49
  go_wp2
  refine wp_loop_rounds 2 ?_
  rw [rounds_succ]
  go_wp2_with fail
  refine (is_not 140 8 (by decide) _).mono ?_
  rintro e w1 ⟨rfl, rfl⟩
  go_wp2
  rw [rounds_succ]
  go_wp2_with fail
  refine (is_errno 140 _).mono ?_
  rintro e w1 ⟨rfl, rfl⟩
  go_wp2
  go_ret
  exact ⟨rfl, HBW.out⟩
set_option maxHeartbeats 1600000 in
set_option maxRecDepth 100000 in
theorem number_141 (w : World) : Calls Tryz.prog 49 #[.iface 28 (.int .i64 141)] w fun e w' => e = .returned (.int .i64 141) ∧ Below w.heap.size w w' := by
  have HBW := Aside0.mk (below_alloc (Below.refl w.heap.size w) (.cells #[.int .i64 8, .int .i64 140, .int .i64 141] 28))
  go_enter Tryz.func49, Tryz.ntmps49
  go_wp2
  refine wp_loop_rounds 3 ?_
  rw [rounds_succ]
  go_wp2_with fail
  refine (is_not 141 8 (by decide) _).mono ?_
  rintro e w1 ⟨rfl, rfl⟩
  go_wp2
  rw [rounds_succ]
  go_wp2_with fail
  refine (is_not 141 140 (by decide) _).mono ?_
  rintro e w1 ⟨rfl, rfl⟩
  go_wp2
  rw [rounds_succ]
  go_wp2_with fail
  refine (is_errno 141 _).mono ?_
  rintro e w1 ⟨rfl, rfl⟩
  go_wp2
  go_ret
  exact ⟨rfl, HBW.out⟩
theorem findV_zero (s : HS) (ob : Int → Nat) : findV s ob 0 = .tuple #[.pointer none, .iface 28 (.int .i64 140)] := by unfold findV; rw [if_pos rfl]
theorem findV_none {s : HS} (ob : Int → Nat) {x : Int} (h0 : ¬ x = 0) (h : s.m x = none) : findV s ob x = .tuple #[.pointer none, .iface 28 (.int .i64 141)] := by unfold findV; rw [if_neg h0, h]
theorem findV_some {s : HS} (ob : Int → Nat) {x : Int} {o : Int × List Int} (h0 : ¬ x = 0) (h : s.m x = some o) : findV s ob x = .tuple #[.pointer (some ⟨ob x, 0, none⟩), .nilIface] := by unfold findV; rw [if_neg h0, h]
def placeE (s : HS) (x i : Int) : Int := if x = 0 then 140 else match s.m x with
  | none => 141
  | some o => if 0 ≤ i ∧ i < (o.2.length : Int) then 0 else 142
def placeV (s : HS) (rb : Int → Nat) (x i : Int) : Value := if placeE s x i = 0 then .tuple #[.pointer (some ⟨rb x, i.toNat, none⟩), .int .i64 0] else .tuple #[.pointer none, .int .i64 (placeE s x i)]
theorem placeV_no {s : HS} (rb : Int → Nat) {x i k : Int} (h : placeE s x i = k) (hk : ¬ k = 0) : placeV s rb x i = .tuple #[.pointer none, .int .i64 k] := by unfold placeV; rw [h, if_neg hk]
theorem placeV_yes {s : HS} (rb : Int → Nat) {x i : Int} (h : placeE s x i = 0) : placeV s rb x i = .tuple #[.pointer (some ⟨rb x, i.toNat, none⟩), .int .i64 0] := by unfold placeV; rw [if_pos h]
theorem placeE_zero (s : HS) (i : Int) : placeE s 0 i = 140 := by unfold placeE; rw [if_pos rfl]
theorem placeE_none {s : HS} {x : Int} (i : Int) (h0 : ¬ x = 0) (h : s.m x = none) : placeE s x i = 141 := by unfold placeE; rw [if_neg h0, h]
theorem placeE_in {s : HS} {x i : Int} {o : Int × List Int} (h0 : ¬ x = 0) (h : s.m x = some o) (hi : 0 ≤ i ∧ i < (o.2.length : Int)) : placeE s x i = 0 := by unfold placeE; rw [if_neg h0, h]; exact if_pos hi
theorem placeE_out {s : HS} {x i : Int} {o : Int × List Int} (h0 : ¬ x = 0) (h : s.m x = some o) (hi : ¬ (0 ≤ i ∧ i < (o.2.length : Int))) : placeE s x i = 142 := by unfold placeE; rw [if_neg h0, h]; exact if_neg hi
set_option maxHeartbeats 1600000 in
set_option maxRecDepth 100000 in
theorem hp_place (w0 : World) (s : HS) (ob rb : Int → Nat) (x i : Int) (hk : I64 x) (W : World) (h : HeapIn w0 s ob rb W) : Calls Tryz.prog 47 #[.pointer (some ⟨s.hb, 0, none⟩), .int .i64 x, .int .i64 i] W fun e w' => e = .returned (placeV s rb x i) ∧ Below W.heap.size W w' := by
  have H := Aside0.mk h
  clear h
  by_cases c0 : x = 0
  · subst c0
    rw [placeV_no rb (placeE_zero s i) (by decide)]
    go_enter Tryz.func47, Tryz.ntmps47
    go_wp2_with fail
    refine (hp_find w0 s ob rb 0 hk _ H.out).mono ?_
    rw [findV_zero]
    rintro e w1 ⟨rfl, hb⟩
    have HB := Aside0.mk hb
    replace H := Aside0.mk (H.out.step hb)
    clear hb
    go_wp2_with fail
    refine (number_140 _).mono ?_
    rintro e w2 ⟨rfl, hb⟩
    have HB2 := Aside0.mk (below_then HB.out HB.out.size hb)
    clear hb
    go_wp2
    go_ret2
    exact ⟨rfl, HB2.out⟩
  · cases hm : s.m x with
    | none =>
      rw [placeV_no rb (placeE_none i c0 hm) (by decide)]
      have HV := Aside0.mk (findV_none ob c0 hm)
      clear hm c0
      go_enter Tryz.func47, Tryz.ntmps47
      go_wp2_with fail
      refine (hp_find w0 s ob rb x hk _ H.out).mono ?_
      rw [HV.out]
      rintro e w1 ⟨rfl, hb⟩
      have HB := Aside0.mk hb
      replace H := Aside0.mk (H.out.step hb)
      clear hb
      go_wp2_with fail
      refine (number_141 _).mono ?_
      rintro e w2 ⟨rfl, hb⟩
      have HB2 := Aside0.mk (below_then HB.out HB.out.size hb)
      clear hb
      go_wp2
      go_ret2
      exact ⟨rfl, HB2.out⟩
    | some o =>
      have HV := Aside0.mk (findV_some ob c0 hm)
      have HM := Aside0.mk hm
      by_cases ci : 0 ≤ i ∧ i < (o.2.length : Int)
      · rw [placeV_yes rb (placeE_in c0 hm ci)]
        obtain ⟨ci1, ci2⟩ := ci
        have d1 : decide (i < 0) = false := decide_eq_false (by omega)
        have d2 : decide (i ≥ (o.2.length : Int)) = false := decide_eq_false (by omega)
        have d3 : decide ((o.2.length : Int) ≤ i) = false := decide_eq_false (by omega)
        have p5 : (0 ≤ i) = True := eq_true ci1
        have p6 : (i < (o.2.length : Int)) = True := eq_true ci2
        clear hm c0 ci1 ci2
        go_enter Tryz.func47, Tryz.ntmps47
        go_wp2_with fail
        refine (hp_find w0 s ob rb x hk _ H.out).mono ?_
        rw [HV.out]
        rintro e w1 ⟨rfl, hb⟩
        have HB := Aside0.mk hb
        replace H := Aside0.mk (H.out.step hb)
        clear hb
        have g1 := blk_cell (H.out.obj x o HM.out).1 1
        simp only [List.getElem?_toArray, List.getElem?_cons_zero, List.getElem?_cons_succ] at g1
        go_wp2
        go_ret2
        exact ⟨rfl, HB.out⟩
      · rw [placeV_no rb (placeE_out c0 hm ci) (by decide)]
        clear hm c0
        by_cases ci1 : i < 0
        · have d1 : decide (i < 0) = true := decide_eq_true ci1
          clear ci ci1
          go_enter Tryz.func47, Tryz.ntmps47
          go_wp2_with fail
          refine (hp_find w0 s ob rb x hk _ H.out).mono ?_
          rw [HV.out]
          rintro e w1 ⟨rfl, hb⟩
          have HB := Aside0.mk hb
          clear hb
          go_wp2
          go_ret2
          exact ⟨rfl, HB.out⟩
        · have d1 : decide (i < 0) = false := decide_eq_false ci1
          have d2 : decide (i ≥ (o.2.length : Int)) = true := decide_eq_true (by omega)
          have d3 : decide ((o.2.length : Int) ≤ i) = true := decide_eq_true (by omega)
          clear ci ci1
          go_enter Tryz.func47, Tryz.ntmps47
          go_wp2_with fail
          refine (hp_find w0 s ob rb x hk _ H.out).mono ?_
          rw [HV.out]
          rintro e w1 ⟨rfl, hb⟩
          have HB := Aside0.mk hb
          replace H := Aside0.mk (H.out.step hb)
          clear hb
          have g1 := blk_cell (H.out.obj x o HM.out).1 1
          simp only [List.getElem?_toArray, List.getElem?_cons_zero, List.getElem?_cons_succ] at g1
          go_wp2
          go_ret2
          exact ⟨rfl, HB.out⟩
def numAt (s : HS) (x i : Int) : Int := ((s.m x).map fun o => o.2.getD i.toNat 0).getD 0
def getM (s : HS) (x i : Int) : Int × Int := if placeE s x i = 0 then (numAt s x i, 0) else (0, placeE s x i)
theorem placeE_found {s : HS} {x i : Int} (h : placeE s x i = 0) : ∃ o, s.m x = some o ∧ 0 ≤ i ∧ i < (o.2.length : Int) ∧ ¬ x = 0 := by
  unfold placeE at h
  split at h
  · cases h
  · rename_i h0
    cases hm : s.m x with
    | none => rw [hm] at h; cases h
    | some o =>
      rw [hm] at h
      simp only at h
      split at h
      · rename_i hi; exact ⟨o, rfl, hi.1, hi.2, h0⟩
      · cases h
theorem num_cell {W : World} {b : Nat} {xs : List Int} (h : W.heap[b]? = some (.cells (xs.map (Value.int .i64)).toArray 3 (0, 0))) {i : Nat} (hi : i < xs.length) : W.cell? ⟨b, i, none⟩ = some (.int .i64 (xs.getD i 0)) := by
  rw [blk_cell h i]
  simp [List.getD_eq_getElem?_getD, List.getElem?_eq_getElem hi]
set_option maxHeartbeats 1600000 in
set_option maxRecDepth 100000 in
theorem hp_Get (w0 : World) (s : HS) (x i : Int) (hk : I64 x) (W : World) (h : HeapAt w0 s W) : Calls Tryz.prog 18 #[.pointer (some ⟨s.hb, 0, none⟩), .int .i64 x, .int .i64 i] W fun e w' => e = .returned (.tuple #[.int .i64 (getM s x i).1, .int .i64 (getM s x i).2]) ∧ Below W.heap.size W w' := by
  obtain ⟨ob, rb, h⟩ := h
  have H := Aside0.mk h
  have HK := Aside0.mk hk
  clear h hk
  unfold getM
  by_cases hp : placeE s x i = 0
  · rw [if_pos hp]
    obtain ⟨o, hm, h0, h1, _⟩ := placeE_found hp
    have HV := Aside0.mk (placeV_yes rb hp)
    have HM := Aside0.mk hm
    have hn : numAt s x i = o.2.getD i.toNat 0 := by unfold numAt; rw [hm]; rfl
    rw [hn]
    have HI := Aside0.mk (show i.toNat < o.2.length by omega)
    clear hm h0 h1 hn hp
    go_enter Tryz.func18, Tryz.ntmps18
    go_wp2_with fail
    refine (hp_place w0 s ob rb x i HK.out _ H.out).mono ?_
    rw [HV.out]
    rintro e w1 ⟨rfl, hb⟩
    have HB := Aside0.mk hb
    replace H := Aside0.mk (H.out.step hb)
    clear hb
    have g1 := num_cell (H.out.obj x o HM.out).2 HI.out
    go_wp2
    go_ret2
    exact ⟨rfl, HB.out⟩
  · rw [if_neg hp]
    have HV := Aside0.mk (placeV_no rb (k := placeE s x i) rfl hp)
    obtain ⟨k, hkk⟩ : ∃ k, k = placeE s x i := ⟨_, rfl⟩
    rw [← hkk] at hp HV ⊢
    have c0b : (k == 0) = false := by rw [beq_eq_false_iff_ne]; exact hp
    have c1b : (k != 0) = true := by rw [bne_iff_ne]; exact hp
    clear hp hkk
    go_enter Tryz.func18, Tryz.ntmps18
    go_wp2_with fail
    refine (hp_place w0 s ob rb x i HK.out _ H.out).mono ?_
    rw [HV.out]
    rintro e w1 ⟨rfl, hb⟩
    have HB := Aside0.mk hb
    replace H := Aside0.mk (H.out.step hb)
    clear hb
    go_wp2
    go_ret2
    exact ⟨rfl, HB.out⟩
def lenM (s : HS) (x : Int) : Int × Int := if x = 0 then (0, 140) else match s.m x with
  | none => (0, 141)
  | some o => ((o.2.length : Int), 0)
def classM (s : HS) (x : Int) : Int × Bool := if x = 0 then (0, false) else match s.m x with
  | none => (0, false)
  | some o => if o.1 < 0 then (0, false) else (o.1, true)
set_option maxHeartbeats 1600000 in
set_option maxRecDepth 100000 in
theorem hp_Len (w0 : World) (s : HS) (x : Int) (hk : I64 x) (W : World) (h : HeapAt w0 s W) : Calls Tryz.prog 22 #[.pointer (some ⟨s.hb, 0, none⟩), .int .i64 x] W fun e w' => e = .returned (.tuple #[.int .i64 (lenM s x).1, .int .i64 (lenM s x).2]) ∧ Below W.heap.size W w' := by
  obtain ⟨ob, rb, h⟩ := h
  have H := Aside0.mk h
  clear h
  unfold lenM
  by_cases c0 : x = 0
  · subst c0
    rw [if_pos rfl]
    go_enter Tryz.func22, Tryz.ntmps22
    go_wp2_with fail
    refine (hp_find w0 s ob rb 0 hk _ H.out).mono ?_
    rw [findV_zero]
    rintro e w1 ⟨rfl, hb⟩
    have HB := Aside0.mk hb
    clear hb
    go_wp2_with fail
    refine (number_140 _).mono ?_
    rintro e w2 ⟨rfl, hb⟩
    have HB2 := Aside0.mk (below_then HB.out HB.out.size hb)
    clear hb
    go_wp2
    go_ret2
    exact ⟨rfl, HB2.out⟩
  · rw [if_neg c0]
    cases hm : s.m x with
    | none =>
      have HV := Aside0.mk (findV_none ob c0 hm)
      clear hm c0
      go_enter Tryz.func22, Tryz.ntmps22
      go_wp2_with fail
      refine (hp_find w0 s ob rb x hk _ H.out).mono ?_
      rw [HV.out]
      rintro e w1 ⟨rfl, hb⟩
      have HB := Aside0.mk hb
      clear hb
      go_wp2_with fail
      refine (number_141 _).mono ?_
      rintro e w2 ⟨rfl, hb⟩
      have HB2 := Aside0.mk (below_then HB.out HB.out.size hb)
      clear hb
      go_wp2
      go_ret2
      exact ⟨rfl, HB2.out⟩
    | some o =>
      have HV := Aside0.mk (findV_some ob c0 hm)
      have HM := Aside0.mk hm
      clear hm c0
      go_enter Tryz.func22, Tryz.ntmps22
      go_wp2_with fail
      refine (hp_find w0 s ob rb x hk _ H.out).mono ?_
      rw [HV.out]
      rintro e w1 ⟨rfl, hb⟩
      have HB := Aside0.mk hb
      replace H := Aside0.mk (H.out.step hb)
      clear hb
      have g1 := blk_cell (H.out.obj x o HM.out).1 1
      simp only [List.getElem?_toArray, List.getElem?_cons_zero, List.getElem?_cons_succ] at g1
      go_wp2
      go_ret2
      exact ⟨rfl, HB.out⟩
set_option maxHeartbeats 1600000 in
set_option maxRecDepth 100000 in
theorem hp_Class (w0 : World) (s : HS) (x : Int) (hk : I64 x) (W : World) (h : HeapAt w0 s W) : Calls Tryz.prog 32 #[.pointer (some ⟨s.hb, 0, none⟩), .int .i64 x] W fun e w' => e = .returned (.tuple #[.int .i64 (classM s x).1, .bool (classM s x).2]) ∧ Below W.heap.size W w' := by
  obtain ⟨ob, rb, h⟩ := h
  have H := Aside0.mk h
  clear h
  unfold classM
  by_cases c0 : x = 0
  · subst c0
    rw [if_pos rfl]
    go_enter Tryz.func32, Tryz.ntmps32
    go_wp2_with fail
    refine (hp_find w0 s ob rb 0 hk _ H.out).mono ?_
    rw [findV_zero]
    rintro e w1 ⟨rfl, hb⟩
    have HB := Aside0.mk hb
    replace H := Aside0.mk (H.out.step hb)
    clear hb
    go_wp2
    go_ret2
    exact ⟨rfl, HB.out⟩
  · rw [if_neg c0]
    cases hm : s.m x with
    | none =>
      have HV := Aside0.mk (findV_none ob c0 hm)
      clear hm c0
      go_enter Tryz.func32, Tryz.ntmps32
      go_wp2_with fail
      refine (hp_find w0 s ob rb x hk _ H.out).mono ?_
      rw [HV.out]
      rintro e w1 ⟨rfl, hb⟩
      have HB := Aside0.mk hb
      replace H := Aside0.mk (H.out.step hb)
      clear hb
      go_wp2
      go_ret2
      exact ⟨rfl, HB.out⟩
    | some o =>
      have HV := Aside0.mk (findV_some ob c0 hm)
      have HM := Aside0.mk hm
      clear hm c0
      by_cases cn : o.1 < 0
      · have d1 : decide (o.1 < 0) = true := decide_eq_true cn
        simp only [if_pos cn]
        clear cn
        go_enter Tryz.func32, Tryz.ntmps32
        go_wp2_with fail
        refine (hp_find w0 s ob rb x hk _ H.out).mono ?_
        rw [HV.out]
        rintro e w1 ⟨rfl, hb⟩
        have HB := Aside0.mk hb
        replace H := Aside0.mk (H.out.step hb)
        clear hb
        have g0 := blk_cell (H.out.obj x o HM.out).1 0
        simp only [List.getElem?_toArray, List.getElem?_cons_zero, List.getElem?_cons_succ] at g0
        go_wp2
        go_ret2
        exact ⟨rfl, HB.out⟩
      · have d1 : decide (o.1 < 0) = false := decide_eq_false cn
        simp only [if_neg cn]
        clear cn
        go_enter Tryz.func32, Tryz.ntmps32
        go_wp2_with fail
        refine (hp_find w0 s ob rb x hk _ H.out).mono ?_
        rw [HV.out]
        rintro e w1 ⟨rfl, hb⟩
        have HB := Aside0.mk hb
        replace H := Aside0.mk (H.out.step hb)
        clear hb
        have g0 := blk_cell (H.out.obj x o HM.out).1 0
        simp only [List.getElem?_toArray, List.getElem?_cons_zero, List.getElem?_cons_succ] at g0
        go_wp2
        go_ret2
        exact ⟨rfl, HB.out⟩
theorem blk_ne {W : World} {a b : Nat} {c c' : Array Value} {t t' : TypeId} {f f' : Nat × Nat} (h1 : W.heap[a]? = some (.cells c t f)) (h2 : W.heap[b]? = some (.cells c' t' f')) (ht : t ≠ t') : ¬ a = b := by
  intro e
  rw [e, h2] at h1
  injection h1 with h1
  injection h1 with _ h1
  exact ht h1.symm
theorem cls_kept {W W1 : World} {base : Nat} {ok : Nat → Prop} {v : Value} {l : List S38} (h : Kd.R k38 38 W base ok v l) {g t : Nat} {cs : Array Value} (hb : W.heap[g]? = some (.cells cs t (0, 0))) (ht : ∀ q, q ∈ (38 : Nat) :: k38.E → q ≠ t) (hk : Kept W W1 (fun k => k = g)) : Kd.R k38 38 W1 base ok v l :=
  Kd.R_mono (Kd.R_step (Kd.R_types h hb ht) (fun j hj hlt => hk.2 j hlt hj.2)) (fun _ h => h.1)
theorem HeapIn.kept1 {w0 : World} {s : HS} {ob rb : Int → Nat} {W W1 : World} (H : HeapIn w0 s ob rb W) {g : Nat} (hk : Kept W W1 (fun k => k = g)) (hn : ∀ k, s.fr k → k ≠ g) : s.w9.heap.size ≤ W1.heap.size ∧ ∀ k, s.fr k → k < s.w9.heap.size ∧ W1.heap[k]? = s.w9.heap[k]? := ⟨Nat.le_trans H.keep.1 hk.1, fun k hf => ⟨(H.keep.2 k hf).1, (hk.2 k (Nat.lt_of_lt_of_le (H.keep.2 k hf).1 H.keep.1) (hn k hf)).trans (H.keep.2 k hf).2⟩⟩
theorem HeapIn.head {w0 : World} {s : HS} {ob rb : Int → Nat} {W W1 : World} (H : HeapIn w0 s ob rb W) (s' : HS) (e1 : s'.hb = s.hb) (e2 : s'.B = s.B) (e3 : s'.vc = s.vc) (e4 : s'.l = s.l) (e5 : s'.m = s.m) (e7 : s'.fr = s.fr) (e8 : s'.w9 = s.w9) (e6 : s.last ≤ s'.last) (hn : 0 ≤ s'.used ∧ s'.used ≤ s'.room ∧ s'.room ≤ 4096)
    (hX : Rws w0 [(s.hb, 54, s'.cell)] W1) (hk : Kept W W1 (fun k => k = s.hb)) : HeapIn w0 s' ob rb W1 := by
  have hno : ∀ x o, s.m x = some o → ¬ ob x = s.hb ∧ ¬ rb x = s.hb := fun x o hx => ⟨blk_ne (H.obj x o hx).1 H.hd (by show (91 : Nat) ≠ 54; decide), blk_ne (H.obj x o hx).2 H.hd (by show (3 : Nat) ≠ 54; decide)⟩
  refine ⟨by rw [e1]; exact hX.mem List.mem_cons_self, by rw [e2, e5]; exact (H.mp.block (hk.2 _ H.mp.lt (H.mp.ne H.hd))).mono e6, by rw [e5]; exact fun x o hx => ⟨blk_kept (H.obj x o hx).1 hk (hno x o hx).1, blk_kept (H.obj x o hx).2 hk (hno x o hx).2⟩, by rw [e5]; exact H.inj, by rw [e1, e2, e5]; exact H.base, by rw [e3, e4, e7]; exact cls_kept H.cls H.hd (by show ∀ q, q ∈ (38 : Nat) :: k38.E → q ≠ (54 : Nat); decide) hk, by rw [e5, e4]; exact fun x o hx => ⟨(H.dom x o hx).1, by have := (H.dom x o hx).2.1; omega, (H.dom x o hx).2.2⟩, hn, hX.below, by rw [e7, e8]; exact H.kept1 hk (fun k hf => (H.sep k hf).1), by rw [e1, e2, e5, e7]; exact H.sep⟩
theorem HeapIn.rws {w0 : World} {s : HS} {ob rb : Int → Nat} {W : World} (H : HeapIn w0 s ob rb W) : Rws w0 [(s.hb, 54, s.cell)] W := ⟨fun p hp => by rw [List.mem_singleton.1 hp]; exact ⟨H.hd, H.base.1⟩, by simp, H.below⟩
def setNum (m : Int → Option (Int × List Int)) (x i v : Int) : Int → Option (Int × List Int) := fun y => if y = x then (m x).map fun o => (o.1, o.2.set i.toNat v) else m y
theorem HeapIn.num_set {w0 : World} {s : HS} {ob rb : Int → Nat} {W W1 : World} (H : HeapIn w0 s ob rb W) {x i v : Int} (hv : -2147483648 ≤ v ∧ v ≤ 2147483647) {o : Int × List Int} (hm : s.m x = some o) (hX : Rws w0 [(rb x, 3, ((o.2.set i.toNat v).map (Value.int .i64)).toArray)] W1) (hk : Kept W W1 (fun k => k = rb x)) : HeapIn w0 { s with m := setNum s.m x i v } ob rb W1 := by
  have hr := (H.obj x o hm).2
  have hold : ∀ y q, setNum s.m x i v y = some q → ∃ q0, s.m y = some q0 ∧ q0.1 = q.1 ∧ q0.2.length = q.2.length ∧ ∀ z ∈ q.2, z ∈ q0.2 ∨ z = v := by
    intro y q hq
    unfold setNum at hq
    split at hq
    · rename_i e
      rw [e, hm]
      rw [hm] at hq
      cases hq
      exact ⟨o, rfl, rfl, by simp, fun z hz => List.mem_or_eq_of_mem_set hz⟩
    · exact ⟨q, hq, rfl, rfl, fun z hz => .inl hz⟩
  refine ⟨blk_kept H.hd hk (blk_ne H.hd hr (by show (54 : Nat) ≠ 3; decide)), ?_, ?_, ?_, ⟨H.base.1, H.base.2.1, fun y q hq => ?_⟩, cls_kept H.cls hr (by show ∀ q, q ∈ (38 : Nat) :: k38.E → q ≠ (3 : Nat); decide) hk, fun y q hq => ?_, H.num, hX.below, H.kept1 hk (fun k hf => ((H.sep k hf).2.2 x o hm).2), fun k hf => ⟨(H.sep k hf).1, (H.sep k hf).2.1, fun y q hq => by obtain ⟨q0, h0, _⟩ := hold y q hq; exact (H.sep k hf).2.2 y q0 h0⟩⟩
  · have e : (fun y => (setNum s.m x i v y).map fun _ => ob y) = fun y => (s.m y).map fun _ => ob y := by
      funext y
      unfold setNum
      split
      · rename_i e; rw [e, hm]; rfl
      · rfl
    show PMap W1 s.B s.last (fun y => (setNum s.m x i v y).map fun _ => ob y)
    rw [e]
    exact H.mp.block (hk.2 _ H.mp.lt (H.mp.ne hr))
  · intro y q hq
    have hob : ¬ ob y = rb x := by
      obtain ⟨q0, h0, _⟩ := hold y q hq
      exact blk_ne (H.obj y q0 h0).1 hr (by show (91 : Nat) ≠ 3; decide)
    change setNum s.m x i v y = some q at hq
    by_cases e : y = x
    · subst e
      unfold setNum at hq
      rw [if_pos rfl, hm] at hq
      cases hq
      refine ⟨?_, hX.mem List.mem_cons_self⟩
      have := blk_kept (H.obj y o hm).1 hk hob
      simpa using this
    · unfold setNum at hq
      rw [if_neg e] at hq
      exact ⟨blk_kept (H.obj y q hq).1 hk hob, blk_kept (H.obj y q hq).2 hk (H.inj y x q o hq hm e).2⟩
  · intro y z p q hp hq hne
    obtain ⟨p0, hp0, _⟩ := hold y p hp
    obtain ⟨q0, hq0, _⟩ := hold z q hq
    exact H.inj y z p0 q0 hp0 hq0 hne
  · obtain ⟨q0, hq0, _⟩ := hold y q hq
    exact H.base.2.2 y q0 hq0
  · obtain ⟨q0, hq0, hc, hl, hz⟩ := hold y q hq
    have := H.dom y q0 hq0
    exact ⟨this.1, this.2.1, by rw [← hl]; exact this.2.2.1, by rw [← hc, ← hl]; exact this.2.2.2.1, fun z hz2 => (hz z hz2).elim (fun h => this.2.2.2.2 z h) (fun h => by rw [h]; exact hv)⟩
section
variable {ops : Array Oper} {rest : List Oper} {o : Oper} {a : Act} {Q : Exit → Act → World → Prop}
theorem head_store (hgd : o.guard = none) {p x : Operand} (ho : o.op = .store 3 p x) {w0 W : World} {s : HS} {ob rb : Int → Nat} (j : Nat) {v : Int} (hx : a.eval p = .pointer (some ⟨s.hb, j, none⟩)) (hy : a.eval x = .int .i64 v) (H : HeapIn w0 s ob rb W) (hj : j < 5) (s' : HS) (hc : s.cell.setIfInBounds j (.int .i64 v) = s'.cell) (e1 : s'.hb = s.hb) (e2 : s'.B = s.B) (e3 : s'.vc = s.vc) (e4 : s'.l = s.l) (e5 : s'.m = s.m) (e7 : s'.fr = s.fr) (e8 : s'.w9 = s.w9) (e6 : s.last ≤ s'.last) (hn : 0 ≤ s'.used ∧ s'.used ≤ s'.room ∧ s'.room ≤ 4096)
    (h : ∀ w1, HeapIn w0 s' ob rb w1 → Kept W w1 (fun k => k = s.hb) → wpList Tryz.prog ops Q rest (a.put o.dst undef) w1) : wpList Tryz.prog ops Q (o :: rest) a W :=
  rw_cell hgd 3 ho hx hy rfl [] H.rws (by show j < 5; exact hj) (by kernel_rfl) (fun w1 hX hk => h w1 (H.head s' e1 e2 e3 e4 e5 e7 e8 e6 hn (by rw [← hc]; exact hX) hk) hk)
theorem num_store (hgd : o.guard = none) {p y : Operand} (ho : o.op = .store 3 p y) {w0 W : World} {s : HS} {ob rb : Int → Nat} {x i v : Int} {q : Int × List Int} (hp : a.eval p = .pointer (some ⟨rb x, i.toNat, none⟩)) (hy : a.eval y = .int .i64 v) (H : HeapIn w0 s ob rb W) (hv : -2147483648 ≤ v ∧ v ≤ 2147483647) (hm : s.m x = some q) (hi : i.toNat < q.2.length)
    (h : ∀ w1, HeapIn w0 { s with m := setNum s.m x i v } ob rb w1 → wpList Tryz.prog ops Q rest (a.put o.dst undef) w1) : wpList Tryz.prog ops Q (o :: rest) a W :=
  rw_cell hgd 3 ho hp hy rfl [] (l2 := []) (t := 3) (cs := (q.2.map (Value.int .i64)).toArray) ⟨fun r hr => by rw [List.mem_singleton.1 hr]; exact ⟨(H.obj x q hm).2, (H.base.2.2 x q hm).2⟩, by simp, H.below⟩ (by simpa using hi) (by kernel_rfl) (fun w1 hX hk => h w1 (H.num_set hv hm (by
    have e : (q.2.map (Value.int .i64)).toArray.setIfInBounds i.toNat (Value.int .i64 v) = ((q.2.set i.toNat v).map (Value.int .i64)).toArray := by simp [List.map_set]
    rw [List.nil_append, e] at hX
    exact hX) hk))
end
def putM (s : HS) (x i v : Int) : Int × HS := if placeE s x i = 0 then (if v < -2147483648 ∨ v > 2147483647 then (5, s) else (0, { s with m := setNum s.m x i v })) else (placeE s x i, s)
set_option maxHeartbeats 1600000 in
set_option maxRecDepth 100000 in
theorem hp_Put (w0 : World) (s : HS) (x i v : Int) (hk : I64 x) (W : World) (h : HeapAt w0 s W) : Calls Tryz.prog 20 #[.pointer (some ⟨s.hb, 0, none⟩), .int .i64 x, .int .i64 i, .int .i64 v] W fun e w' => e = .returned (.int .i64 (putM s x i v).1) ∧ HeapAt w0 (putM s x i v).2 w' := by
  obtain ⟨ob, rb, h⟩ := h
  have H := Aside0.mk h
  have HK := Aside0.mk hk
  clear h hk
  unfold putM
  by_cases hp : placeE s x i = 0
  · rw [if_pos hp]
    obtain ⟨o, hm, h0, h1, _⟩ := placeE_found hp
    have HV := Aside0.mk (placeV_yes rb hp)
    have HM := Aside0.mk hm
    have HI := Aside0.mk (show i.toNat < o.2.length by omega)
    clear hm h0 h1 hp
    by_cases cv : v < -2147483648 ∨ v > 2147483647
    · rw [if_pos cv]
      by_cases cl : v < -2147483648
      · have d1 : decide (v < -2147483648) = true := decide_eq_true cl
        clear cv cl
        go_enter Tryz.func20, Tryz.ntmps20
        go_wp2_with fail
        refine (hp_place w0 s ob rb x i HK.out _ H.out).mono ?_
        rw [HV.out]
        rintro e w1 ⟨rfl, hb⟩
        have HB := Aside0.mk hb
        replace H := Aside0.mk (H.out.step hb)
        clear hb
        go_wp2
        go_ret
        exact ⟨rfl, ob, rb, H.out⟩
      · have d1 : decide (v < -2147483648) = false := decide_eq_false cl
        have d2 : decide (v > 2147483647) = true := decide_eq_true (by omega)
        have d3 : decide (2147483647 < v) = true := decide_eq_true (by omega)
        clear cv cl
        go_enter Tryz.func20, Tryz.ntmps20
        go_wp2_with fail
        refine (hp_place w0 s ob rb x i HK.out _ H.out).mono ?_
        rw [HV.out]
        rintro e w1 ⟨rfl, hb⟩
        have HB := Aside0.mk hb
        replace H := Aside0.mk (H.out.step hb)
        clear hb
        go_wp2
        go_ret
        exact ⟨rfl, ob, rb, H.out⟩
    · rw [if_neg cv]
      have HV9 := Aside0.mk (show -2147483648 ≤ v ∧ v ≤ 2147483647 by omega)
      have d1 : decide (v < -2147483648) = false := decide_eq_false (by omega)
      have d2 : decide (v > 2147483647) = false := decide_eq_false (by omega)
      have d3 : decide (2147483647 < v) = false := decide_eq_false (by omega)
      clear cv
      go_enter Tryz.func20, Tryz.ntmps20
      go_wp2_with fail
      refine (hp_place w0 s ob rb x i HK.out _ H.out).mono ?_
      rw [HV.out]
      rintro e w1 ⟨rfl, hb⟩
      have HB := Aside0.mk hb
      replace H := Aside0.mk (H.out.step hb)
      clear hb
      go_wp2_with (first | ((with_reducible refine gate_store (t := 3) (p := 31) rfl ?_); refine num_store rfl rfl (x := x) (i := i) rfl rfl H.out HV9.out HM.out HI.out ?_; intro w9 ho; replace H := Aside0.mk ho; clear ho))
      go_ret
      exact ⟨rfl, ob, rb, H.out⟩
  · rw [if_neg hp]
    have HV := Aside0.mk (placeV_no rb (k := placeE s x i) rfl hp)
    obtain ⟨k, hkk⟩ : ∃ k, k = placeE s x i := ⟨_, rfl⟩
    rw [← hkk] at hp HV ⊢
    have c0b : (k == 0) = false := by rw [beq_eq_false_iff_ne]; exact hp
    have c1b : (k != 0) = true := by rw [bne_iff_ne]; exact hp
    clear hp hkk
    go_enter Tryz.func20, Tryz.ntmps20
    go_wp2_with fail
    refine (hp_place w0 s ob rb x i HK.out _ H.out).mono ?_
    rw [HV.out]
    rintro e w1 ⟨rfl, hb⟩
    have HB := Aside0.mk hb
    replace H := Aside0.mk (H.out.step hb)
    clear hb
    go_wp2
    go_ret
    exact ⟨rfl, ob, rb, H.out⟩
def updM (m : Int → Option (Int × List Int)) (x : Int) (o : Int × List Int) : Int → Option (Int × List Int) := fun y => if y = x then some o else m y
def addM (s : HS) (c n : Int) : Int × Int × HS := if n > s.room - s.used - 1 then (0, 7, s) else ((s.last : Int) + 1, 0, { s with used := s.used + (n + 1), last := s.last + 1, m := updM s.m ((s.last : Int) + 1) (c, List.replicate n.toNat 0) })
theorem made_ints (n : Nat) : madeCells #[.int .i64 0] n = ((List.replicate n (0 : Int)).map (Value.int .i64)).toArray := by
  refine Array.ext' ?_
  simp only [madeCells]
  refine List.ext_getElem (by simp) (fun i h1 h2 => ?_)
  simp [Nat.mod_one]
theorem run_make_ints (n : Int) (h0 : 0 ≤ n) (hn : n ≤ 4096) (W : World) : (Instr.makeSlice 42 (.int .i64 n) (.int .i64 n)).run Tryz.prog W = .ok (.slice (some ⟨W.heap.size, 0, none⟩) n.toNat n.toNat) (W.alloc (.cells ((List.replicate n.toNat (0 : Int)).map (Value.int .i64)).toArray 3)) := by
  obtain ⟨i0, hi, hzz⟩ := Option.map_eq_some_iff.1 (show (Tryz.prog.info? 3).map (fun i => (i.zero, i.size, i.bytes)) = some (some (.int .i64 0), 1, 8) by kernel_rfl)
  simp only [Prod.mk.injEq] at hzz
  have h := run_make (P := Tryz.prog) W 42 3 i0 (.int .i64 0) Tryz.underlying42 hi hzz.1 .i64 .i64 n n h0 (Int.le_refl _) (by rw [hzz.2.2]; omega) (by omega)
  have e : (Value.int .i64 0).cells = #[.int .i64 0] := rfl
  rw [h, hzz.2.1, Nat.mul_one, e, made_ints]
theorem HeapIn.added {w0 : World} {s : HS} {ob rb : Int → Nat} {W W1 : World} (H : HeapIn w0 s ob rb W) {x c : Int} {nums : List Int} {g1 g2 : Nat} (hg1 : W.heap[g1]? = some (.cells #[.int .i64 c, .slice (some ⟨g2, 0, none⟩) nums.length nums.length] 91 (0, 0))) (hg2 : W.heap[g2]? = some (.cells (nums.map (Value.int .i64)).toArray 3 (0, 0))) (hnew : ∀ y o, s.m y = some o → ob y ≠ g1 ∧ rb y ≠ g2) (hb1 : w0.heap.size ≤ g1) (hb2 : w0.heap.size ≤ g2) (hf9 : ∀ k, s.fr k → k ≠ g1 ∧ k ≠ g2)
    (hm : s.m x = none) (hOK : ObjOK s.l s.last x (c, nums)) (hmp : PMap W1 s.B s.last (updP (fun y => (s.m y).map fun _ => ob y) x g1)) (hg : W.grownBy W1 (some s.B)) :
    HeapIn w0 { s with m := updM s.m x (c, nums) } (fun y => if y = x then g1 else ob y) (fun y => if y = x then g2 else rb y) W1 := by
  have hB : ∀ (g : Nat) (cs : Array Value) (t : Nat), W.heap[g]? = some (.cells cs t (0, 0)) → W1.heap[g]? = some (.cells cs t (0, 0)) := fun g cs t hh => blk_grown hh hg (fun e => H.mp.ne hh (Option.some.inj e).symm)
  have hne : ∀ y o, s.m y = some o → ¬ y = x := fun y o hy e => by rw [e, hm] at hy; cases hy
  refine ⟨hB _ _ _ H.hd, ?_, fun y o hy => ?_, fun y z p q hp hq hyz => ?_, ⟨H.base.1, H.base.2.1, fun y o hy => ?_⟩, Kd.R_mono (Kd.R_grown (Kd.R_bound H.cls) hg (fun k hk e => ?_)) (fun _ h => h.1), fun y o hy => ?_, H.num, H.below.grown hg H.below.size (fun k hk => by cases hk; exact H.base.2.1), ⟨Nat.le_trans H.keep.1 hg.size, fun k hf => ⟨(H.keep.2 k hf).1, (hg.block k (Nat.lt_of_lt_of_le (H.keep.2 k hf).1 H.keep.1) (fun e => (H.sep k hf).2.1 (Option.some.inj e))).trans (H.keep.2 k hf).2⟩⟩, fun k hf => ⟨(H.sep k hf).1, (H.sep k hf).2.1, fun y q hq => ?_⟩⟩
  · have e : (fun y => (updM s.m x (c, nums) y).map fun _ => if y = x then g1 else ob y) = updP (fun y => (s.m y).map fun _ => ob y) x g1 := by
      funext y
      unfold updM updP
      by_cases e : y = x
      · rw [if_pos e, if_pos e, if_pos e]; rfl
      · rw [if_neg e, if_neg e, if_neg e]
    show PMap W1 s.B s.last (fun y => (updM s.m x (c, nums) y).map fun _ => if y = x then g1 else ob y)
    rw [e]
    exact hmp
  · change updM s.m x (c, nums) y = some o at hy
    unfold updM at hy
    by_cases e : y = x
    · rw [if_pos e] at hy
      cases hy
      simp only [if_pos e]
      exact ⟨hB _ _ _ hg1, hB _ _ _ hg2⟩
    · rw [if_neg e] at hy
      simp only [if_neg e]
      exact ⟨hB _ _ _ (H.obj y o hy).1, hB _ _ _ (H.obj y o hy).2⟩
  · change updM s.m x (c, nums) y = some p at hp
    change updM s.m x (c, nums) z = some q at hq
    unfold updM at hp hq
    by_cases e : y = x
    · have e2 : ¬ z = x := fun e2 => hyz (e.trans e2.symm)
      rw [if_neg e2] at hq
      simp only [if_pos e, if_neg e2]
      have := hnew z q hq
      exact ⟨fun h => this.1 h.symm, fun h => this.2 h.symm⟩
    · rw [if_neg e] at hp
      simp only [if_neg e]
      by_cases e2 : z = x
      · simp only [if_pos e2]
        exact hnew y p hp
      · rw [if_neg e2] at hq
        simp only [if_neg e2]
        exact H.inj y z p q hp hq hyz
  · change updM s.m x (c, nums) y = some o at hy
    unfold updM at hy
    by_cases e : y = x
    · simp only [if_pos e]; exact ⟨hb1, hb2⟩
    · rw [if_neg e] at hy
      simp only [if_neg e]
      exact H.base.2.2 y o hy
  · obtain ⟨_, _, _, q, _, cells, hc⟩ := hk
    exact H.mp.ne hc (Option.some.inj e).symm
  · change updM s.m x (c, nums) y = some o at hy
    unfold updM at hy
    by_cases e : y = x
    · rw [if_pos e] at hy
      cases hy
      rw [e]
      exact hOK
    · rw [if_neg e] at hy
      exact H.dom y o hy
  · change updM s.m x (c, nums) y = some q at hq
    unfold updM at hq
    by_cases e : y = x
    · simp only [if_pos e]; exact hf9 k hf
    · rw [if_neg e] at hq
      simp only [if_neg e]
      exact (H.sep k hf).2.2 y q hq
end Go.Proofs.YtkjagcamikkjkaaGreat.P
end

