/- Proved: the law ModuleChecks holds for every input that the row lets in. No condition of ours. -/
import Derived.Test.YtdlmcjchnoeebaaBModuleChecksg
section
namespace Go.Proofs.Ytdlmcjchnoeebaa.P
open Go.RowKit Go.Proofs.YtdlmcjchnoeebaaW.PrintWords Go.Proofs.YtdlmcjchnoeebaaW.PrintLast Go.Proofs.YtdlmcjchnoeebaaW.PrintMore
attribute [local go_sem] max2_int min2_int max_two min_two max_three min_three max_four min_four   -- for this text's walks alone
set_option linter.unusedVariables false
set_option linter.unusedSimpArgs false

set_option maxHeartbeats 8000000 in
set_option maxRecDepth 100000 in
theorem provisoref16_function.calls (k : Nat) (a0_0 : ByteArray) (A0_1 : Option Addr) (c0_1 : Nat) (l0_1 : List (S64)) (A0_2 : Option Addr) (c0_2 : Nat) (l0_2 : List (S49)) (A0_3 : Option Addr) (c0_3 : Nat) (l0_3 : List (List Int)) (a1 : Int) (r : Int) (w : World) (hr0_1 : Kd.C k64 w A0_1 l0_1.length l0_1) (hc0_1 : l0_1.length ≤ c0_1) (hr0_2 : Kd.C k49 w A0_2 l0_2.length l0_2) (hc0_2 : l0_2.length ≤ c0_2) (hr0_3 : Kd.C (Kd.slice 5 (Kd.int .u8)) w A0_3 l0_3.length l0_3) (hc0_3 : l0_3.length ≤ c0_3) (h : provisoref16_function.f k a0_0 l0_1 l0_2 l0_3 a1 = some r) :
    Calls Try.prog 42 #[.agg #[.string a0_0, .slice A0_1 l0_1.length c0_1, .slice A0_2 l0_2.length c0_2, .slice A0_3 l0_3.length c0_3], .int .i64 a1] w fun e w' => e = .returned (.int .i64 r) ∧ Below w.heap.size w w' := by
  have hu26 := Try.underlying26
  have hu49 := Try.underlying49
  have hu47 := Try.underlying47
  have HR0_1 := amk hr0_1
  have HC0_1 := amk hc0_1
  clear hr0_1 hc0_1
  have HR0_2 := amk hr0_2
  have HC0_2 := amk hc0_2
  clear hr0_2 hc0_2
  have HR0_3 := amk hr0_3
  have HC0_3 := amk hc0_3
  clear hr0_3 hc0_3
  have HB := amk (Below.refl w.heap.size w)
  have H : (if 0 ≤ a1 then (if a1 < (l0_2.length : Int) then ((provisoref02_IsName.f k ((rd_T49 l0_2 a1).f0)).bind fun t243 => (if t243 = true then (provisoref16_function.l0 k a1 0 a0_0 l0_1 l0_2 l0_3 ((rd_T49 l0_2 a1).f0) ((rd_T49 l0_2 a1).f1.f0) ((rd_T49 l0_2 a1).f1.f1) ((rd_T49 l0_2 a1).f2) ((rd_T49 l0_2 a1).f3)) else (some 6))) else (none)) else (none)) = some r := h
  clear h
  by_cases c3 : 0 ≤ a1
  · rw [if_pos c3] at H
    have c3b0 : decide (0 ≤ a1) = true := decide_eq_true c3
    clear c3
    by_cases c4 : a1 < (l0_2.length : Int)
    · rw [if_pos c4] at H
      have c4b0 : decide (a1 < (l0_2.length : Int)) = true := decide_eq_true c4
      clear c4
      replace H := Option.bind_eq_some_iff.mp H
      obtain ⟨t243, A50, H⟩ := H
      replace H : (if t243 = true then (provisoref16_function.l0 k a1 0 a0_0 l0_1 l0_2 l0_3 ((rd_T49 l0_2 a1).f0) ((rd_T49 l0_2 a1).f1.f0) ((rd_T49 l0_2 a1).f1.f1) ((rd_T49 l0_2 a1).f2) ((rd_T49 l0_2 a1).f3)) else (some 6)) = some r := H
      have A5 := amk A50
      clear A50
      by_cases c6 : t243 = true
      · subst c6
        have H1 : (provisoref16_function.l0 k a1 0 a0_0 l0_1 l0_2 l0_3 ((rd_T49 l0_2 a1).f0) ((rd_T49 l0_2 a1).f1.f0) ((rd_T49 l0_2 a1).f1.f1) ((rd_T49 l0_2 a1).f2) ((rd_T49 l0_2 a1).f3)) = some r := by rw [if_pos rfl] at H; exact H
        clear H
        have H := H1
        clear H1
        have H' := amk H
        clear H
        go_enter Try.func42, Try.ntmps42
        go_wp2_with (first | ((with_reducible refine gate_dst (N := 2) rfl ?_); refine box_event ?hg (N := 2) ?hd (cs := #[.string a0_0, .slice A0_1 l0_1.length c0_1, .slice A0_2 l0_2.length c0_2, .slice A0_3 l0_3.length c0_3]) (t := 26) ?hr ?_; (case hd => rfl); (case hg => rfl); (case hr => first | (go_simp; done) | (go_simp; rfl)); intro gb240 hg w7 hbox hb; have n0_ := amk (below_step (by repeat (first | (with_reducible first | exact HB.out | apply bal | apply pbd | apply bdr) | exact HB.out)) hb); have n1_ := amk (hbox); have n2_ := amk ((by rw [hg]; exact (below_size (by repeat (first | (with_reducible first | exact HB.out | apply bal | apply pbd | apply bdr) | exact HB.out))) : w.heap.size ≤ gb240)); have n3_ := amk ((by rw [hg]; exact (below_size (by repeat (first | (with_reducible first | exact HB.out | apply bal | apply pbd | apply bdr) | exact HB.out))) : w.heap.size ≤ gb240)); clear HB; have HB := n0_; have BK240 := n1_; have GW240 := n2_; have GE240 := n3_; clear n0_ n1_ n2_ n3_; clear hb hbox hg; have hcz8_0 : w7.cell? ⟨gb240, 0, none⟩ = some (.string a0_0) := (blk_cell BK240.out 0).trans rfl; have hcz8_1 : w7.cell? ⟨gb240, 1, none⟩ = some (.slice A0_1 l0_1.length c0_1) := (blk_cell BK240.out 1).trans rfl; have hcz8_2 : w7.cell? ⟨gb240, 2, none⟩ = some (.slice A0_2 l0_2.length c0_2) := (blk_cell BK240.out 2).trans rfl; have hcz8_3 : w7.cell? ⟨gb240, 3, none⟩ = some (.slice A0_3 l0_3.length c0_3) := (blk_cell BK240.out 3).trans rfl; have hfz8_0 := bkf BK240.out 0; have hfz8_1 := bkf BK240.out 1; have hfz8_2 := bkf BK240.out 2; have hfz8_3 := bkf BK240.out 3; have p241 : 0 ≤ (a1 : Int) := of_decide_eq_true (by first | (with_reducible assumption) | assumption); have q241 : a1 < (l0_2.length : Int) := of_decide_eq_true (by first | (with_reducible assumption) | assumption); obtain ⟨ad241, A241_1, c241_1, A241_4, c241_4, e241, hx241_0, hx241_1, hx241_2, hx241_3, hx241_4, hl241_1, hi241_1, hl241_4, hi241_4⟩ := at_T49 HR0_2.out a1 p241 q241; cases e241; replace hx241_0 := (HB.out.cell (blc w _ hx241_0)).trans hx241_0; replace hx241_1 := (HB.out.cell (blc w _ hx241_1)).trans hx241_1; replace hx241_2 := (HB.out.cell (blc w _ hx241_2)).trans hx241_2; replace hx241_3 := (HB.out.cell (blc w _ hx241_3)).trans hx241_3; replace hx241_4 := (HB.out.cell (blc w _ hx241_4)).trans hx241_4; have HR241_1 := amk hi241_1; have HC241_1 := amk hl241_1; clear hi241_1 hl241_1; have HR241_4 := amk hi241_4; have HC241_4 := amk hl241_4; clear hi241_4 hl241_4; replace p241 := eq_true p241; replace q241 := eq_true q241) | ((with_reducible refine gate_dst (N := 5) rfl ?_); refine box_event ?hg (N := 5) ?hd (cs := #[.string (⟨#[]⟩ : ByteArray), .slice none 0 0, .int .u8 0, .int .i64 0, .slice none 0 0]) (t := 49) ?hr ?_; (case hd => rfl); (case hg => rfl); (case hr => first | (go_simp; done) | (go_simp; rfl)); intro gb242 hg w9 hbox hb; have n0_ := amk (blk_below (g := gb240) (o := .cells #[.string a0_0, .slice A0_1 l0_1.length c0_1, .slice (some ad241) l0_2.length c0_2, .slice A0_3 l0_3.length c0_3] 26 (0, 0)) (by (with_reducible repeat (first | refine bkd ?_ _ | refine blk_drew ?_ | refine bka ?_ _)); exact BK240.out) hb); have n1_ := amk (below_step (by repeat (first | (with_reducible first | exact HB.out | apply bal | apply pbd | apply bdr | refine below_set ?_ GE240.out) | exact HB.out)) hb); have n2_ := amk (hbox); have n3_ := amk ((by rw [hg]; exact (below_size (by repeat (first | (with_reducible first | exact HB.out | apply bal | apply pbd | apply bdr | refine below_set ?_ GE240.out) | exact HB.out))) : w.heap.size ≤ gb242)); have n4_ := amk ((by rw [hg]; exact (below_size (by repeat (first | (with_reducible first | exact HB.out | apply bal | apply pbd | apply bdr | refine below_set ?_ GE240.out) | exact HB.out))) : w.heap.size ≤ gb242)); have n5_ := amk ((by rw [hg]; exact Nat.ne_of_lt (blk_lt (g := gb240) (o := .cells #[.string a0_0, .slice A0_1 l0_1.length c0_1, .slice (some ad241) l0_2.length c0_2, .slice A0_3 l0_3.length c0_3] 26 (0, 0)) (by (with_reducible repeat (first | refine bkd ?_ _ | refine blk_drew ?_ | refine bka ?_ _)); exact BK240.out)) : gb240 ≠ gb242)); have n6_ := amk ((by rw [hg]; exact Nat.ne_of_gt (blk_lt (g := gb240) (o := .cells #[.string a0_0, .slice A0_1 l0_1.length c0_1, .slice (some ad241) l0_2.length c0_2, .slice A0_3 l0_3.length c0_3] 26 (0, 0)) (by (with_reducible repeat (first | refine bkd ?_ _ | refine blk_drew ?_ | refine bka ?_ _)); exact BK240.out)) : gb242 ≠ gb240)); clear BK240; clear HB; have BK240 := n0_; have HB := n1_; have BK242 := n2_; have GW242 := n3_; have GE242 := n4_; have NB240_242 := n5_; have NB242_240 := n6_; clear n0_ n1_ n2_ n3_ n4_ n5_ n6_; clear hb hbox hg; have hnb10 := NB242_240.out; have hnc10 := NB240_242.out; have hcz11_0 : w9.cell? ⟨gb242, 0, none⟩ = some (.string (⟨#[]⟩ : ByteArray)) := (blk_cell BK242.out 0).trans rfl; have hcz11_1 : w9.cell? ⟨gb242, 1, none⟩ = some (.slice none 0 0) := (blk_cell BK242.out 1).trans rfl; have hcz11_2 : w9.cell? ⟨gb242, 2, none⟩ = some (.int .u8 0) := (blk_cell BK242.out 2).trans rfl; have hcz11_3 : w9.cell? ⟨gb242, 3, none⟩ = some (.int .i64 0) := (blk_cell BK242.out 3).trans rfl; have hcz11_4 : w9.cell? ⟨gb242, 4, none⟩ = some (.slice none 0 0) := (blk_cell BK242.out 4).trans rfl; have hfz11_0 := bkf BK242.out 0; have hfz11_1 := bkf BK242.out 1; have hfz11_2 := bkf BK242.out 2; have hfz11_3 := bkf BK242.out 3; have hfz11_4 := bkf BK242.out 4) | (go_at_call 40; (with_reducible refine (provisoref02_IsName.calls k ((rd_T49 l0_2 a1).f0) true _ A5.out).mono ?_); rintro e w' ⟨rfl, ⟨nd, rfl⟩⟩; (try first | exact ⟨rfl, _, World.drewN_drewN _ _ _⟩ | exact ⟨rfl, _, Eq.trans (World.drewN_drewN _ _ _) (congrArg (World.drewN _) (Nat.add_assoc _ _ _))⟩)))
        repeat (go_quiet (first | ((with_reducible refine gate_dst (N := 2) rfl ?_); refine box_event ?hg (N := 2) ?hd (cs := #[.string a0_0, .slice A0_1 l0_1.length c0_1, .slice A0_2 l0_2.length c0_2, .slice A0_3 l0_3.length c0_3]) (t := 26) ?hr ?_; (case hd => rfl); (case hg => rfl); (case hr => first | (go_simp; done) | (go_simp; rfl)); intro gb240 hg w7 hbox hb; have n0_ := amk (below_step (by repeat (first | (with_reducible first | exact HB.out | apply bal | apply pbd | apply bdr) | exact HB.out)) hb); have n1_ := amk (hbox); have n2_ := amk ((by rw [hg]; exact (below_size (by repeat (first | (with_reducible first | exact HB.out | apply bal | apply pbd | apply bdr) | exact HB.out))) : w.heap.size ≤ gb240)); have n3_ := amk ((by rw [hg]; exact (below_size (by repeat (first | (with_reducible first | exact HB.out | apply bal | apply pbd | apply bdr) | exact HB.out))) : w.heap.size ≤ gb240)); clear HB; have HB := n0_; have BK240 := n1_; have GW240 := n2_; have GE240 := n3_; clear n0_ n1_ n2_ n3_; clear hb hbox hg; have hcz8_0 : w7.cell? ⟨gb240, 0, none⟩ = some (.string a0_0) := (blk_cell BK240.out 0).trans rfl; have hcz8_1 : w7.cell? ⟨gb240, 1, none⟩ = some (.slice A0_1 l0_1.length c0_1) := (blk_cell BK240.out 1).trans rfl; have hcz8_2 : w7.cell? ⟨gb240, 2, none⟩ = some (.slice A0_2 l0_2.length c0_2) := (blk_cell BK240.out 2).trans rfl; have hcz8_3 : w7.cell? ⟨gb240, 3, none⟩ = some (.slice A0_3 l0_3.length c0_3) := (blk_cell BK240.out 3).trans rfl; have hfz8_0 := bkf BK240.out 0; have hfz8_1 := bkf BK240.out 1; have hfz8_2 := bkf BK240.out 2; have hfz8_3 := bkf BK240.out 3; have p241 : 0 ≤ (a1 : Int) := of_decide_eq_true (by first | (with_reducible assumption) | assumption); have q241 : a1 < (l0_2.length : Int) := of_decide_eq_true (by first | (with_reducible assumption) | assumption); obtain ⟨ad241, A241_1, c241_1, A241_4, c241_4, e241, hx241_0, hx241_1, hx241_2, hx241_3, hx241_4, hl241_1, hi241_1, hl241_4, hi241_4⟩ := at_T49 HR0_2.out a1 p241 q241; cases e241; replace hx241_0 := (HB.out.cell (blc w _ hx241_0)).trans hx241_0; replace hx241_1 := (HB.out.cell (blc w _ hx241_1)).trans hx241_1; replace hx241_2 := (HB.out.cell (blc w _ hx241_2)).trans hx241_2; replace hx241_3 := (HB.out.cell (blc w _ hx241_3)).trans hx241_3; replace hx241_4 := (HB.out.cell (blc w _ hx241_4)).trans hx241_4; have HR241_1 := amk hi241_1; have HC241_1 := amk hl241_1; clear hi241_1 hl241_1; have HR241_4 := amk hi241_4; have HC241_4 := amk hl241_4; clear hi241_4 hl241_4; replace p241 := eq_true p241; replace q241 := eq_true q241) | ((with_reducible refine gate_dst (N := 5) rfl ?_); refine box_event ?hg (N := 5) ?hd (cs := #[.string (⟨#[]⟩ : ByteArray), .slice none 0 0, .int .u8 0, .int .i64 0, .slice none 0 0]) (t := 49) ?hr ?_; (case hd => rfl); (case hg => rfl); (case hr => first | (go_simp; done) | (go_simp; rfl)); intro gb242 hg w9 hbox hb; have n0_ := amk (blk_below (g := gb240) (o := .cells #[.string a0_0, .slice A0_1 l0_1.length c0_1, .slice (some ad241) l0_2.length c0_2, .slice A0_3 l0_3.length c0_3] 26 (0, 0)) (by (with_reducible repeat (first | refine bkd ?_ _ | refine blk_drew ?_ | refine bka ?_ _)); exact BK240.out) hb); have n1_ := amk (below_step (by repeat (first | (with_reducible first | exact HB.out | apply bal | apply pbd | apply bdr | refine below_set ?_ GE240.out) | exact HB.out)) hb); have n2_ := amk (hbox); have n3_ := amk ((by rw [hg]; exact (below_size (by repeat (first | (with_reducible first | exact HB.out | apply bal | apply pbd | apply bdr | refine below_set ?_ GE240.out) | exact HB.out))) : w.heap.size ≤ gb242)); have n4_ := amk ((by rw [hg]; exact (below_size (by repeat (first | (with_reducible first | exact HB.out | apply bal | apply pbd | apply bdr | refine below_set ?_ GE240.out) | exact HB.out))) : w.heap.size ≤ gb242)); have n5_ := amk ((by rw [hg]; exact Nat.ne_of_lt (blk_lt (g := gb240) (o := .cells #[.string a0_0, .slice A0_1 l0_1.length c0_1, .slice (some ad241) l0_2.length c0_2, .slice A0_3 l0_3.length c0_3] 26 (0, 0)) (by (with_reducible repeat (first | refine bkd ?_ _ | refine blk_drew ?_ | refine bka ?_ _)); exact BK240.out)) : gb240 ≠ gb242)); have n6_ := amk ((by rw [hg]; exact Nat.ne_of_gt (blk_lt (g := gb240) (o := .cells #[.string a0_0, .slice A0_1 l0_1.length c0_1, .slice (some ad241) l0_2.length c0_2, .slice A0_3 l0_3.length c0_3] 26 (0, 0)) (by (with_reducible repeat (first | refine bkd ?_ _ | refine blk_drew ?_ | refine bka ?_ _)); exact BK240.out)) : gb242 ≠ gb240)); clear BK240; clear HB; have BK240 := n0_; have HB := n1_; have BK242 := n2_; have GW242 := n3_; have GE242 := n4_; have NB240_242 := n5_; have NB242_240 := n6_; clear n0_ n1_ n2_ n3_ n4_ n5_ n6_; clear hb hbox hg; have hnb10 := NB242_240.out; have hnc10 := NB240_242.out; have hcz11_0 : w9.cell? ⟨gb242, 0, none⟩ = some (.string (⟨#[]⟩ : ByteArray)) := (blk_cell BK242.out 0).trans rfl; have hcz11_1 : w9.cell? ⟨gb242, 1, none⟩ = some (.slice none 0 0) := (blk_cell BK242.out 1).trans rfl; have hcz11_2 : w9.cell? ⟨gb242, 2, none⟩ = some (.int .u8 0) := (blk_cell BK242.out 2).trans rfl; have hcz11_3 : w9.cell? ⟨gb242, 3, none⟩ = some (.int .i64 0) := (blk_cell BK242.out 3).trans rfl; have hcz11_4 : w9.cell? ⟨gb242, 4, none⟩ = some (.slice none 0 0) := (blk_cell BK242.out 4).trans rfl; have hfz11_0 := bkf BK242.out 0; have hfz11_1 := bkf BK242.out 1; have hfz11_2 := bkf BK242.out 2; have hfz11_3 := bkf BK242.out 3; have hfz11_4 := bkf BK242.out 4) | (go_at_call 40; (with_reducible refine (provisoref02_IsName.calls k ((rd_T49 l0_2 a1).f0) true _ A5.out).mono ?_); rintro e w' ⟨rfl, ⟨nd, rfl⟩⟩; (try first | exact ⟨rfl, _, World.drewN_drewN _ _ _⟩ | exact ⟨rfl, _, Eq.trans (World.drewN_drewN _ _ _) (congrArg (World.drewN _) (Nat.add_assoc _ _ _))⟩))); try go_wp2_with (first | ((with_reducible refine gate_dst (N := 2) rfl ?_); refine box_event ?hg (N := 2) ?hd (cs := #[.string a0_0, .slice A0_1 l0_1.length c0_1, .slice A0_2 l0_2.length c0_2, .slice A0_3 l0_3.length c0_3]) (t := 26) ?hr ?_; (case hd => rfl); (case hg => rfl); (case hr => first | (go_simp; done) | (go_simp; rfl)); intro gb240 hg w7 hbox hb; have n0_ := amk (below_step (by repeat (first | (with_reducible first | exact HB.out | apply bal | apply pbd | apply bdr) | exact HB.out)) hb); have n1_ := amk (hbox); have n2_ := amk ((by rw [hg]; exact (below_size (by repeat (first | (with_reducible first | exact HB.out | apply bal | apply pbd | apply bdr) | exact HB.out))) : w.heap.size ≤ gb240)); have n3_ := amk ((by rw [hg]; exact (below_size (by repeat (first | (with_reducible first | exact HB.out | apply bal | apply pbd | apply bdr) | exact HB.out))) : w.heap.size ≤ gb240)); clear HB; have HB := n0_; have BK240 := n1_; have GW240 := n2_; have GE240 := n3_; clear n0_ n1_ n2_ n3_; clear hb hbox hg; have hcz8_0 : w7.cell? ⟨gb240, 0, none⟩ = some (.string a0_0) := (blk_cell BK240.out 0).trans rfl; have hcz8_1 : w7.cell? ⟨gb240, 1, none⟩ = some (.slice A0_1 l0_1.length c0_1) := (blk_cell BK240.out 1).trans rfl; have hcz8_2 : w7.cell? ⟨gb240, 2, none⟩ = some (.slice A0_2 l0_2.length c0_2) := (blk_cell BK240.out 2).trans rfl; have hcz8_3 : w7.cell? ⟨gb240, 3, none⟩ = some (.slice A0_3 l0_3.length c0_3) := (blk_cell BK240.out 3).trans rfl; have hfz8_0 := bkf BK240.out 0; have hfz8_1 := bkf BK240.out 1; have hfz8_2 := bkf BK240.out 2; have hfz8_3 := bkf BK240.out 3; have p241 : 0 ≤ (a1 : Int) := of_decide_eq_true (by first | (with_reducible assumption) | assumption); have q241 : a1 < (l0_2.length : Int) := of_decide_eq_true (by first | (with_reducible assumption) | assumption); obtain ⟨ad241, A241_1, c241_1, A241_4, c241_4, e241, hx241_0, hx241_1, hx241_2, hx241_3, hx241_4, hl241_1, hi241_1, hl241_4, hi241_4⟩ := at_T49 HR0_2.out a1 p241 q241; cases e241; replace hx241_0 := (HB.out.cell (blc w _ hx241_0)).trans hx241_0; replace hx241_1 := (HB.out.cell (blc w _ hx241_1)).trans hx241_1; replace hx241_2 := (HB.out.cell (blc w _ hx241_2)).trans hx241_2; replace hx241_3 := (HB.out.cell (blc w _ hx241_3)).trans hx241_3; replace hx241_4 := (HB.out.cell (blc w _ hx241_4)).trans hx241_4; have HR241_1 := amk hi241_1; have HC241_1 := amk hl241_1; clear hi241_1 hl241_1; have HR241_4 := amk hi241_4; have HC241_4 := amk hl241_4; clear hi241_4 hl241_4; replace p241 := eq_true p241; replace q241 := eq_true q241) | ((with_reducible refine gate_dst (N := 5) rfl ?_); refine box_event ?hg (N := 5) ?hd (cs := #[.string (⟨#[]⟩ : ByteArray), .slice none 0 0, .int .u8 0, .int .i64 0, .slice none 0 0]) (t := 49) ?hr ?_; (case hd => rfl); (case hg => rfl); (case hr => first | (go_simp; done) | (go_simp; rfl)); intro gb242 hg w9 hbox hb; have n0_ := amk (blk_below (g := gb240) (o := .cells #[.string a0_0, .slice A0_1 l0_1.length c0_1, .slice (some ad241) l0_2.length c0_2, .slice A0_3 l0_3.length c0_3] 26 (0, 0)) (by (with_reducible repeat (first | refine bkd ?_ _ | refine blk_drew ?_ | refine bka ?_ _)); exact BK240.out) hb); have n1_ := amk (below_step (by repeat (first | (with_reducible first | exact HB.out | apply bal | apply pbd | apply bdr | refine below_set ?_ GE240.out) | exact HB.out)) hb); have n2_ := amk (hbox); have n3_ := amk ((by rw [hg]; exact (below_size (by repeat (first | (with_reducible first | exact HB.out | apply bal | apply pbd | apply bdr | refine below_set ?_ GE240.out) | exact HB.out))) : w.heap.size ≤ gb242)); have n4_ := amk ((by rw [hg]; exact (below_size (by repeat (first | (with_reducible first | exact HB.out | apply bal | apply pbd | apply bdr | refine below_set ?_ GE240.out) | exact HB.out))) : w.heap.size ≤ gb242)); have n5_ := amk ((by rw [hg]; exact Nat.ne_of_lt (blk_lt (g := gb240) (o := .cells #[.string a0_0, .slice A0_1 l0_1.length c0_1, .slice (some ad241) l0_2.length c0_2, .slice A0_3 l0_3.length c0_3] 26 (0, 0)) (by (with_reducible repeat (first | refine bkd ?_ _ | refine blk_drew ?_ | refine bka ?_ _)); exact BK240.out)) : gb240 ≠ gb242)); have n6_ := amk ((by rw [hg]; exact Nat.ne_of_gt (blk_lt (g := gb240) (o := .cells #[.string a0_0, .slice A0_1 l0_1.length c0_1, .slice (some ad241) l0_2.length c0_2, .slice A0_3 l0_3.length c0_3] 26 (0, 0)) (by (with_reducible repeat (first | refine bkd ?_ _ | refine blk_drew ?_ | refine bka ?_ _)); exact BK240.out)) : gb242 ≠ gb240)); clear BK240; clear HB; have BK240 := n0_; have HB := n1_; have BK242 := n2_; have GW242 := n3_; have GE242 := n4_; have NB240_242 := n5_; have NB242_240 := n6_; clear n0_ n1_ n2_ n3_ n4_ n5_ n6_; clear hb hbox hg; have hnb10 := NB242_240.out; have hnc10 := NB240_242.out; have hcz11_0 : w9.cell? ⟨gb242, 0, none⟩ = some (.string (⟨#[]⟩ : ByteArray)) := (blk_cell BK242.out 0).trans rfl; have hcz11_1 : w9.cell? ⟨gb242, 1, none⟩ = some (.slice none 0 0) := (blk_cell BK242.out 1).trans rfl; have hcz11_2 : w9.cell? ⟨gb242, 2, none⟩ = some (.int .u8 0) := (blk_cell BK242.out 2).trans rfl; have hcz11_3 : w9.cell? ⟨gb242, 3, none⟩ = some (.int .i64 0) := (blk_cell BK242.out 3).trans rfl; have hcz11_4 : w9.cell? ⟨gb242, 4, none⟩ = some (.slice none 0 0) := (blk_cell BK242.out 4).trans rfl; have hfz11_0 := bkf BK242.out 0; have hfz11_1 := bkf BK242.out 1; have hfz11_2 := bkf BK242.out 2; have hfz11_3 := bkf BK242.out 3; have hfz11_4 := bkf BK242.out 4) | (go_at_call 40; (with_reducible refine (provisoref02_IsName.calls k ((rd_T49 l0_2 a1).f0) true _ A5.out).mono ?_); rintro e w' ⟨rfl, ⟨nd, rfl⟩⟩; (try first | exact ⟨rfl, _, World.drewN_drewN _ _ _⟩ | exact ⟨rfl, _, Eq.trans (World.drewN_drewN _ _ _) (congrArg (World.drewN _) (Nat.add_assoc _ _ _))⟩))))
        go_loopg [6] k (fun kq v6 w' => ∃ (x6_1 : Int), v6 = .int .i64 x6_1 ∧ Aside0 (provisoref16_function.l0 kq a1 x6_1 a0_0 l0_1 l0_2 l0_3 ((rd_T49 l0_2 a1).f0) ((rd_T49 l0_2 a1).f1.f0) ((rd_T49 l0_2 a1).f1.f1) ((rd_T49 l0_2 a1).f2) ((rd_T49 l0_2 a1).f3) = some r) ∧ Aside0 (kq ≤ k) ∧ Aside0 (w'.heap[gb240]? = some (.cells #[.string a0_0, (.slice A0_1 l0_1.length c0_1), (.slice (some ad241) l0_2.length c0_2), (.slice A0_3 l0_3.length c0_3)] 26 (0, 0))) ∧ Aside0 (w'.heap[gb242]? = some (.cells #[.string ((rd_T49 l0_2 a1).f0), (.slice A241_1 ((rd_T49 l0_2 a1).f1.f0).length c241_1), .int .u8 ((rd_T49 l0_2 a1).f1.f1), .int .i64 ((rd_T49 l0_2 a1).f2), (.slice A241_4 ((rd_T49 l0_2 a1).f3).length c241_4)] 49 (0, 0))) ∧ Aside0 (Below w.heap.size w w'))
        case atStart => exact ⟨(0), (by first | rfl | (simp; done) | (simp [*]; done)), H', ⟨Nat.le_refl _⟩, ⟨by (with_reducible repeat (first | refine bkd ?_ _ | refine blk_drew ?_ | refine bka ?_ _)); refine blk_far ?_ NB240_242.out _; (with_reducible repeat (first | refine bkd ?_ _ | refine blk_drew ?_ | refine bka ?_ _)); refine blk_far ?_ NB240_242.out _; (with_reducible repeat (first | refine bkd ?_ _ | refine blk_drew ?_ | refine bka ?_ _)); refine blk_far ?_ NB240_242.out _; (with_reducible repeat (first | refine bkd ?_ _ | refine blk_drew ?_ | refine bka ?_ _)); refine blk_far ?_ NB240_242.out _; (with_reducible repeat (first | refine bkd ?_ _ | refine blk_drew ?_ | refine bka ?_ _)); refine blk_far ?_ NB240_242.out _; (with_reducible repeat (first | refine bkd ?_ _ | refine blk_drew ?_ | refine bka ?_ _)); exact BK240.out⟩, ⟨by (with_reducible repeat (first | refine bkd ?_ _ | refine blk_drew ?_ | refine bka ?_ _)); refine blk_put (cs := #[.string ((rd_T49 l0_2 a1).f0), .slice A241_1 ((rd_T49 l0_2 a1).f1.f0).length c241_1, .int .u8 ((rd_T49 l0_2 a1).f1.f1), .int .i64 ((rd_T49 l0_2 a1).f2), .slice none 0 0]) ?_ 4 _ rfl; (with_reducible repeat (first | refine bkd ?_ _ | refine blk_drew ?_ | refine bka ?_ _)); refine blk_put (cs := #[.string ((rd_T49 l0_2 a1).f0), .slice A241_1 ((rd_T49 l0_2 a1).f1.f0).length c241_1, .int .u8 ((rd_T49 l0_2 a1).f1.f1), .int .i64 0, .slice none 0 0]) ?_ 3 _ rfl; (with_reducible repeat (first | refine bkd ?_ _ | refine blk_drew ?_ | refine bka ?_ _)); refine blk_put (cs := #[.string ((rd_T49 l0_2 a1).f0), .slice A241_1 ((rd_T49 l0_2 a1).f1.f0).length c241_1, .int .u8 0, .int .i64 0, .slice none 0 0]) ?_ 2 _ rfl; (with_reducible repeat (first | refine bkd ?_ _ | refine blk_drew ?_ | refine bka ?_ _)); refine blk_put (cs := #[.string ((rd_T49 l0_2 a1).f0), .slice none 0 0, .int .u8 0, .int .i64 0, .slice none 0 0]) ?_ 1 _ rfl; (with_reducible repeat (first | refine bkd ?_ _ | refine blk_drew ?_ | refine bka ?_ _)); refine blk_put (cs := #[.string (⟨#[]⟩ : ByteArray), .slice none 0 0, .int .u8 0, .int .i64 0, .slice none 0 0]) ?_ 0 _ rfl; (with_reducible repeat (first | refine bkd ?_ _ | refine blk_drew ?_ | refine bka ?_ _)); exact BK242.out⟩, ⟨by repeat (first | (with_reducible first | exact HB.out | apply bal | apply pbd | apply bdr | refine below_set ?_ GE240.out | refine below_set ?_ GE242.out) | exact HB.out)⟩⟩
        case round =>
          clear H'
          try clear c1
          try clear c2
          try clear p2
          try clear q2
          try clear hx2
          try clear c3
          try clear c3b0
          try clear c4
          try clear c4b0
          try clear c6
          try clear c10
          try clear hcz11_0
          try clear hcz11_1
          try clear hcz11_2
          try clear hcz11_3
          try clear hcz11_4
          try clear hcz8_0
          try clear hcz8_1
          try clear hcz8_2
          try clear hcz8_3
          try clear hfz11_0
          try clear hfz11_1
          try clear hfz11_2
          try clear hfz11_3
          try clear hfz11_4
          try clear hfz8_0
          try clear hfz8_1
          try clear hfz8_2
          try clear hfz8_3
          try clear hx241_0
          try clear hx241_1
          try clear hx241_2
          try clear hx241_3
          try clear hx241_4
          try clear p241
          try clear q241
          obtain ⟨x6_1, rfl, HA, HK1, BK240, BK242, HB⟩ := hrel
          cases gk with
          | zero => exact absurd HA.out (by simp [provisoref16_function.l0])
          | succ k1 =>
            have H := HA.out
            clear HA
            simp only [provisoref16_function.l0] at H
            by_cases c12 : x6_1 < a1
            · rw [if_pos c12] at H
              have c12b0 : decide (x6_1 < a1) = true := decide_eq_true c12
              clear c12
              by_cases c13 : 0 ≤ x6_1
              · rw [if_pos c13] at H
                have c13b0 : decide (0 ≤ x6_1) = true := decide_eq_true c13
                clear c13
                by_cases c14 : x6_1 < (l0_2.length : Int)
                · rw [if_pos c14] at H
                  have c14b0 : decide (x6_1 < (l0_2.length : Int)) = true := decide_eq_true c14
                  clear c14
                  by_cases c15 : ((rd_T49 l0_2 x6_1).f0).toList = ((rd_T49 l0_2 a1).f0).toList
                  · rw [if_pos c15] at H
                    have c15b0 : (((rd_T49 l0_2 x6_1).f0).toList == ((rd_T49 l0_2 a1).f0).toList) = true := beq_iff_eq.mpr c15
                    have c15b1 : (((rd_T49 l0_2 x6_1).f0).toList != ((rd_T49 l0_2 a1).f0).toList) = false := bne_eq_false_iff_eq.mpr c15
                    clear c15
                    obtain rfl := Option.some.inj H
                    have hnb16 := NB240_242.out
                    have hnc16 := NB242_240.out
                    have hcz17_0 : wr.cell? ⟨gb240, 0, none⟩ = some (.string a0_0) := (blk_cell BK240.out 0).trans rfl
                    have hcz17_1 : wr.cell? ⟨gb240, 1, none⟩ = some (.slice A0_1 l0_1.length c0_1) := (blk_cell BK240.out 1).trans rfl
                    have hcz17_2 : wr.cell? ⟨gb240, 2, none⟩ = some (.slice (some ad241) l0_2.length c0_2) := (blk_cell BK240.out 2).trans rfl
                    have hcz17_3 : wr.cell? ⟨gb240, 3, none⟩ = some (.slice A0_3 l0_3.length c0_3) := (blk_cell BK240.out 3).trans rfl
                    have hfz17_0 := bkf BK240.out 0
                    have hfz17_1 := bkf BK240.out 1
                    have hfz17_2 := bkf BK240.out 2
                    have hfz17_3 := bkf BK240.out 3
                    have p244 : 0 ≤ (x6_1 : Int) := of_decide_eq_true (by first | (with_reducible assumption) | assumption)
                    have q244 : x6_1 < (l0_2.length : Int) := of_decide_eq_true (by first | (with_reducible assumption) | assumption)
                    obtain ⟨ad244, A244_1, c244_1, A244_4, c244_4, e244, hx244_0, hx244_1, hx244_2, hx244_3, hx244_4, hl244_1, hi244_1, hl244_4, hi244_4⟩ := at_T49 HR0_2.out x6_1 p244 q244
                    obtain rfl : ad241 = ad244 := (by injection e244)
                    replace hx244_0 := (HB.out.cell (blc w _ hx244_0)).trans hx244_0
                    replace hx244_1 := (HB.out.cell (blc w _ hx244_1)).trans hx244_1
                    replace hx244_2 := (HB.out.cell (blc w _ hx244_2)).trans hx244_2
                    replace hx244_3 := (HB.out.cell (blc w _ hx244_3)).trans hx244_3
                    replace hx244_4 := (HB.out.cell (blc w _ hx244_4)).trans hx244_4
                    have HR244_1 := amk hi244_1
                    have HC244_1 := amk hl244_1
                    clear hi244_1 hl244_1
                    have HR244_4 := amk hi244_4
                    have HC244_4 := amk hl244_4
                    clear hi244_4 hl244_4
                    replace p244 := eq_true p244
                    replace q244 := eq_true q244
                    have hcz18_0 : wr.cell? ⟨gb242, 0, none⟩ = some (.string ((rd_T49 l0_2 a1).f0)) := (blk_cell BK242.out 0).trans rfl
                    have hcz18_1 : wr.cell? ⟨gb242, 1, none⟩ = some (.slice A241_1 ((rd_T49 l0_2 a1).f1.f0).length c241_1) := (blk_cell BK242.out 1).trans rfl
                    have hcz18_2 : wr.cell? ⟨gb242, 2, none⟩ = some (.int .u8 ((rd_T49 l0_2 a1).f1.f1)) := (blk_cell BK242.out 2).trans rfl
                    have hcz18_3 : wr.cell? ⟨gb242, 3, none⟩ = some (.int .i64 ((rd_T49 l0_2 a1).f2)) := (blk_cell BK242.out 3).trans rfl
                    have hcz18_4 : wr.cell? ⟨gb242, 4, none⟩ = some (.slice A241_4 ((rd_T49 l0_2 a1).f3).length c241_4) := (blk_cell BK242.out 4).trans rfl
                    have hfz18_0 := bkf BK242.out 0
                    have hfz18_1 := bkf BK242.out 1
                    have hfz18_2 := bkf BK242.out 2
                    have hfz18_3 := bkf BK242.out 3
                    have hfz18_4 := bkf BK242.out 4
                    go_wp2
                    repeat (go_quiet (fail); try go_wp2)
                    go_ret
                    exact ⟨by first | rfl | (simp [errW_none, errW_some] <;> rfl) | (simp [*, errW_none, errW_some] <;> rfl), by repeat (first | (with_reducible first | exact HB.out | apply bal | apply pbd | apply bdr | refine below_set ?_ GE240.out | refine below_set ?_ GE242.out) | exact HB.out)⟩
                  · rw [if_neg c15] at H
                    have c15b0 : (((rd_T49 l0_2 x6_1).f0).toList == ((rd_T49 l0_2 a1).f0).toList) = false := beq_eq_false_iff_ne.mpr c15
                    have c15b1 : (((rd_T49 l0_2 x6_1).f0).toList != ((rd_T49 l0_2 a1).f0).toList) = true := bne_iff_ne.mpr c15
                    have H' := amk H
                    clear H
                    have hnb19 := NB240_242.out
                    have hnc19 := NB242_240.out
                    have hcz20_0 : wr.cell? ⟨gb240, 0, none⟩ = some (.string a0_0) := (blk_cell BK240.out 0).trans rfl
                    have hcz20_1 : wr.cell? ⟨gb240, 1, none⟩ = some (.slice A0_1 l0_1.length c0_1) := (blk_cell BK240.out 1).trans rfl
                    have hcz20_2 : wr.cell? ⟨gb240, 2, none⟩ = some (.slice (some ad241) l0_2.length c0_2) := (blk_cell BK240.out 2).trans rfl
                    have hcz20_3 : wr.cell? ⟨gb240, 3, none⟩ = some (.slice A0_3 l0_3.length c0_3) := (blk_cell BK240.out 3).trans rfl
                    have hfz20_0 := bkf BK240.out 0
                    have hfz20_1 := bkf BK240.out 1
                    have hfz20_2 := bkf BK240.out 2
                    have hfz20_3 := bkf BK240.out 3
                    have p244 : 0 ≤ (x6_1 : Int) := of_decide_eq_true (by first | (with_reducible assumption) | assumption)
                    have q244 : x6_1 < (l0_2.length : Int) := of_decide_eq_true (by first | (with_reducible assumption) | assumption)
                    obtain ⟨ad244, A244_1, c244_1, A244_4, c244_4, e244, hx244_0, hx244_1, hx244_2, hx244_3, hx244_4, hl244_1, hi244_1, hl244_4, hi244_4⟩ := at_T49 HR0_2.out x6_1 p244 q244
                    obtain rfl : ad241 = ad244 := (by injection e244)
                    replace hx244_0 := (HB.out.cell (blc w _ hx244_0)).trans hx244_0
                    replace hx244_1 := (HB.out.cell (blc w _ hx244_1)).trans hx244_1
                    replace hx244_2 := (HB.out.cell (blc w _ hx244_2)).trans hx244_2
                    replace hx244_3 := (HB.out.cell (blc w _ hx244_3)).trans hx244_3
                    replace hx244_4 := (HB.out.cell (blc w _ hx244_4)).trans hx244_4
                    have HR244_1 := amk hi244_1
                    have HC244_1 := amk hl244_1
                    clear hi244_1 hl244_1
                    have HR244_4 := amk hi244_4
                    have HC244_4 := amk hl244_4
                    clear hi244_4 hl244_4
                    replace p244 := eq_true p244
                    replace q244 := eq_true q244
                    have hcz21_0 : wr.cell? ⟨gb242, 0, none⟩ = some (.string ((rd_T49 l0_2 a1).f0)) := (blk_cell BK242.out 0).trans rfl
                    have hcz21_1 : wr.cell? ⟨gb242, 1, none⟩ = some (.slice A241_1 ((rd_T49 l0_2 a1).f1.f0).length c241_1) := (blk_cell BK242.out 1).trans rfl
                    have hcz21_2 : wr.cell? ⟨gb242, 2, none⟩ = some (.int .u8 ((rd_T49 l0_2 a1).f1.f1)) := (blk_cell BK242.out 2).trans rfl
                    have hcz21_3 : wr.cell? ⟨gb242, 3, none⟩ = some (.int .i64 ((rd_T49 l0_2 a1).f2)) := (blk_cell BK242.out 3).trans rfl
                    have hcz21_4 : wr.cell? ⟨gb242, 4, none⟩ = some (.slice A241_4 ((rd_T49 l0_2 a1).f3).length c241_4) := (blk_cell BK242.out 4).trans rfl
                    have hfz21_0 := bkf BK242.out 0
                    have hfz21_1 := bkf BK242.out 1
                    have hfz21_2 := bkf BK242.out 2
                    have hfz21_3 := bkf BK242.out 3
                    have hfz21_4 := bkf BK242.out 4
                    go_wp2
                    repeat (go_quiet (fail); try go_wp2)
                    go_roundg k1
                    case measure => have := HK1.out; omega
                    case rel => exact ⟨(wrap64 (x6_1 + 1)), (by first | rfl | (simp; done) | (simp [*]; done)), H', ⟨by have := HK1.out; omega⟩, ⟨by (with_reducible repeat (first | refine bkd ?_ _ | refine blk_drew ?_ | refine bka ?_ _)); exact BK240.out⟩, ⟨by (with_reducible repeat (first | refine bkd ?_ _ | refine blk_drew ?_ | refine bka ?_ _)); exact BK242.out⟩, ⟨by repeat (first | (with_reducible first | exact HB.out | apply bal | apply pbd | apply bdr | refine below_set ?_ GE240.out | refine below_set ?_ GE242.out) | exact HB.out)⟩⟩
                · rw [if_neg c14] at H
                  exact absurd H (by simp)
              · rw [if_neg c13] at H
                exact absurd H (by simp)
            · rw [if_neg c12] at H
              have c12b0 : decide (x6_1 < a1) = false := decide_eq_false c12
              clear c12
              by_cases c22 : (((rd_T49 l0_2 a1).f1.f0).length : Int) > 8
              · rw [if_pos c22] at H
                have c22b0 : decide (8 < (((rd_T49 l0_2 a1).f1.f0).length : Int)) = true := decide_eq_true c22
                have c22b1 : decide (8 < ((rd_T49 l0_2 a1).f1.f0).length) = true := decide_eq_true (by omega)
                clear c22
                obtain rfl := Option.some.inj H
                have hnb23 := NB242_240.out
                have hnc23 := NB240_242.out
                have hcz24_0 : wr.cell? ⟨gb242, 0, none⟩ = some (.string ((rd_T49 l0_2 a1).f0)) := (blk_cell BK242.out 0).trans rfl
                have hcz24_1 : wr.cell? ⟨gb242, 1, none⟩ = some (.slice A241_1 ((rd_T49 l0_2 a1).f1.f0).length c241_1) := (blk_cell BK242.out 1).trans rfl
                have hcz24_2 : wr.cell? ⟨gb242, 2, none⟩ = some (.int .u8 ((rd_T49 l0_2 a1).f1.f1)) := (blk_cell BK242.out 2).trans rfl
                have hcz24_3 : wr.cell? ⟨gb242, 3, none⟩ = some (.int .i64 ((rd_T49 l0_2 a1).f2)) := (blk_cell BK242.out 3).trans rfl
                have hcz24_4 : wr.cell? ⟨gb242, 4, none⟩ = some (.slice A241_4 ((rd_T49 l0_2 a1).f3).length c241_4) := (blk_cell BK242.out 4).trans rfl
                have hfz24_0 := bkf BK242.out 0
                have hfz24_1 := bkf BK242.out 1
                have hfz24_2 := bkf BK242.out 2
                have hfz24_3 := bkf BK242.out 3
                have hfz24_4 := bkf BK242.out 4
                go_wp2
                repeat (go_quiet (fail); try go_wp2)
                go_ret
                exact ⟨by first | rfl | (simp [errW_none, errW_some] <;> rfl) | (simp [*, errW_none, errW_some] <;> rfl), by repeat (first | (with_reducible first | exact HB.out | apply bal | apply pbd | apply bdr | refine below_set ?_ GE240.out | refine below_set ?_ GE242.out) | exact HB.out)⟩
              · rw [if_neg c22] at H
                have c22b0 : decide (8 < (((rd_T49 l0_2 a1).f1.f0).length : Int)) = false := decide_eq_false c22
                have c22b1 : decide (8 < ((rd_T49 l0_2 a1).f1.f0).length) = false := decide_eq_false (by omega)
                clear c22
                replace H := Option.bind_eq_some_iff.mp H
                obtain ⟨t245, A250, H⟩ := H
                replace H : (if t245 = true then (if ((rd_T49 l0_2 a1).f2) < (((rd_T49 l0_2 a1).f1.f0).length : Int) then (provisoref16_function.j1 k1 true ((rd_T49 l0_2 a1).f0) ((rd_T49 l0_2 a1).f1.f0) ((rd_T49 l0_2 a1).f1.f1) ((rd_T49 l0_2 a1).f2) ((rd_T49 l0_2 a1).f3)) else (provisoref16_function.j1 k1 (decide (((rd_T49 l0_2 a1).f2) > 16)) ((rd_T49 l0_2 a1).f0) ((rd_T49 l0_2 a1).f1.f0) ((rd_T49 l0_2 a1).f1.f1) ((rd_T49 l0_2 a1).f2) ((rd_T49 l0_2 a1).f3))) else (some 22)) = some r := H
                have A25 := amk A250
                clear A250
                by_cases c26 : t245 = true
                · subst c26
                  have H1 : (if ((rd_T49 l0_2 a1).f2) < (((rd_T49 l0_2 a1).f1.f0).length : Int) then (provisoref16_function.j1 k1 true ((rd_T49 l0_2 a1).f0) ((rd_T49 l0_2 a1).f1.f0) ((rd_T49 l0_2 a1).f1.f1) ((rd_T49 l0_2 a1).f2) ((rd_T49 l0_2 a1).f3)) else (provisoref16_function.j1 k1 (decide (((rd_T49 l0_2 a1).f2) > 16)) ((rd_T49 l0_2 a1).f0) ((rd_T49 l0_2 a1).f1.f0) ((rd_T49 l0_2 a1).f1.f1) ((rd_T49 l0_2 a1).f2) ((rd_T49 l0_2 a1).f3))) = some r := by rw [if_pos rfl] at H; exact H
                  clear H
                  have H := H1
                  clear H1
                  have HC27 := amk H
                  clear H
                  have hnb28 := NB242_240.out
                  have hnc28 := NB240_242.out
                  have hcz29_0 : wr.cell? ⟨gb242, 0, none⟩ = some (.string ((rd_T49 l0_2 a1).f0)) := (blk_cell BK242.out 0).trans rfl
                  have hcz29_1 : wr.cell? ⟨gb242, 1, none⟩ = some (.slice A241_1 ((rd_T49 l0_2 a1).f1.f0).length c241_1) := (blk_cell BK242.out 1).trans rfl
                  have hcz29_2 : wr.cell? ⟨gb242, 2, none⟩ = some (.int .u8 ((rd_T49 l0_2 a1).f1.f1)) := (blk_cell BK242.out 2).trans rfl
                  have hcz29_3 : wr.cell? ⟨gb242, 3, none⟩ = some (.int .i64 ((rd_T49 l0_2 a1).f2)) := (blk_cell BK242.out 3).trans rfl
                  have hcz29_4 : wr.cell? ⟨gb242, 4, none⟩ = some (.slice A241_4 ((rd_T49 l0_2 a1).f3).length c241_4) := (blk_cell BK242.out 4).trans rfl
                  have hfz29_0 := bkf BK242.out 0
                  have hfz29_1 := bkf BK242.out 1
                  have hfz29_2 := bkf BK242.out 2
                  have hfz29_3 := bkf BK242.out 3
                  have hfz29_4 := bkf BK242.out 4
                  have hcz30_0 : wr.cell? ⟨gb240, 0, none⟩ = some (.string a0_0) := (blk_cell BK240.out 0).trans rfl
                  have hcz30_1 : wr.cell? ⟨gb240, 1, none⟩ = some (.slice A0_1 l0_1.length c0_1) := (blk_cell BK240.out 1).trans rfl
                  have hcz30_2 : wr.cell? ⟨gb240, 2, none⟩ = some (.slice (some ad241) l0_2.length c0_2) := (blk_cell BK240.out 2).trans rfl
                  have hcz30_3 : wr.cell? ⟨gb240, 3, none⟩ = some (.slice A0_3 l0_3.length c0_3) := (blk_cell BK240.out 3).trans rfl
                  have hfz30_0 := bkf BK240.out 0
                  have hfz30_1 := bkf BK240.out 1
                  have hfz30_2 := bkf BK240.out 2
                  have hfz30_3 := bkf BK240.out 3
                  go_upto_region 13 with (first | (go_at_call 75; (with_reducible refine (provisoref02_SigMay.calls k1 _ _ l0_1 _ _ ((rd_T49 l0_2 a1).f1.f0) ((rd_T49 l0_2 a1).f1.f1) true _ ?side1 ?side2 ?side3 ?side4 A25.out).mono ?_); (case side1 => repeat (first | exact (Kd.C_below HR0_1.out HB.out) | (with_reducible refine Kd.C_alloc ?_ _) | (with_reducible refine Kd.C_drewN ?_ _) | (with_reducible refine Kd.C_drew ?_))); (case side2 => exact HC0_1.out); (case side3 => repeat (first | exact (Kd.C_below HR241_1.out HB.out) | (with_reducible refine Kd.C_alloc ?_ _) | (with_reducible refine Kd.C_drewN ?_ _) | (with_reducible refine Kd.C_drew ?_))); (case side4 => exact HC241_1.out); rintro e w31 ⟨rfl, hb⟩; have n0_ := amk (blk_below (g := gb240) (o := .cells #[.string a0_0, .slice A0_1 l0_1.length c0_1, .slice (some ad241) l0_2.length c0_2, .slice A0_3 l0_3.length c0_3] 26 (0, 0)) (by (with_reducible repeat (first | refine bkd ?_ _ | refine blk_drew ?_ | refine bka ?_ _)); exact BK240.out) hb); have n1_ := amk (blk_below (g := gb242) (o := .cells #[.string ((rd_T49 l0_2 a1).f0), .slice A241_1 ((rd_T49 l0_2 a1).f1.f0).length c241_1, .int .u8 ((rd_T49 l0_2 a1).f1.f1), .int .i64 ((rd_T49 l0_2 a1).f2), .slice A241_4 ((rd_T49 l0_2 a1).f3).length c241_4] 49 (0, 0)) (by (with_reducible repeat (first | refine bkd ?_ _ | refine blk_drew ?_ | refine bka ?_ _)); exact BK242.out) hb); have n2_ := amk (below_step (by repeat (first | (with_reducible first | exact HB.out | apply bal | apply pbd | apply bdr | refine below_set ?_ GE240.out | refine below_set ?_ GE242.out) | exact HB.out)) hb); clear BK240; clear BK242; clear HB; have BK240 := n0_; have BK242 := n1_; have HB := n2_; clear n0_ n1_ n2_; (try clear hb); (try clear hb2); (try clear hk); (try clear hi)))
                  repeat (go_quiet (first | (go_at_call 75; (with_reducible refine (provisoref02_SigMay.calls k1 _ _ l0_1 _ _ ((rd_T49 l0_2 a1).f1.f0) ((rd_T49 l0_2 a1).f1.f1) true _ ?side1 ?side2 ?side3 ?side4 A25.out).mono ?_); (case side1 => repeat (first | exact (Kd.C_below HR0_1.out HB.out) | (with_reducible refine Kd.C_alloc ?_ _) | (with_reducible refine Kd.C_drewN ?_ _) | (with_reducible refine Kd.C_drew ?_))); (case side2 => exact HC0_1.out); (case side3 => repeat (first | exact (Kd.C_below HR241_1.out HB.out) | (with_reducible refine Kd.C_alloc ?_ _) | (with_reducible refine Kd.C_drewN ?_ _) | (with_reducible refine Kd.C_drew ?_))); (case side4 => exact HC241_1.out); rintro e w31 ⟨rfl, hb⟩; have n0_ := amk (blk_below (g := gb240) (o := .cells #[.string a0_0, .slice A0_1 l0_1.length c0_1, .slice (some ad241) l0_2.length c0_2, .slice A0_3 l0_3.length c0_3] 26 (0, 0)) (by (with_reducible repeat (first | refine bkd ?_ _ | refine blk_drew ?_ | refine bka ?_ _)); exact BK240.out) hb); have n1_ := amk (blk_below (g := gb242) (o := .cells #[.string ((rd_T49 l0_2 a1).f0), .slice A241_1 ((rd_T49 l0_2 a1).f1.f0).length c241_1, .int .u8 ((rd_T49 l0_2 a1).f1.f1), .int .i64 ((rd_T49 l0_2 a1).f2), .slice A241_4 ((rd_T49 l0_2 a1).f3).length c241_4] 49 (0, 0)) (by (with_reducible repeat (first | refine bkd ?_ _ | refine blk_drew ?_ | refine bka ?_ _)); exact BK242.out) hb); have n2_ := amk (below_step (by repeat (first | (with_reducible first | exact HB.out | apply bal | apply pbd | apply bdr | refine below_set ?_ GE240.out | refine below_set ?_ GE242.out) | exact HB.out)) hb); clear BK240; clear BK242; clear HB; have BK240 := n0_; have BK242 := n1_; have HB := n2_; clear n0_ n1_ n2_; (try clear hb); (try clear hb2); (try clear hk); (try clear hi))); go_upto_region 13 with (first | (go_at_call 75; (with_reducible refine (provisoref02_SigMay.calls k1 _ _ l0_1 _ _ ((rd_T49 l0_2 a1).f1.f0) ((rd_T49 l0_2 a1).f1.f1) true _ ?side1 ?side2 ?side3 ?side4 A25.out).mono ?_); (case side1 => repeat (first | exact (Kd.C_below HR0_1.out HB.out) | (with_reducible refine Kd.C_alloc ?_ _) | (with_reducible refine Kd.C_drewN ?_ _) | (with_reducible refine Kd.C_drew ?_))); (case side2 => exact HC0_1.out); (case side3 => repeat (first | exact (Kd.C_below HR241_1.out HB.out) | (with_reducible refine Kd.C_alloc ?_ _) | (with_reducible refine Kd.C_drewN ?_ _) | (with_reducible refine Kd.C_drew ?_))); (case side4 => exact HC241_1.out); rintro e w31 ⟨rfl, hb⟩; have n0_ := amk (blk_below (g := gb240) (o := .cells #[.string a0_0, .slice A0_1 l0_1.length c0_1, .slice (some ad241) l0_2.length c0_2, .slice A0_3 l0_3.length c0_3] 26 (0, 0)) (by (with_reducible repeat (first | refine bkd ?_ _ | refine blk_drew ?_ | refine bka ?_ _)); exact BK240.out) hb); have n1_ := amk (blk_below (g := gb242) (o := .cells #[.string ((rd_T49 l0_2 a1).f0), .slice A241_1 ((rd_T49 l0_2 a1).f1.f0).length c241_1, .int .u8 ((rd_T49 l0_2 a1).f1.f1), .int .i64 ((rd_T49 l0_2 a1).f2), .slice A241_4 ((rd_T49 l0_2 a1).f3).length c241_4] 49 (0, 0)) (by (with_reducible repeat (first | refine bkd ?_ _ | refine blk_drew ?_ | refine bka ?_ _)); exact BK242.out) hb); have n2_ := amk (below_step (by repeat (first | (with_reducible first | exact HB.out | apply bal | apply pbd | apply bdr | refine below_set ?_ GE240.out | refine below_set ?_ GE242.out) | exact HB.out)) hb); clear BK240; clear BK242; clear HB; have BK240 := n0_; have BK242 := n1_; have HB := n2_; clear n0_ n1_ n2_; (try clear hb); (try clear hb2); (try clear hk); (try clear hi))))
                  (try simp only [Act.put, sia, scz, scs])
                  go_cut [52] (fun v52 wc => ∃ (kq : Nat) (x52_26 : Bool), v52 = .bool x52_26 ∧ Aside0 (provisoref16_function.j1 kq x52_26 ((rd_T49 l0_2 a1).f0) ((rd_T49 l0_2 a1).f1.f0) ((rd_T49 l0_2 a1).f1.f1) ((rd_T49 l0_2 a1).f2) ((rd_T49 l0_2 a1).f3) = some r) ∧ Aside0 (kq ≤ k1) ∧ Aside0 (wc.heap[gb240]? = some (.cells #[.string a0_0, (.slice A0_1 l0_1.length c0_1), (.slice (some ad241) l0_2.length c0_2), (.slice A0_3 l0_3.length c0_3)] 26 (0, 0))) ∧ Aside0 (wc.heap[gb242]? = some (.cells #[.string ((rd_T49 l0_2 a1).f0), (.slice A241_1 ((rd_T49 l0_2 a1).f1.f0).length c241_1), .int .u8 ((rd_T49 l0_2 a1).f1.f1), .int .i64 ((rd_T49 l0_2 a1).f2), (.slice A241_4 ((rd_T49 l0_2 a1).f3).length c241_4)] 49 (0, 0))) ∧ Aside0 (Below w.heap.size w wc))
                  case first =>
                    have H := HC27.out
                    clear HC27
                    by_cases c32 : ((rd_T49 l0_2 a1).f2) < (((rd_T49 l0_2 a1).f1.f0).length : Int)
                    · rw [if_pos c32] at H
                      have c32b0 : decide (((rd_T49 l0_2 a1).f2) < (((rd_T49 l0_2 a1).f1.f0).length : Int)) = true := decide_eq_true c32
                      clear c32
                      (first | rw [c32b0] | (simp only [i64_w, i32_w]; rw [c32b0]) | skip)
                      have H' := amk H
                      clear H
                      have hnb33 := NB242_240.out
                      have hnc33 := NB240_242.out
                      have hcz34_0 : w31.cell? ⟨gb242, 0, none⟩ = some (.string ((rd_T49 l0_2 a1).f0)) := (blk_cell BK242.out 0).trans rfl
                      have hcz34_1 : w31.cell? ⟨gb242, 1, none⟩ = some (.slice A241_1 ((rd_T49 l0_2 a1).f1.f0).length c241_1) := (blk_cell BK242.out 1).trans rfl
                      have hcz34_2 : w31.cell? ⟨gb242, 2, none⟩ = some (.int .u8 ((rd_T49 l0_2 a1).f1.f1)) := (blk_cell BK242.out 2).trans rfl
                      have hcz34_3 : w31.cell? ⟨gb242, 3, none⟩ = some (.int .i64 ((rd_T49 l0_2 a1).f2)) := (blk_cell BK242.out 3).trans rfl
                      have hcz34_4 : w31.cell? ⟨gb242, 4, none⟩ = some (.slice A241_4 ((rd_T49 l0_2 a1).f3).length c241_4) := (blk_cell BK242.out 4).trans rfl
                      have hfz34_0 := bkf BK242.out 0
                      have hfz34_1 := bkf BK242.out 1
                      have hfz34_2 := bkf BK242.out 2
                      have hfz34_3 := bkf BK242.out 3
                      have hfz34_4 := bkf BK242.out 4
                      go_wp2
                      repeat (go_quiet (fail); try go_wp2)
                      go_meet
                      case rel => exact ⟨_, (true), (by first | rfl | (simp; done) | (simp [*]; done)), H', ⟨by have := HK1.out; first | omega | exact Nat.le_refl _⟩, ⟨by (with_reducible repeat (first | refine bkd ?_ _ | refine blk_drew ?_ | refine bka ?_ _)); exact BK240.out⟩, ⟨by (with_reducible repeat (first | refine bkd ?_ _ | refine blk_drew ?_ | refine bka ?_ _)); exact BK242.out⟩, ⟨by repeat (first | (with_reducible first | exact HB.out | apply bal | apply pbd | apply bdr | refine below_set ?_ GE240.out | refine below_set ?_ GE242.out) | exact HB.out)⟩⟩
                    · rw [if_neg c32] at H
                      have c32b0 : decide (((rd_T49 l0_2 a1).f2) < (((rd_T49 l0_2 a1).f1.f0).length : Int)) = false := decide_eq_false c32
                      clear c32
                      (first | rw [c32b0] | (simp only [i64_w, i32_w]; rw [c32b0]) | skip)
                      have H' := amk H
                      clear H
                      have hnb35 := NB242_240.out
                      have hnc35 := NB240_242.out
                      have hcz36_0 : w31.cell? ⟨gb242, 0, none⟩ = some (.string ((rd_T49 l0_2 a1).f0)) := (blk_cell BK242.out 0).trans rfl
                      have hcz36_1 : w31.cell? ⟨gb242, 1, none⟩ = some (.slice A241_1 ((rd_T49 l0_2 a1).f1.f0).length c241_1) := (blk_cell BK242.out 1).trans rfl
                      have hcz36_2 : w31.cell? ⟨gb242, 2, none⟩ = some (.int .u8 ((rd_T49 l0_2 a1).f1.f1)) := (blk_cell BK242.out 2).trans rfl
                      have hcz36_3 : w31.cell? ⟨gb242, 3, none⟩ = some (.int .i64 ((rd_T49 l0_2 a1).f2)) := (blk_cell BK242.out 3).trans rfl
                      have hcz36_4 : w31.cell? ⟨gb242, 4, none⟩ = some (.slice A241_4 ((rd_T49 l0_2 a1).f3).length c241_4) := (blk_cell BK242.out 4).trans rfl
                      have hfz36_0 := bkf BK242.out 0
                      have hfz36_1 := bkf BK242.out 1
                      have hfz36_2 := bkf BK242.out 2
                      have hfz36_3 := bkf BK242.out 3
                      have hfz36_4 := bkf BK242.out 4
                      go_wp2
                      repeat (go_quiet (fail); try go_wp2)
                      go_meet
                      case rel => exact ⟨_, (decide (((rd_T49 l0_2 a1).f2) > 16)), (by first | rfl | (simp; done) | (simp [*]; done)), H', ⟨by have := HK1.out; first | omega | exact Nat.le_refl _⟩, ⟨by (with_reducible repeat (first | refine bkd ?_ _ | refine blk_drew ?_ | refine bka ?_ _)); exact BK240.out⟩, ⟨by (with_reducible repeat (first | refine bkd ?_ _ | refine blk_drew ?_ | refine bka ?_ _)); exact BK242.out⟩, ⟨by repeat (first | (with_reducible first | exact HB.out | apply bal | apply pbd | apply bdr | refine below_set ?_ GE240.out | refine below_set ?_ GE242.out) | exact HB.out)⟩⟩
                  case rest =>
                    clear HC27
                    try clear c1
                    try clear c2
                    try clear p2
                    try clear q2
                    try clear hx2
                    try clear c3
                    try clear c3b0
                    try clear c4
                    try clear c4b0
                    try clear c6
                    try clear p6
                    try clear c10
                    try clear c12
                    try clear c12b0
                    try clear c13
                    try clear c13b0
                    try clear c14
                    try clear c14b0
                    try clear c15
                    try clear c15b0
                    try clear c15b1
                    try clear c16
                    try clear c19
                    try clear c22
                    try clear c22b0
                    try clear c22b1
                    try clear c23
                    try clear c24
                    try clear p24
                    try clear q24
                    try clear hx24
                    try clear c26
                    try clear c28
                    try clear c32
                    try clear c32b0
                    try clear c33
                    try clear c35
                    try clear hcz11_0
                    try clear hcz11_1
                    try clear hcz11_2
                    try clear hcz11_3
                    try clear hcz11_4
                    try clear hcz17_0
                    try clear hcz17_1
                    try clear hcz17_2
                    try clear hcz17_3
                    try clear hcz18_0
                    try clear hcz18_1
                    try clear hcz18_2
                    try clear hcz18_3
                    try clear hcz18_4
                    try clear hcz20_0
                    try clear hcz20_1
                    try clear hcz20_2
                    try clear hcz20_3
                    try clear hcz21_0
                    try clear hcz21_1
                    try clear hcz21_2
                    try clear hcz21_3
                    try clear hcz21_4
                    try clear hcz24_0
                    try clear hcz24_1
                    try clear hcz24_2
                    try clear hcz24_3
                    try clear hcz24_4
                    try clear hcz29_0
                    try clear hcz29_1
                    try clear hcz29_2
                    try clear hcz29_3
                    try clear hcz29_4
                    try clear hcz30_0
                    try clear hcz30_1
                    try clear hcz30_2
                    try clear hcz30_3
                    try clear hcz34_0
                    try clear hcz34_1
                    try clear hcz34_2
                    try clear hcz34_3
                    try clear hcz34_4
                    try clear hcz36_0
                    try clear hcz36_1
                    try clear hcz36_2
                    try clear hcz36_3
                    try clear hcz36_4
                    try clear hcz8_0
                    try clear hcz8_1
                    try clear hcz8_2
                    try clear hcz8_3
                    try clear hfz11_0
                    try clear hfz11_1
                    try clear hfz11_2
                    try clear hfz11_3
                    try clear hfz11_4
                    try clear hfz17_0
                    try clear hfz17_1
                    try clear hfz17_2
                    try clear hfz17_3
                    try clear hfz18_0
                    try clear hfz18_1
                    try clear hfz18_2
                    try clear hfz18_3
                    try clear hfz18_4
                    try clear hfz20_0
                    try clear hfz20_1
                    try clear hfz20_2
                    try clear hfz20_3
                    try clear hfz21_0
                    try clear hfz21_1
                    try clear hfz21_2
                    try clear hfz21_3
                    try clear hfz21_4
                    try clear hfz24_0
                    try clear hfz24_1
                    try clear hfz24_2
                    try clear hfz24_3
                    try clear hfz24_4
                    try clear hfz29_0
                    try clear hfz29_1
                    try clear hfz29_2
                    try clear hfz29_3
                    try clear hfz29_4
                    try clear hfz30_0
                    try clear hfz30_1
                    try clear hfz30_2
                    try clear hfz30_3
                    try clear hfz34_0
                    try clear hfz34_1
                    try clear hfz34_2
                    try clear hfz34_3
                    try clear hfz34_4
                    try clear hfz36_0
                    try clear hfz36_1
                    try clear hfz36_2
                    try clear hfz36_3
                    try clear hfz36_4
                    try clear hfz8_0
                    try clear hfz8_1
                    try clear hfz8_2
                    try clear hfz8_3
                    try clear hx241_0
                    try clear hx241_1
                    try clear hx241_2
                    try clear hx241_3
                    try clear hx241_4
                    try clear hx244_0
                    try clear hx244_1
                    try clear hx244_2
                    try clear hx244_3
                    try clear hx244_4
                    try clear p2
                    try clear p241
                    try clear p244
                    try clear q2
                    try clear q241
                    try clear q244
                    obtain ⟨kq, x52_26, rfl, HA, HJ26, BK240, BK242, HB⟩ := hcut
                    cases kq with
                    | zero => exact absurd HA.out (by simp [provisoref16_function.j1])
                    | succ kj26 =>
                      have H := HA.out
                      clear HA
                      simp only [provisoref16_function.j1] at H
                      by_cases c37 : x52_26 = true
                      · subst c37
                        have H1 : (some 5) = some r := by rw [if_pos rfl] at H; exact H
                        clear H
                        have H := H1
                        clear H1
                        obtain rfl := Option.some.inj H
                        go_wp2
                        repeat (go_quiet (fail); try go_wp2)
                        go_ret
                        exact ⟨by first | rfl | (simp [errW_none, errW_some] <;> rfl) | (simp [*, errW_none, errW_some] <;> rfl), by repeat (first | (with_reducible first | exact HB.out | apply bal | apply pbd | apply bdr | refine below_set ?_ GE240.out | refine below_set ?_ GE242.out) | exact HB.out)⟩
                      · replace c37 := Bool.eq_false_iff.mpr c37
                        subst c37
                        have H1 : (if (((rd_T49 l0_2 a1).f3).length : Int) = 0 then (some 2) else (if (((rd_T49 l0_2 a1).f3).length : Int) > 4096 then (some 4) else (some 0))) = some r := by rw [if_neg (show ¬ (false = true) by decide)] at H; exact H
                        clear H
                        have H := H1
                        clear H1
                        by_cases c38 : (((rd_T49 l0_2 a1).f3).length : Int) = 0
                        · rw [if_pos c38] at H
                          have c38b0 : ((((rd_T49 l0_2 a1).f3).length : Int) == 0) = true := beq_iff_eq.mpr c38
                          have c38b1 : ((((rd_T49 l0_2 a1).f3).length : Int) != 0) = false := bne_eq_false_iff_eq.mpr c38
                          clear c38
                          obtain rfl := Option.some.inj H
                          have hnb39 := NB242_240.out
                          have hnc39 := NB240_242.out
                          have hcz40_0 : wc.cell? ⟨gb242, 0, none⟩ = some (.string ((rd_T49 l0_2 a1).f0)) := (blk_cell BK242.out 0).trans rfl
                          have hcz40_1 : wc.cell? ⟨gb242, 1, none⟩ = some (.slice A241_1 ((rd_T49 l0_2 a1).f1.f0).length c241_1) := (blk_cell BK242.out 1).trans rfl
                          have hcz40_2 : wc.cell? ⟨gb242, 2, none⟩ = some (.int .u8 ((rd_T49 l0_2 a1).f1.f1)) := (blk_cell BK242.out 2).trans rfl
                          have hcz40_3 : wc.cell? ⟨gb242, 3, none⟩ = some (.int .i64 ((rd_T49 l0_2 a1).f2)) := (blk_cell BK242.out 3).trans rfl
                          have hcz40_4 : wc.cell? ⟨gb242, 4, none⟩ = some (.slice A241_4 ((rd_T49 l0_2 a1).f3).length c241_4) := (blk_cell BK242.out 4).trans rfl
                          have hfz40_0 := bkf BK242.out 0
                          have hfz40_1 := bkf BK242.out 1
                          have hfz40_2 := bkf BK242.out 2
                          have hfz40_3 := bkf BK242.out 3
                          have hfz40_4 := bkf BK242.out 4
                          go_wp2
                          repeat (go_quiet (fail); try go_wp2)
                          go_ret
                          exact ⟨by first | rfl | (simp [errW_none, errW_some] <;> rfl) | (simp [*, errW_none, errW_some] <;> rfl), by repeat (first | (with_reducible first | exact HB.out | apply bal | apply pbd | apply bdr | refine below_set ?_ GE240.out | refine below_set ?_ GE242.out) | exact HB.out)⟩
                        · rw [if_neg c38] at H
                          have c38b0 : ((((rd_T49 l0_2 a1).f3).length : Int) == 0) = false := beq_eq_false_iff_ne.mpr c38
                          have c38b1 : ((((rd_T49 l0_2 a1).f3).length : Int) != 0) = true := bne_iff_ne.mpr c38
                          have c38b2 : ¬ (((rd_T49 l0_2 a1).f3) = []) := fun h_ => c38 (by rw [h_]; rfl)
                          by_cases c41 : (((rd_T49 l0_2 a1).f3).length : Int) > 4096
                          · rw [if_pos c41] at H
                            have c41b0 : decide (4096 < (((rd_T49 l0_2 a1).f3).length : Int)) = true := decide_eq_true c41
                            have c41b1 : decide (4096 < ((rd_T49 l0_2 a1).f3).length) = true := decide_eq_true (by omega)
                            clear c41
                            obtain rfl := Option.some.inj H
                            have hnb42 := NB242_240.out
                            have hnc42 := NB240_242.out
                            have hcz43_0 : wc.cell? ⟨gb242, 0, none⟩ = some (.string ((rd_T49 l0_2 a1).f0)) := (blk_cell BK242.out 0).trans rfl
                            have hcz43_1 : wc.cell? ⟨gb242, 1, none⟩ = some (.slice A241_1 ((rd_T49 l0_2 a1).f1.f0).length c241_1) := (blk_cell BK242.out 1).trans rfl
                            have hcz43_2 : wc.cell? ⟨gb242, 2, none⟩ = some (.int .u8 ((rd_T49 l0_2 a1).f1.f1)) := (blk_cell BK242.out 2).trans rfl
                            have hcz43_3 : wc.cell? ⟨gb242, 3, none⟩ = some (.int .i64 ((rd_T49 l0_2 a1).f2)) := (blk_cell BK242.out 3).trans rfl
                            have hcz43_4 : wc.cell? ⟨gb242, 4, none⟩ = some (.slice A241_4 ((rd_T49 l0_2 a1).f3).length c241_4) := (blk_cell BK242.out 4).trans rfl
                            have hfz43_0 := bkf BK242.out 0
                            have hfz43_1 := bkf BK242.out 1
                            have hfz43_2 := bkf BK242.out 2
                            have hfz43_3 := bkf BK242.out 3
                            have hfz43_4 := bkf BK242.out 4
                            go_wp2
                            repeat (go_quiet (fail); try go_wp2)
                            go_ret
                            exact ⟨by first | rfl | (simp [errW_none, errW_some] <;> rfl) | (simp [*, errW_none, errW_some] <;> rfl), by repeat (first | (with_reducible first | exact HB.out | apply bal | apply pbd | apply bdr | refine below_set ?_ GE240.out | refine below_set ?_ GE242.out) | exact HB.out)⟩
                          · rw [if_neg c41] at H
                            have c41b0 : decide (4096 < (((rd_T49 l0_2 a1).f3).length : Int)) = false := decide_eq_false c41
                            have c41b1 : decide (4096 < ((rd_T49 l0_2 a1).f3).length) = false := decide_eq_false (by omega)
                            clear c41
                            obtain rfl := Option.some.inj H
                            have hnb44 := NB242_240.out
                            have hnc44 := NB240_242.out
                            have hcz45_0 : wc.cell? ⟨gb242, 0, none⟩ = some (.string ((rd_T49 l0_2 a1).f0)) := (blk_cell BK242.out 0).trans rfl
                            have hcz45_1 : wc.cell? ⟨gb242, 1, none⟩ = some (.slice A241_1 ((rd_T49 l0_2 a1).f1.f0).length c241_1) := (blk_cell BK242.out 1).trans rfl
                            have hcz45_2 : wc.cell? ⟨gb242, 2, none⟩ = some (.int .u8 ((rd_T49 l0_2 a1).f1.f1)) := (blk_cell BK242.out 2).trans rfl
                            have hcz45_3 : wc.cell? ⟨gb242, 3, none⟩ = some (.int .i64 ((rd_T49 l0_2 a1).f2)) := (blk_cell BK242.out 3).trans rfl
                            have hcz45_4 : wc.cell? ⟨gb242, 4, none⟩ = some (.slice A241_4 ((rd_T49 l0_2 a1).f3).length c241_4) := (blk_cell BK242.out 4).trans rfl
                            have hfz45_0 := bkf BK242.out 0
                            have hfz45_1 := bkf BK242.out 1
                            have hfz45_2 := bkf BK242.out 2
                            have hfz45_3 := bkf BK242.out 3
                            have hfz45_4 := bkf BK242.out 4
                            go_wp2
                            repeat (go_quiet (fail); try go_wp2)
                            go_ret
                            exact ⟨by first | rfl | (simp [errW_none, errW_some] <;> rfl) | (simp [*, errW_none, errW_some] <;> rfl), by repeat (first | (with_reducible first | exact HB.out | apply bal | apply pbd | apply bdr | refine below_set ?_ GE240.out | refine below_set ?_ GE242.out) | exact HB.out)⟩
                · replace c26 := Bool.eq_false_iff.mpr c26
                  subst c26
                  have H1 : (some 22) = some r := by rw [if_neg (show ¬ (false = true) by decide)] at H; exact H
                  clear H
                  have H := H1
                  clear H1
                  obtain rfl := Option.some.inj H
                  have hnb46 := NB242_240.out
                  have hnc46 := NB240_242.out
                  have hcz47_0 : wr.cell? ⟨gb242, 0, none⟩ = some (.string ((rd_T49 l0_2 a1).f0)) := (blk_cell BK242.out 0).trans rfl
                  have hcz47_1 : wr.cell? ⟨gb242, 1, none⟩ = some (.slice A241_1 ((rd_T49 l0_2 a1).f1.f0).length c241_1) := (blk_cell BK242.out 1).trans rfl
                  have hcz47_2 : wr.cell? ⟨gb242, 2, none⟩ = some (.int .u8 ((rd_T49 l0_2 a1).f1.f1)) := (blk_cell BK242.out 2).trans rfl
                  have hcz47_3 : wr.cell? ⟨gb242, 3, none⟩ = some (.int .i64 ((rd_T49 l0_2 a1).f2)) := (blk_cell BK242.out 3).trans rfl
                  have hcz47_4 : wr.cell? ⟨gb242, 4, none⟩ = some (.slice A241_4 ((rd_T49 l0_2 a1).f3).length c241_4) := (blk_cell BK242.out 4).trans rfl
                  have hfz47_0 := bkf BK242.out 0
                  have hfz47_1 := bkf BK242.out 1
                  have hfz47_2 := bkf BK242.out 2
                  have hfz47_3 := bkf BK242.out 3
                  have hfz47_4 := bkf BK242.out 4
                  have hcz48_0 : wr.cell? ⟨gb240, 0, none⟩ = some (.string a0_0) := (blk_cell BK240.out 0).trans rfl
                  have hcz48_1 : wr.cell? ⟨gb240, 1, none⟩ = some (.slice A0_1 l0_1.length c0_1) := (blk_cell BK240.out 1).trans rfl
                  have hcz48_2 : wr.cell? ⟨gb240, 2, none⟩ = some (.slice (some ad241) l0_2.length c0_2) := (blk_cell BK240.out 2).trans rfl
                  have hcz48_3 : wr.cell? ⟨gb240, 3, none⟩ = some (.slice A0_3 l0_3.length c0_3) := (blk_cell BK240.out 3).trans rfl
                  have hfz48_0 := bkf BK240.out 0
                  have hfz48_1 := bkf BK240.out 1
                  have hfz48_2 := bkf BK240.out 2
                  have hfz48_3 := bkf BK240.out 3
                  go_wp2_with (first | (go_at_call 75; (with_reducible refine (provisoref02_SigMay.calls k1 _ _ l0_1 _ _ ((rd_T49 l0_2 a1).f1.f0) ((rd_T49 l0_2 a1).f1.f1) false _ ?side1 ?side2 ?side3 ?side4 A25.out).mono ?_); (case side1 => repeat (first | exact (Kd.C_below HR0_1.out HB.out) | (with_reducible refine Kd.C_alloc ?_ _) | (with_reducible refine Kd.C_drewN ?_ _) | (with_reducible refine Kd.C_drew ?_))); (case side2 => exact HC0_1.out); (case side3 => repeat (first | exact (Kd.C_below HR241_1.out HB.out) | (with_reducible refine Kd.C_alloc ?_ _) | (with_reducible refine Kd.C_drewN ?_ _) | (with_reducible refine Kd.C_drew ?_))); (case side4 => exact HC241_1.out); rintro e w49 ⟨rfl, hb⟩; have n0_ := amk (blk_below (g := gb240) (o := .cells #[.string a0_0, .slice A0_1 l0_1.length c0_1, .slice (some ad241) l0_2.length c0_2, .slice A0_3 l0_3.length c0_3] 26 (0, 0)) (by (with_reducible repeat (first | refine bkd ?_ _ | refine blk_drew ?_ | refine bka ?_ _)); exact BK240.out) hb); have n1_ := amk (blk_below (g := gb242) (o := .cells #[.string ((rd_T49 l0_2 a1).f0), .slice A241_1 ((rd_T49 l0_2 a1).f1.f0).length c241_1, .int .u8 ((rd_T49 l0_2 a1).f1.f1), .int .i64 ((rd_T49 l0_2 a1).f2), .slice A241_4 ((rd_T49 l0_2 a1).f3).length c241_4] 49 (0, 0)) (by (with_reducible repeat (first | refine bkd ?_ _ | refine blk_drew ?_ | refine bka ?_ _)); exact BK242.out) hb); have n2_ := amk (below_step (by repeat (first | (with_reducible first | exact HB.out | apply bal | apply pbd | apply bdr | refine below_set ?_ GE240.out | refine below_set ?_ GE242.out) | exact HB.out)) hb); clear BK240; clear BK242; clear HB; have BK240 := n0_; have BK242 := n1_; have HB := n2_; clear n0_ n1_ n2_; (try clear hb); (try clear hb2); (try clear hk); (try clear hi)))
                  repeat (go_quiet (first | (go_at_call 75; (with_reducible refine (provisoref02_SigMay.calls k1 _ _ l0_1 _ _ ((rd_T49 l0_2 a1).f1.f0) ((rd_T49 l0_2 a1).f1.f1) false _ ?side1 ?side2 ?side3 ?side4 A25.out).mono ?_); (case side1 => repeat (first | exact (Kd.C_below HR0_1.out HB.out) | (with_reducible refine Kd.C_alloc ?_ _) | (with_reducible refine Kd.C_drewN ?_ _) | (with_reducible refine Kd.C_drew ?_))); (case side2 => exact HC0_1.out); (case side3 => repeat (first | exact (Kd.C_below HR241_1.out HB.out) | (with_reducible refine Kd.C_alloc ?_ _) | (with_reducible refine Kd.C_drewN ?_ _) | (with_reducible refine Kd.C_drew ?_))); (case side4 => exact HC241_1.out); rintro e w49 ⟨rfl, hb⟩; have n0_ := amk (blk_below (g := gb240) (o := .cells #[.string a0_0, .slice A0_1 l0_1.length c0_1, .slice (some ad241) l0_2.length c0_2, .slice A0_3 l0_3.length c0_3] 26 (0, 0)) (by (with_reducible repeat (first | refine bkd ?_ _ | refine blk_drew ?_ | refine bka ?_ _)); exact BK240.out) hb); have n1_ := amk (blk_below (g := gb242) (o := .cells #[.string ((rd_T49 l0_2 a1).f0), .slice A241_1 ((rd_T49 l0_2 a1).f1.f0).length c241_1, .int .u8 ((rd_T49 l0_2 a1).f1.f1), .int .i64 ((rd_T49 l0_2 a1).f2), .slice A241_4 ((rd_T49 l0_2 a1).f3).length c241_4] 49 (0, 0)) (by (with_reducible repeat (first | refine bkd ?_ _ | refine blk_drew ?_ | refine bka ?_ _)); exact BK242.out) hb); have n2_ := amk (below_step (by repeat (first | (with_reducible first | exact HB.out | apply bal | apply pbd | apply bdr | refine below_set ?_ GE240.out | refine below_set ?_ GE242.out) | exact HB.out)) hb); clear BK240; clear BK242; clear HB; have BK240 := n0_; have BK242 := n1_; have HB := n2_; clear n0_ n1_ n2_; (try clear hb); (try clear hb2); (try clear hk); (try clear hi))); try go_wp2_with (first | (go_at_call 75; (with_reducible refine (provisoref02_SigMay.calls k1 _ _ l0_1 _ _ ((rd_T49 l0_2 a1).f1.f0) ((rd_T49 l0_2 a1).f1.f1) false _ ?side1 ?side2 ?side3 ?side4 A25.out).mono ?_); (case side1 => repeat (first | exact (Kd.C_below HR0_1.out HB.out) | (with_reducible refine Kd.C_alloc ?_ _) | (with_reducible refine Kd.C_drewN ?_ _) | (with_reducible refine Kd.C_drew ?_))); (case side2 => exact HC0_1.out); (case side3 => repeat (first | exact (Kd.C_below HR241_1.out HB.out) | (with_reducible refine Kd.C_alloc ?_ _) | (with_reducible refine Kd.C_drewN ?_ _) | (with_reducible refine Kd.C_drew ?_))); (case side4 => exact HC241_1.out); rintro e w49 ⟨rfl, hb⟩; have n0_ := amk (blk_below (g := gb240) (o := .cells #[.string a0_0, .slice A0_1 l0_1.length c0_1, .slice (some ad241) l0_2.length c0_2, .slice A0_3 l0_3.length c0_3] 26 (0, 0)) (by (with_reducible repeat (first | refine bkd ?_ _ | refine blk_drew ?_ | refine bka ?_ _)); exact BK240.out) hb); have n1_ := amk (blk_below (g := gb242) (o := .cells #[.string ((rd_T49 l0_2 a1).f0), .slice A241_1 ((rd_T49 l0_2 a1).f1.f0).length c241_1, .int .u8 ((rd_T49 l0_2 a1).f1.f1), .int .i64 ((rd_T49 l0_2 a1).f2), .slice A241_4 ((rd_T49 l0_2 a1).f3).length c241_4] 49 (0, 0)) (by (with_reducible repeat (first | refine bkd ?_ _ | refine blk_drew ?_ | refine bka ?_ _)); exact BK242.out) hb); have n2_ := amk (below_step (by repeat (first | (with_reducible first | exact HB.out | apply bal | apply pbd | apply bdr | refine below_set ?_ GE240.out | refine below_set ?_ GE242.out) | exact HB.out)) hb); clear BK240; clear BK242; clear HB; have BK240 := n0_; have BK242 := n1_; have HB := n2_; clear n0_ n1_ n2_; (try clear hb); (try clear hb2); (try clear hk); (try clear hi))))
                  go_ret
                  exact ⟨by first | rfl | (simp [errW_none, errW_some] <;> rfl) | (simp [*, errW_none, errW_some] <;> rfl), by repeat (first | (with_reducible first | exact HB.out | apply bal | apply pbd | apply bdr | refine below_set ?_ GE240.out | refine below_set ?_ GE242.out) | exact HB.out)⟩
      · replace c6 := Bool.eq_false_iff.mpr c6
        subst c6
        have H1 : (some 6) = some r := by rw [if_neg (show ¬ (false = true) by decide)] at H; exact H
        clear H
        have H := H1
        clear H1
        obtain rfl := Option.some.inj H
        go_enter Try.func42, Try.ntmps42
        go_wp2_with (first | ((with_reducible refine gate_dst (N := 2) rfl ?_); refine box_event ?hg (N := 2) ?hd (cs := #[.string a0_0, .slice A0_1 l0_1.length c0_1, .slice A0_2 l0_2.length c0_2, .slice A0_3 l0_3.length c0_3]) (t := 26) ?hr ?_; (case hd => rfl); (case hg => rfl); (case hr => first | (go_simp; done) | (go_simp; rfl)); intro gb240 hg w50 hbox hb; have n0_ := amk (below_step (by repeat (first | (with_reducible first | exact HB.out | apply bal | apply pbd | apply bdr) | exact HB.out)) hb); have n1_ := amk (hbox); have n2_ := amk ((by rw [hg]; exact (below_size (by repeat (first | (with_reducible first | exact HB.out | apply bal | apply pbd | apply bdr) | exact HB.out))) : w.heap.size ≤ gb240)); have n3_ := amk ((by rw [hg]; exact (below_size (by repeat (first | (with_reducible first | exact HB.out | apply bal | apply pbd | apply bdr) | exact HB.out))) : w.heap.size ≤ gb240)); clear HB; have HB := n0_; have BK240 := n1_; have GW240 := n2_; have GE240 := n3_; clear n0_ n1_ n2_ n3_; clear hb hbox hg; have hcz51_0 : w50.cell? ⟨gb240, 0, none⟩ = some (.string a0_0) := (blk_cell BK240.out 0).trans rfl; have hcz51_1 : w50.cell? ⟨gb240, 1, none⟩ = some (.slice A0_1 l0_1.length c0_1) := (blk_cell BK240.out 1).trans rfl; have hcz51_2 : w50.cell? ⟨gb240, 2, none⟩ = some (.slice A0_2 l0_2.length c0_2) := (blk_cell BK240.out 2).trans rfl; have hcz51_3 : w50.cell? ⟨gb240, 3, none⟩ = some (.slice A0_3 l0_3.length c0_3) := (blk_cell BK240.out 3).trans rfl; have hfz51_0 := bkf BK240.out 0; have hfz51_1 := bkf BK240.out 1; have hfz51_2 := bkf BK240.out 2; have hfz51_3 := bkf BK240.out 3; have p241 : 0 ≤ (a1 : Int) := of_decide_eq_true (by first | (with_reducible assumption) | assumption); have q241 : a1 < (l0_2.length : Int) := of_decide_eq_true (by first | (with_reducible assumption) | assumption); obtain ⟨ad241, A241_1, c241_1, A241_4, c241_4, e241, hx241_0, hx241_1, hx241_2, hx241_3, hx241_4, hl241_1, hi241_1, hl241_4, hi241_4⟩ := at_T49 HR0_2.out a1 p241 q241; cases e241; replace hx241_0 := (HB.out.cell (blc w _ hx241_0)).trans hx241_0; replace hx241_1 := (HB.out.cell (blc w _ hx241_1)).trans hx241_1; replace hx241_2 := (HB.out.cell (blc w _ hx241_2)).trans hx241_2; replace hx241_3 := (HB.out.cell (blc w _ hx241_3)).trans hx241_3; replace hx241_4 := (HB.out.cell (blc w _ hx241_4)).trans hx241_4; have HR241_1 := amk hi241_1; have HC241_1 := amk hl241_1; clear hi241_1 hl241_1; have HR241_4 := amk hi241_4; have HC241_4 := amk hl241_4; clear hi241_4 hl241_4; replace p241 := eq_true p241; replace q241 := eq_true q241) | ((with_reducible refine gate_dst (N := 5) rfl ?_); refine box_event ?hg (N := 5) ?hd (cs := #[.string (⟨#[]⟩ : ByteArray), .slice none 0 0, .int .u8 0, .int .i64 0, .slice none 0 0]) (t := 49) ?hr ?_; (case hd => rfl); (case hg => rfl); (case hr => first | (go_simp; done) | (go_simp; rfl)); intro gb242 hg w52 hbox hb; have n0_ := amk (blk_below (g := gb240) (o := .cells #[.string a0_0, .slice A0_1 l0_1.length c0_1, .slice (some ad241) l0_2.length c0_2, .slice A0_3 l0_3.length c0_3] 26 (0, 0)) (by (with_reducible repeat (first | refine bkd ?_ _ | refine blk_drew ?_ | refine bka ?_ _)); exact BK240.out) hb); have n1_ := amk (below_step (by repeat (first | (with_reducible first | exact HB.out | apply bal | apply pbd | apply bdr | refine below_set ?_ GE240.out) | exact HB.out)) hb); have n2_ := amk (hbox); have n3_ := amk ((by rw [hg]; exact (below_size (by repeat (first | (with_reducible first | exact HB.out | apply bal | apply pbd | apply bdr | refine below_set ?_ GE240.out) | exact HB.out))) : w.heap.size ≤ gb242)); have n4_ := amk ((by rw [hg]; exact (below_size (by repeat (first | (with_reducible first | exact HB.out | apply bal | apply pbd | apply bdr | refine below_set ?_ GE240.out) | exact HB.out))) : w.heap.size ≤ gb242)); have n5_ := amk ((by rw [hg]; exact Nat.ne_of_lt (blk_lt (g := gb240) (o := .cells #[.string a0_0, .slice A0_1 l0_1.length c0_1, .slice (some ad241) l0_2.length c0_2, .slice A0_3 l0_3.length c0_3] 26 (0, 0)) (by (with_reducible repeat (first | refine bkd ?_ _ | refine blk_drew ?_ | refine bka ?_ _)); exact BK240.out)) : gb240 ≠ gb242)); have n6_ := amk ((by rw [hg]; exact Nat.ne_of_gt (blk_lt (g := gb240) (o := .cells #[.string a0_0, .slice A0_1 l0_1.length c0_1, .slice (some ad241) l0_2.length c0_2, .slice A0_3 l0_3.length c0_3] 26 (0, 0)) (by (with_reducible repeat (first | refine bkd ?_ _ | refine blk_drew ?_ | refine bka ?_ _)); exact BK240.out)) : gb242 ≠ gb240)); clear BK240; clear HB; have BK240 := n0_; have HB := n1_; have BK242 := n2_; have GW242 := n3_; have GE242 := n4_; have NB240_242 := n5_; have NB242_240 := n6_; clear n0_ n1_ n2_ n3_ n4_ n5_ n6_; clear hb hbox hg; have hnb53 := NB242_240.out; have hnc53 := NB240_242.out; have hcz54_0 : w52.cell? ⟨gb242, 0, none⟩ = some (.string (⟨#[]⟩ : ByteArray)) := (blk_cell BK242.out 0).trans rfl; have hcz54_1 : w52.cell? ⟨gb242, 1, none⟩ = some (.slice none 0 0) := (blk_cell BK242.out 1).trans rfl; have hcz54_2 : w52.cell? ⟨gb242, 2, none⟩ = some (.int .u8 0) := (blk_cell BK242.out 2).trans rfl; have hcz54_3 : w52.cell? ⟨gb242, 3, none⟩ = some (.int .i64 0) := (blk_cell BK242.out 3).trans rfl; have hcz54_4 : w52.cell? ⟨gb242, 4, none⟩ = some (.slice none 0 0) := (blk_cell BK242.out 4).trans rfl; have hfz54_0 := bkf BK242.out 0; have hfz54_1 := bkf BK242.out 1; have hfz54_2 := bkf BK242.out 2; have hfz54_3 := bkf BK242.out 3; have hfz54_4 := bkf BK242.out 4) | (go_at_call 40; (with_reducible refine (provisoref02_IsName.calls k ((rd_T49 l0_2 a1).f0) false _ A5.out).mono ?_); rintro e w' ⟨rfl, ⟨nd, rfl⟩⟩; (try first | exact ⟨rfl, _, World.drewN_drewN _ _ _⟩ | exact ⟨rfl, _, Eq.trans (World.drewN_drewN _ _ _) (congrArg (World.drewN _) (Nat.add_assoc _ _ _))⟩)))
        repeat (go_quiet (first | ((with_reducible refine gate_dst (N := 2) rfl ?_); refine box_event ?hg (N := 2) ?hd (cs := #[.string a0_0, .slice A0_1 l0_1.length c0_1, .slice A0_2 l0_2.length c0_2, .slice A0_3 l0_3.length c0_3]) (t := 26) ?hr ?_; (case hd => rfl); (case hg => rfl); (case hr => first | (go_simp; done) | (go_simp; rfl)); intro gb240 hg w50 hbox hb; have n0_ := amk (below_step (by repeat (first | (with_reducible first | exact HB.out | apply bal | apply pbd | apply bdr) | exact HB.out)) hb); have n1_ := amk (hbox); have n2_ := amk ((by rw [hg]; exact (below_size (by repeat (first | (with_reducible first | exact HB.out | apply bal | apply pbd | apply bdr) | exact HB.out))) : w.heap.size ≤ gb240)); have n3_ := amk ((by rw [hg]; exact (below_size (by repeat (first | (with_reducible first | exact HB.out | apply bal | apply pbd | apply bdr) | exact HB.out))) : w.heap.size ≤ gb240)); clear HB; have HB := n0_; have BK240 := n1_; have GW240 := n2_; have GE240 := n3_; clear n0_ n1_ n2_ n3_; clear hb hbox hg; have hcz51_0 : w50.cell? ⟨gb240, 0, none⟩ = some (.string a0_0) := (blk_cell BK240.out 0).trans rfl; have hcz51_1 : w50.cell? ⟨gb240, 1, none⟩ = some (.slice A0_1 l0_1.length c0_1) := (blk_cell BK240.out 1).trans rfl; have hcz51_2 : w50.cell? ⟨gb240, 2, none⟩ = some (.slice A0_2 l0_2.length c0_2) := (blk_cell BK240.out 2).trans rfl; have hcz51_3 : w50.cell? ⟨gb240, 3, none⟩ = some (.slice A0_3 l0_3.length c0_3) := (blk_cell BK240.out 3).trans rfl; have hfz51_0 := bkf BK240.out 0; have hfz51_1 := bkf BK240.out 1; have hfz51_2 := bkf BK240.out 2; have hfz51_3 := bkf BK240.out 3; have p241 : 0 ≤ (a1 : Int) := of_decide_eq_true (by first | (with_reducible assumption) | assumption); have q241 : a1 < (l0_2.length : Int) := of_decide_eq_true (by first | (with_reducible assumption) | assumption); obtain ⟨ad241, A241_1, c241_1, A241_4, c241_4, e241, hx241_0, hx241_1, hx241_2, hx241_3, hx241_4, hl241_1, hi241_1, hl241_4, hi241_4⟩ := at_T49 HR0_2.out a1 p241 q241; cases e241; replace hx241_0 := (HB.out.cell (blc w _ hx241_0)).trans hx241_0; replace hx241_1 := (HB.out.cell (blc w _ hx241_1)).trans hx241_1; replace hx241_2 := (HB.out.cell (blc w _ hx241_2)).trans hx241_2; replace hx241_3 := (HB.out.cell (blc w _ hx241_3)).trans hx241_3; replace hx241_4 := (HB.out.cell (blc w _ hx241_4)).trans hx241_4; have HR241_1 := amk hi241_1; have HC241_1 := amk hl241_1; clear hi241_1 hl241_1; have HR241_4 := amk hi241_4; have HC241_4 := amk hl241_4; clear hi241_4 hl241_4; replace p241 := eq_true p241; replace q241 := eq_true q241) | ((with_reducible refine gate_dst (N := 5) rfl ?_); refine box_event ?hg (N := 5) ?hd (cs := #[.string (⟨#[]⟩ : ByteArray), .slice none 0 0, .int .u8 0, .int .i64 0, .slice none 0 0]) (t := 49) ?hr ?_; (case hd => rfl); (case hg => rfl); (case hr => first | (go_simp; done) | (go_simp; rfl)); intro gb242 hg w52 hbox hb; have n0_ := amk (blk_below (g := gb240) (o := .cells #[.string a0_0, .slice A0_1 l0_1.length c0_1, .slice (some ad241) l0_2.length c0_2, .slice A0_3 l0_3.length c0_3] 26 (0, 0)) (by (with_reducible repeat (first | refine bkd ?_ _ | refine blk_drew ?_ | refine bka ?_ _)); exact BK240.out) hb); have n1_ := amk (below_step (by repeat (first | (with_reducible first | exact HB.out | apply bal | apply pbd | apply bdr | refine below_set ?_ GE240.out) | exact HB.out)) hb); have n2_ := amk (hbox); have n3_ := amk ((by rw [hg]; exact (below_size (by repeat (first | (with_reducible first | exact HB.out | apply bal | apply pbd | apply bdr | refine below_set ?_ GE240.out) | exact HB.out))) : w.heap.size ≤ gb242)); have n4_ := amk ((by rw [hg]; exact (below_size (by repeat (first | (with_reducible first | exact HB.out | apply bal | apply pbd | apply bdr | refine below_set ?_ GE240.out) | exact HB.out))) : w.heap.size ≤ gb242)); have n5_ := amk ((by rw [hg]; exact Nat.ne_of_lt (blk_lt (g := gb240) (o := .cells #[.string a0_0, .slice A0_1 l0_1.length c0_1, .slice (some ad241) l0_2.length c0_2, .slice A0_3 l0_3.length c0_3] 26 (0, 0)) (by (with_reducible repeat (first | refine bkd ?_ _ | refine blk_drew ?_ | refine bka ?_ _)); exact BK240.out)) : gb240 ≠ gb242)); have n6_ := amk ((by rw [hg]; exact Nat.ne_of_gt (blk_lt (g := gb240) (o := .cells #[.string a0_0, .slice A0_1 l0_1.length c0_1, .slice (some ad241) l0_2.length c0_2, .slice A0_3 l0_3.length c0_3] 26 (0, 0)) (by (with_reducible repeat (first | refine bkd ?_ _ | refine blk_drew ?_ | refine bka ?_ _)); exact BK240.out)) : gb242 ≠ gb240)); clear BK240; clear HB; have BK240 := n0_; have HB := n1_; have BK242 := n2_; have GW242 := n3_; have GE242 := n4_; have NB240_242 := n5_; have NB242_240 := n6_; clear n0_ n1_ n2_ n3_ n4_ n5_ n6_; clear hb hbox hg; have hnb53 := NB242_240.out; have hnc53 := NB240_242.out; have hcz54_0 : w52.cell? ⟨gb242, 0, none⟩ = some (.string (⟨#[]⟩ : ByteArray)) := (blk_cell BK242.out 0).trans rfl; have hcz54_1 : w52.cell? ⟨gb242, 1, none⟩ = some (.slice none 0 0) := (blk_cell BK242.out 1).trans rfl; have hcz54_2 : w52.cell? ⟨gb242, 2, none⟩ = some (.int .u8 0) := (blk_cell BK242.out 2).trans rfl; have hcz54_3 : w52.cell? ⟨gb242, 3, none⟩ = some (.int .i64 0) := (blk_cell BK242.out 3).trans rfl; have hcz54_4 : w52.cell? ⟨gb242, 4, none⟩ = some (.slice none 0 0) := (blk_cell BK242.out 4).trans rfl; have hfz54_0 := bkf BK242.out 0; have hfz54_1 := bkf BK242.out 1; have hfz54_2 := bkf BK242.out 2; have hfz54_3 := bkf BK242.out 3; have hfz54_4 := bkf BK242.out 4) | (go_at_call 40; (with_reducible refine (provisoref02_IsName.calls k ((rd_T49 l0_2 a1).f0) false _ A5.out).mono ?_); rintro e w' ⟨rfl, ⟨nd, rfl⟩⟩; (try first | exact ⟨rfl, _, World.drewN_drewN _ _ _⟩ | exact ⟨rfl, _, Eq.trans (World.drewN_drewN _ _ _) (congrArg (World.drewN _) (Nat.add_assoc _ _ _))⟩))); try go_wp2_with (first | ((with_reducible refine gate_dst (N := 2) rfl ?_); refine box_event ?hg (N := 2) ?hd (cs := #[.string a0_0, .slice A0_1 l0_1.length c0_1, .slice A0_2 l0_2.length c0_2, .slice A0_3 l0_3.length c0_3]) (t := 26) ?hr ?_; (case hd => rfl); (case hg => rfl); (case hr => first | (go_simp; done) | (go_simp; rfl)); intro gb240 hg w50 hbox hb; have n0_ := amk (below_step (by repeat (first | (with_reducible first | exact HB.out | apply bal | apply pbd | apply bdr) | exact HB.out)) hb); have n1_ := amk (hbox); have n2_ := amk ((by rw [hg]; exact (below_size (by repeat (first | (with_reducible first | exact HB.out | apply bal | apply pbd | apply bdr) | exact HB.out))) : w.heap.size ≤ gb240)); have n3_ := amk ((by rw [hg]; exact (below_size (by repeat (first | (with_reducible first | exact HB.out | apply bal | apply pbd | apply bdr) | exact HB.out))) : w.heap.size ≤ gb240)); clear HB; have HB := n0_; have BK240 := n1_; have GW240 := n2_; have GE240 := n3_; clear n0_ n1_ n2_ n3_; clear hb hbox hg; have hcz51_0 : w50.cell? ⟨gb240, 0, none⟩ = some (.string a0_0) := (blk_cell BK240.out 0).trans rfl; have hcz51_1 : w50.cell? ⟨gb240, 1, none⟩ = some (.slice A0_1 l0_1.length c0_1) := (blk_cell BK240.out 1).trans rfl; have hcz51_2 : w50.cell? ⟨gb240, 2, none⟩ = some (.slice A0_2 l0_2.length c0_2) := (blk_cell BK240.out 2).trans rfl; have hcz51_3 : w50.cell? ⟨gb240, 3, none⟩ = some (.slice A0_3 l0_3.length c0_3) := (blk_cell BK240.out 3).trans rfl; have hfz51_0 := bkf BK240.out 0; have hfz51_1 := bkf BK240.out 1; have hfz51_2 := bkf BK240.out 2; have hfz51_3 := bkf BK240.out 3; have p241 : 0 ≤ (a1 : Int) := of_decide_eq_true (by first | (with_reducible assumption) | assumption); have q241 : a1 < (l0_2.length : Int) := of_decide_eq_true (by first | (with_reducible assumption) | assumption); obtain ⟨ad241, A241_1, c241_1, A241_4, c241_4, e241, hx241_0, hx241_1, hx241_2, hx241_3, hx241_4, hl241_1, hi241_1, hl241_4, hi241_4⟩ := at_T49 HR0_2.out a1 p241 q241; cases e241; replace hx241_0 := (HB.out.cell (blc w _ hx241_0)).trans hx241_0; replace hx241_1 := (HB.out.cell (blc w _ hx241_1)).trans hx241_1; replace hx241_2 := (HB.out.cell (blc w _ hx241_2)).trans hx241_2; replace hx241_3 := (HB.out.cell (blc w _ hx241_3)).trans hx241_3; replace hx241_4 := (HB.out.cell (blc w _ hx241_4)).trans hx241_4; have HR241_1 := amk hi241_1; have HC241_1 := amk hl241_1; clear hi241_1 hl241_1; have HR241_4 := amk hi241_4; have HC241_4 := amk hl241_4; clear hi241_4 hl241_4; replace p241 := eq_true p241; replace q241 := eq_true q241) | ((with_reducible refine gate_dst (N := 5) rfl ?_); refine box_event ?hg (N := 5) ?hd (cs := #[.string (⟨#[]⟩ : ByteArray), .slice none 0 0, .int .u8 0, .int .i64 0, .slice none 0 0]) (t := 49) ?hr ?_; (case hd => rfl); (case hg => rfl); (case hr => first | (go_simp; done) | (go_simp; rfl)); intro gb242 hg w52 hbox hb; have n0_ := amk (blk_below (g := gb240) (o := .cells #[.string a0_0, .slice A0_1 l0_1.length c0_1, .slice (some ad241) l0_2.length c0_2, .slice A0_3 l0_3.length c0_3] 26 (0, 0)) (by (with_reducible repeat (first | refine bkd ?_ _ | refine blk_drew ?_ | refine bka ?_ _)); exact BK240.out) hb); have n1_ := amk (below_step (by repeat (first | (with_reducible first | exact HB.out | apply bal | apply pbd | apply bdr | refine below_set ?_ GE240.out) | exact HB.out)) hb); have n2_ := amk (hbox); have n3_ := amk ((by rw [hg]; exact (below_size (by repeat (first | (with_reducible first | exact HB.out | apply bal | apply pbd | apply bdr | refine below_set ?_ GE240.out) | exact HB.out))) : w.heap.size ≤ gb242)); have n4_ := amk ((by rw [hg]; exact (below_size (by repeat (first | (with_reducible first | exact HB.out | apply bal | apply pbd | apply bdr | refine below_set ?_ GE240.out) | exact HB.out))) : w.heap.size ≤ gb242)); have n5_ := amk ((by rw [hg]; exact Nat.ne_of_lt (blk_lt (g := gb240) (o := .cells #[.string a0_0, .slice A0_1 l0_1.length c0_1, .slice (some ad241) l0_2.length c0_2, .slice A0_3 l0_3.length c0_3] 26 (0, 0)) (by (with_reducible repeat (first | refine bkd ?_ _ | refine blk_drew ?_ | refine bka ?_ _)); exact BK240.out)) : gb240 ≠ gb242)); have n6_ := amk ((by rw [hg]; exact Nat.ne_of_gt (blk_lt (g := gb240) (o := .cells #[.string a0_0, .slice A0_1 l0_1.length c0_1, .slice (some ad241) l0_2.length c0_2, .slice A0_3 l0_3.length c0_3] 26 (0, 0)) (by (with_reducible repeat (first | refine bkd ?_ _ | refine blk_drew ?_ | refine bka ?_ _)); exact BK240.out)) : gb242 ≠ gb240)); clear BK240; clear HB; have BK240 := n0_; have HB := n1_; have BK242 := n2_; have GW242 := n3_; have GE242 := n4_; have NB240_242 := n5_; have NB242_240 := n6_; clear n0_ n1_ n2_ n3_ n4_ n5_ n6_; clear hb hbox hg; have hnb53 := NB242_240.out; have hnc53 := NB240_242.out; have hcz54_0 : w52.cell? ⟨gb242, 0, none⟩ = some (.string (⟨#[]⟩ : ByteArray)) := (blk_cell BK242.out 0).trans rfl; have hcz54_1 : w52.cell? ⟨gb242, 1, none⟩ = some (.slice none 0 0) := (blk_cell BK242.out 1).trans rfl; have hcz54_2 : w52.cell? ⟨gb242, 2, none⟩ = some (.int .u8 0) := (blk_cell BK242.out 2).trans rfl; have hcz54_3 : w52.cell? ⟨gb242, 3, none⟩ = some (.int .i64 0) := (blk_cell BK242.out 3).trans rfl; have hcz54_4 : w52.cell? ⟨gb242, 4, none⟩ = some (.slice none 0 0) := (blk_cell BK242.out 4).trans rfl; have hfz54_0 := bkf BK242.out 0; have hfz54_1 := bkf BK242.out 1; have hfz54_2 := bkf BK242.out 2; have hfz54_3 := bkf BK242.out 3; have hfz54_4 := bkf BK242.out 4) | (go_at_call 40; (with_reducible refine (provisoref02_IsName.calls k ((rd_T49 l0_2 a1).f0) false _ A5.out).mono ?_); rintro e w' ⟨rfl, ⟨nd, rfl⟩⟩; (try first | exact ⟨rfl, _, World.drewN_drewN _ _ _⟩ | exact ⟨rfl, _, Eq.trans (World.drewN_drewN _ _ _) (congrArg (World.drewN _) (Nat.add_assoc _ _ _))⟩))))
        go_ret
        exact ⟨by first | rfl | (simp [errW_none, errW_some] <;> rfl) | (simp [*, errW_none, errW_some] <;> rfl), by repeat (first | (with_reducible first | exact HB.out | apply bal | apply pbd | apply bdr | refine below_set ?_ GE240.out | refine below_set ?_ GE242.out) | exact HB.out)⟩
    · rw [if_neg c4] at H
      exact absurd H (by simp)
  · rw [if_neg c3] at H
    exact absurd H (by simp)

end Go.Proofs.Ytdlmcjchnoeebaa.P

end

section
namespace Go.Proofs.Ytdlmcjchnoeebaa.P
open Go.RowKit Go.Proofs.YtdlmcjchnoeebaaW.PrintWords Go.Proofs.YtdlmcjchnoeebaaW.PrintLast Go.Proofs.YtdlmcjchnoeebaaW.PrintMore
attribute [local go_sem] max2_int min2_int max_two min_two max_three min_three max_four min_four   -- for this text's walks alone
set_option linter.unusedVariables false
set_option linter.unusedSimpArgs false

mutual
def provisoref16_Check.l0 : Nat → Int → ByteArray → List (S64) → List (S49) → List (List Int) → Option (Int × Int)
  | 0, _, _, _, _, _ => none
  | k + 1, x6, x247000, x247001, x247002, x247003 => if x6 < (x247002.length : Int) then ((provisoref16_function.f k x247000 x247001 x247002 x247003 x6).bind fun t250 => (if t250 = 0 then (provisoref16_Check.l0 k (wrap64 (x6 + 1)) x247000 x247001 x247002 x247003) else (some (x6, t250)))) else (if (x247003.length : Int) > 0 then (provisoref16_Check.j1 k ((x247003.length : Int) != (x247002.length : Int)) x247000 x247001 x247002 x247003) else (provisoref16_Check.j1 k false x247000 x247001 x247002 x247003))
def provisoref16_Check.j1 : Nat → Bool → ByteArray → List (S64) → List (S49) → List (List Int) → Option (Int × Int)
  | 0, _, _, _, _, _ => none
  | k + 1, x53, x247000, x247001, x247002, x247003 => if x53 = true then (some (0, 162)) else (provisoref16_Check.l1 k 0 x247000 x247001 x247002 x247003)
def provisoref16_Check.l1 : Nat → Int → ByteArray → List (S64) → List (S49) → List (List Int) → Option (Int × Int)
  | 0, _, _, _, _, _ => none
  | k + 1, x8, x247000, x247001, x247002, x247003 => if x8 < (x247003.length : Int) then (if 0 ≤ x8 then (if ((rd_L8 x247003 x8).length : Int) > 65535 then (some (x8, 4)) else (provisoref16_Check.l1 k (wrap64 (x8 + 1)) x247000 x247001 x247002 x247003)) else (none)) else (some (0, 0))
end
def provisoref16_Check.f (k : Nat) (a0_0 : ByteArray) (l0_1 : List (S64)) (l0_2 : List (S49)) (l0_3 : List (List Int)) : Option (Int × Int) := (provisoref02_IsName.f k a0_0).bind fun t247 => (if t247 = true then ((provisoref02_Check.f k l0_1).bind fun bt248 => (if bt248.2 = 0 then (if (l0_2.length : Int) > 64 then (some (64, 4)) else (provisoref16_Check.l0 k 0 a0_0 l0_1 l0_2 l0_3)) else (some (bt248.1, bt248.2)))) else (some (0, 6)))
set_option maxHeartbeats 8000000 in
set_option maxRecDepth 100000 in
theorem provisoref16_Check.calls (k : Nat) (a0_0 : ByteArray) (A0_1 : Option Addr) (c0_1 : Nat) (l0_1 : List (S64)) (A0_2 : Option Addr) (c0_2 : Nat) (l0_2 : List (S49)) (A0_3 : Option Addr) (c0_3 : Nat) (l0_3 : List (List Int)) (r1 : Int) (r2 : Int) (w : World) (hr0_1 : Kd.C k64 w A0_1 l0_1.length l0_1) (hc0_1 : l0_1.length ≤ c0_1) (hr0_2 : Kd.C k49 w A0_2 l0_2.length l0_2) (hc0_2 : l0_2.length ≤ c0_2) (hr0_3 : Kd.C (Kd.slice 5 (Kd.int .u8)) w A0_3 l0_3.length l0_3) (hc0_3 : l0_3.length ≤ c0_3) (h : provisoref16_Check.f k a0_0 l0_1 l0_2 l0_3 = some (r1, r2)) :
    Calls Try.prog 16 #[.agg #[.string a0_0, .slice A0_1 l0_1.length c0_1, .slice A0_2 l0_2.length c0_2, .slice A0_3 l0_3.length c0_3]] w fun e w' => e = .returned (.tuple #[.int .i64 r1, .int .i64 r2]) ∧ Below w.heap.size w w' := by
  have hu26 := Try.underlying26
  have HR0_1 := amk hr0_1
  have HC0_1 := amk hc0_1
  clear hr0_1 hc0_1
  have HR0_2 := amk hr0_2
  have HC0_2 := amk hc0_2
  clear hr0_2 hc0_2
  have HR0_3 := amk hr0_3
  have HC0_3 := amk hc0_3
  clear hr0_3 hc0_3
  have HB := amk (Below.refl w.heap.size w)
  have H : ((provisoref02_IsName.f k a0_0).bind fun t247 => (if t247 = true then ((provisoref02_Check.f k l0_1).bind fun bt248 => (if bt248.2 = 0 then (if (l0_2.length : Int) > 64 then (some (64, 4)) else (provisoref16_Check.l0 k 0 a0_0 l0_1 l0_2 l0_3)) else (some (bt248.1, bt248.2)))) else (some (0, 6)))) = some (r1, r2) := h
  clear h
  replace H := Option.bind_eq_some_iff.mp H
  obtain ⟨t247, A20, H⟩ := H
  replace H : (if t247 = true then ((provisoref02_Check.f k l0_1).bind fun bt248 => (if bt248.2 = 0 then (if (l0_2.length : Int) > 64 then (some (64, 4)) else (provisoref16_Check.l0 k 0 a0_0 l0_1 l0_2 l0_3)) else (some (bt248.1, bt248.2)))) else (some (0, 6))) = some (r1, r2) := H
  have A2 := amk A20
  clear A20
  by_cases c3 : t247 = true
  · subst c3
    have H1 : ((provisoref02_Check.f k l0_1).bind fun bt248 => (if bt248.2 = 0 then (if (l0_2.length : Int) > 64 then (some (64, 4)) else (provisoref16_Check.l0 k 0 a0_0 l0_1 l0_2 l0_3)) else (some (bt248.1, bt248.2)))) = some (r1, r2) := by rw [if_pos rfl] at H; exact H
    clear H
    have H := H1
    clear H1
    replace H := Option.bind_eq_some_iff.mp H
    obtain ⟨⟨t248, t249⟩, A40, H⟩ := H
    replace H : (if t249 = 0 then (if (l0_2.length : Int) > 64 then (some (64, 4)) else (provisoref16_Check.l0 k 0 a0_0 l0_1 l0_2 l0_3)) else (some (t248, t249))) = some (r1, r2) := H
    have A4 := amk A40
    clear A40
    by_cases c5 : t249 = 0
    · rw [if_pos c5] at H
      have c5b0 : (t249 == 0) = true := beq_iff_eq.mpr c5
      have c5b1 : (t249 != 0) = false := bne_eq_false_iff_eq.mpr c5
      clear c5
      by_cases c6 : (l0_2.length : Int) > 64
      · rw [if_pos c6] at H
        have c6b0 : decide (64 < (l0_2.length : Int)) = true := decide_eq_true c6
        have c6b1 : decide (64 < l0_2.length) = true := decide_eq_true (by omega)
        clear c6
        simp only [Option.some.injEq, Prod.mk.injEq] at H
        obtain ⟨rfl, rfl⟩ := H
        go_enter Try.func16, Try.ntmps16
        go_wp2_with (first | ((with_reducible refine gate_dst (N := 1) rfl ?_); (try (refine gate_guard (by rfl) ?_; dsimp only)); refine box_event ?hg (N := 1) ?hd (cs := #[.string a0_0, .slice A0_1 l0_1.length c0_1, .slice A0_2 l0_2.length c0_2, .slice A0_3 l0_3.length c0_3]) (t := 26) ?hr ?_; (case hd => rfl); (case hg => rfl); (case hr => first | (go_simp; done) | (go_simp; rfl)); intro gb246 hg w7 hbox hb; have n0_ := amk (below_step (by repeat (first | (with_reducible first | exact HB.out | apply bal | apply pbd | apply bdr) | exact HB.out)) hb); have n1_ := amk (hbox); have n2_ := amk ((by rw [hg]; exact (below_size (by repeat (first | (with_reducible first | exact HB.out | apply bal | apply pbd | apply bdr) | exact HB.out))) : w.heap.size ≤ gb246)); have n3_ := amk ((by rw [hg]; exact (below_size (by repeat (first | (with_reducible first | exact HB.out | apply bal | apply pbd | apply bdr) | exact HB.out))) : w.heap.size ≤ gb246)); clear HB; have HB := n0_; have BK246 := n1_; have GW246 := n2_; have GE246 := n3_; clear n0_ n1_ n2_ n3_; clear hb hbox hg; have hcz8_0 : w7.cell? ⟨gb246, 0, none⟩ = some (.string a0_0) := (blk_cell BK246.out 0).trans rfl; have hcz8_1 : w7.cell? ⟨gb246, 1, none⟩ = some (.slice A0_1 l0_1.length c0_1) := (blk_cell BK246.out 1).trans rfl; have hcz8_2 : w7.cell? ⟨gb246, 2, none⟩ = some (.slice A0_2 l0_2.length c0_2) := (blk_cell BK246.out 2).trans rfl; have hcz8_3 : w7.cell? ⟨gb246, 3, none⟩ = some (.slice A0_3 l0_3.length c0_3) := (blk_cell BK246.out 3).trans rfl; have hfz8_0 := bkf BK246.out 0; have hfz8_1 := bkf BK246.out 1; have hfz8_2 := bkf BK246.out 2; have hfz8_3 := bkf BK246.out 3) | ((with_reducible refine gate_callee (f := 40) rfl ?_); refine goesL_ (some 11) rfl rfl Try.func40 (by kernel_rfl) rfl #[.string a0_0] rfl (by (try simp only [List.map_toArray, List.map_cons, List.map_nil]); first | done | rfl | (simp only [List.length_drop, List.length_take]; rfl)) ?_; (with_reducible refine (provisoref02_IsName.calls k a0_0 true _ A2.out).mono ?_); rintro e w' ⟨rfl, ⟨nd, rfl⟩⟩; refine ⟨_, rfl, ?_⟩) | ((with_reducible refine gate_callee (f := 41) rfl ?_); refine goesL_ (some 16) rfl rfl Try.func41 (by kernel_rfl) rfl #[.slice A0_1 l0_1.length c0_1] rfl (by (try simp only [List.map_toArray, List.map_cons, List.map_nil]); first | done | rfl | (simp only [List.length_drop, List.length_take]; rfl)) ?_; (with_reducible refine (provisoref02_Check.calls k _ _ l0_1 t248 t249 _ ?side1 ?side2 A4.out).mono ?_); (case side1 => repeat (first | exact (Kd.C_below HR0_1.out (by repeat (first | (with_reducible first | exact HB.out | apply bal | apply pbd | apply bdr | refine below_set ?_ GE246.out) | exact HB.out))) | (with_reducible refine Kd.C_alloc ?_ _) | (with_reducible refine Kd.C_drewN ?_ _) | (with_reducible refine Kd.C_drew ?_))); (case side2 => exact HC0_1.out); rintro e w9 ⟨rfl, hb⟩; refine ⟨_, rfl, ?_⟩; have n0_ := amk (blk_below (g := gb246) (o := .cells #[.string a0_0, .slice A0_1 l0_1.length c0_1, .slice A0_2 l0_2.length c0_2, .slice A0_3 l0_3.length c0_3] 26 (0, 0)) (by (with_reducible repeat (first | refine bkd ?_ _ | refine blk_drew ?_ | refine bka ?_ _)); exact BK246.out) hb); have n1_ := amk (below_step (by repeat (first | (with_reducible first | exact HB.out | apply bal | apply pbd | apply bdr | refine below_set ?_ GE246.out) | exact HB.out)) hb); clear BK246; clear HB; have BK246 := n0_; have HB := n1_; clear n0_ n1_; (try clear hb); (try clear hb2); (try clear hk); (try clear hi); have hcz10_0 : w9.cell? ⟨gb246, 0, none⟩ = some (.string a0_0) := (blk_cell BK246.out 0).trans rfl; have hcz10_1 : w9.cell? ⟨gb246, 1, none⟩ = some (.slice A0_1 l0_1.length c0_1) := (blk_cell BK246.out 1).trans rfl; have hcz10_2 : w9.cell? ⟨gb246, 2, none⟩ = some (.slice A0_2 l0_2.length c0_2) := (blk_cell BK246.out 2).trans rfl; have hcz10_3 : w9.cell? ⟨gb246, 3, none⟩ = some (.slice A0_3 l0_3.length c0_3) := (blk_cell BK246.out 3).trans rfl; have hfz10_0 := bkf BK246.out 0; have hfz10_1 := bkf BK246.out 1; have hfz10_2 := bkf BK246.out 2; have hfz10_3 := bkf BK246.out 3))
        go_ret2
        exact ⟨by first | rfl | (simp [errW_none, errW_some] <;> rfl) | (simp [*, errW_none, errW_some] <;> rfl), by repeat (first | (with_reducible first | exact HB.out | apply bal | apply pbd | apply bdr | refine below_set ?_ GE246.out) | exact HB.out)⟩
      · rw [if_neg c6] at H
        have c6b0 : decide (64 < (l0_2.length : Int)) = false := decide_eq_false c6
        have c6b1 : decide (64 < l0_2.length) = false := decide_eq_false (by omega)
        clear c6
        have H' := amk H
        clear H
        go_enter Try.func16, Try.ntmps16
        go_wp2_with (first | ((with_reducible refine gate_dst (N := 1) rfl ?_); (try (refine gate_guard (by rfl) ?_; dsimp only)); refine box_event ?hg (N := 1) ?hd (cs := #[.string a0_0, .slice A0_1 l0_1.length c0_1, .slice A0_2 l0_2.length c0_2, .slice A0_3 l0_3.length c0_3]) (t := 26) ?hr ?_; (case hd => rfl); (case hg => rfl); (case hr => first | (go_simp; done) | (go_simp; rfl)); intro gb246 hg w11 hbox hb; have n0_ := amk (below_step (by repeat (first | (with_reducible first | exact HB.out | apply bal | apply pbd | apply bdr) | exact HB.out)) hb); have n1_ := amk (hbox); have n2_ := amk ((by rw [hg]; exact (below_size (by repeat (first | (with_reducible first | exact HB.out | apply bal | apply pbd | apply bdr) | exact HB.out))) : w.heap.size ≤ gb246)); have n3_ := amk ((by rw [hg]; exact (below_size (by repeat (first | (with_reducible first | exact HB.out | apply bal | apply pbd | apply bdr) | exact HB.out))) : w.heap.size ≤ gb246)); clear HB; have HB := n0_; have BK246 := n1_; have GW246 := n2_; have GE246 := n3_; clear n0_ n1_ n2_ n3_; clear hb hbox hg; have hcz12_0 : w11.cell? ⟨gb246, 0, none⟩ = some (.string a0_0) := (blk_cell BK246.out 0).trans rfl; have hcz12_1 : w11.cell? ⟨gb246, 1, none⟩ = some (.slice A0_1 l0_1.length c0_1) := (blk_cell BK246.out 1).trans rfl; have hcz12_2 : w11.cell? ⟨gb246, 2, none⟩ = some (.slice A0_2 l0_2.length c0_2) := (blk_cell BK246.out 2).trans rfl; have hcz12_3 : w11.cell? ⟨gb246, 3, none⟩ = some (.slice A0_3 l0_3.length c0_3) := (blk_cell BK246.out 3).trans rfl; have hfz12_0 := bkf BK246.out 0; have hfz12_1 := bkf BK246.out 1; have hfz12_2 := bkf BK246.out 2; have hfz12_3 := bkf BK246.out 3) | ((with_reducible refine gate_callee (f := 40) rfl ?_); refine goesL_ (some 11) rfl rfl Try.func40 (by kernel_rfl) rfl #[.string a0_0] rfl (by (try simp only [List.map_toArray, List.map_cons, List.map_nil]); first | done | rfl | (simp only [List.length_drop, List.length_take]; rfl)) ?_; (with_reducible refine (provisoref02_IsName.calls k a0_0 true _ A2.out).mono ?_); rintro e w' ⟨rfl, ⟨nd, rfl⟩⟩; refine ⟨_, rfl, ?_⟩) | ((with_reducible refine gate_callee (f := 41) rfl ?_); refine goesL_ (some 16) rfl rfl Try.func41 (by kernel_rfl) rfl #[.slice A0_1 l0_1.length c0_1] rfl (by (try simp only [List.map_toArray, List.map_cons, List.map_nil]); first | done | rfl | (simp only [List.length_drop, List.length_take]; rfl)) ?_; (with_reducible refine (provisoref02_Check.calls k _ _ l0_1 t248 t249 _ ?side1 ?side2 A4.out).mono ?_); (case side1 => repeat (first | exact (Kd.C_below HR0_1.out (by repeat (first | (with_reducible first | exact HB.out | apply bal | apply pbd | apply bdr | refine below_set ?_ GE246.out) | exact HB.out))) | (with_reducible refine Kd.C_alloc ?_ _) | (with_reducible refine Kd.C_drewN ?_ _) | (with_reducible refine Kd.C_drew ?_))); (case side2 => exact HC0_1.out); rintro e w13 ⟨rfl, hb⟩; refine ⟨_, rfl, ?_⟩; have n0_ := amk (blk_below (g := gb246) (o := .cells #[.string a0_0, .slice A0_1 l0_1.length c0_1, .slice A0_2 l0_2.length c0_2, .slice A0_3 l0_3.length c0_3] 26 (0, 0)) (by (with_reducible repeat (first | refine bkd ?_ _ | refine blk_drew ?_ | refine bka ?_ _)); exact BK246.out) hb); have n1_ := amk (below_step (by repeat (first | (with_reducible first | exact HB.out | apply bal | apply pbd | apply bdr | refine below_set ?_ GE246.out) | exact HB.out)) hb); clear BK246; clear HB; have BK246 := n0_; have HB := n1_; clear n0_ n1_; (try clear hb); (try clear hb2); (try clear hk); (try clear hi); have hcz14_0 : w13.cell? ⟨gb246, 0, none⟩ = some (.string a0_0) := (blk_cell BK246.out 0).trans rfl; have hcz14_1 : w13.cell? ⟨gb246, 1, none⟩ = some (.slice A0_1 l0_1.length c0_1) := (blk_cell BK246.out 1).trans rfl; have hcz14_2 : w13.cell? ⟨gb246, 2, none⟩ = some (.slice A0_2 l0_2.length c0_2) := (blk_cell BK246.out 2).trans rfl; have hcz14_3 : w13.cell? ⟨gb246, 3, none⟩ = some (.slice A0_3 l0_3.length c0_3) := (blk_cell BK246.out 3).trans rfl; have hfz14_0 := bkf BK246.out 0; have hfz14_1 := bkf BK246.out 1; have hfz14_2 := bkf BK246.out 2; have hfz14_3 := bkf BK246.out 3))
        go_loopg [6] k (fun kq v6 w' => ∃ (x6_1 : Int), v6 = .int .i64 x6_1 ∧ Aside0 (provisoref16_Check.l0 kq x6_1 a0_0 l0_1 l0_2 l0_3 = some (r1, r2)) ∧ Aside0 (kq ≤ k) ∧ Aside0 (w'.heap[gb246]? = some (.cells #[.string a0_0, (.slice A0_1 l0_1.length c0_1), (.slice A0_2 l0_2.length c0_2), (.slice A0_3 l0_3.length c0_3)] 26 (0, 0))) ∧ Aside0 (Below w.heap.size w w'))
        case atStart => exact ⟨(0), (by first | rfl | (simp; done) | (simp [*]; done)), H', ⟨Nat.le_refl _⟩, ⟨by (with_reducible repeat (first | refine bkd ?_ _ | refine blk_drew ?_ | refine bka ?_ _)); exact BK246.out⟩, ⟨by repeat (first | (with_reducible first | exact HB.out | apply bal | apply pbd | apply bdr | refine below_set ?_ GE246.out) | exact HB.out)⟩⟩
        case round =>
          clear H'
          try clear c1
          try clear p2
          try clear c3
          try clear c4
          try clear c5
          try clear c5b0
          try clear c5b1
          try clear c6
          try clear c6b0
          try clear c6b1
          try clear hcz10_0
          try clear hcz10_1
          try clear hcz10_2
          try clear hcz10_3
          try clear hcz12_0
          try clear hcz12_1
          try clear hcz12_2
          try clear hcz12_3
          try clear hcz14_0
          try clear hcz14_1
          try clear hcz14_2
          try clear hcz14_3
          try clear hcz8_0
          try clear hcz8_1
          try clear hcz8_2
          try clear hcz8_3
          try clear hfz10_0
          try clear hfz10_1
          try clear hfz10_2
          try clear hfz10_3
          try clear hfz12_0
          try clear hfz12_1
          try clear hfz12_2
          try clear hfz12_3
          try clear hfz14_0
          try clear hfz14_1
          try clear hfz14_2
          try clear hfz14_3
          try clear hfz8_0
          try clear hfz8_1
          try clear hfz8_2
          try clear hfz8_3
          obtain ⟨x6_1, rfl, HA, HK1, BK246, HB⟩ := hrel
          cases gk with
          | zero => exact absurd HA.out (by simp [provisoref16_Check.l0])
          | succ k1 =>
            have H := HA.out
            clear HA
            simp only [provisoref16_Check.l0] at H
            by_cases c15 : x6_1 < (l0_2.length : Int)
            · rw [if_pos c15] at H
              have c15b0 : decide (x6_1 < (l0_2.length : Int)) = true := decide_eq_true c15
              clear c15
              replace H := Option.bind_eq_some_iff.mp H
              obtain ⟨t250, A160, H⟩ := H
              replace H : (if t250 = 0 then (provisoref16_Check.l0 k1 (wrap64 (x6_1 + 1)) a0_0 l0_1 l0_2 l0_3) else (some (x6_1, t250))) = some (r1, r2) := H
              have A16 := amk A160
              clear A160
              by_cases c17 : t250 = 0
              · rw [if_pos c17] at H
                have c17b0 : (t250 == 0) = true := beq_iff_eq.mpr c17
                have c17b1 : (t250 != 0) = false := bne_eq_false_iff_eq.mpr c17
                clear c17
                have H' := amk H
                clear H
                have hcz18_0 : wr.cell? ⟨gb246, 0, none⟩ = some (.string a0_0) := (blk_cell BK246.out 0).trans rfl
                have hcz18_1 : wr.cell? ⟨gb246, 1, none⟩ = some (.slice A0_1 l0_1.length c0_1) := (blk_cell BK246.out 1).trans rfl
                have hcz18_2 : wr.cell? ⟨gb246, 2, none⟩ = some (.slice A0_2 l0_2.length c0_2) := (blk_cell BK246.out 2).trans rfl
                have hcz18_3 : wr.cell? ⟨gb246, 3, none⟩ = some (.slice A0_3 l0_3.length c0_3) := (blk_cell BK246.out 3).trans rfl
                have hfz18_0 := bkf BK246.out 0
                have hfz18_1 := bkf BK246.out 1
                have hfz18_2 := bkf BK246.out 2
                have hfz18_3 := bkf BK246.out 3
                go_wp2_with (first | ((with_reducible refine gate_callee (f := 42) rfl ?_); refine goesL_ (some 36) rfl rfl Try.func42 (by kernel_rfl) rfl #[.agg #[.string a0_0, .slice A0_1 l0_1.length c0_1, .slice A0_2 l0_2.length c0_2, .slice A0_3 l0_3.length c0_3], .int .i64 x6_1] rfl (by (try simp only [List.map_toArray, List.map_cons, List.map_nil]); first | done | rfl | (simp only [List.length_drop, List.length_take]; rfl)) ?_; (with_reducible refine (provisoref16_function.calls k1 a0_0 _ _ l0_1 _ _ l0_2 _ _ l0_3 x6_1 t250 _ ?side1 ?side2 ?side3 ?side4 ?side5 ?side6 A16.out).mono ?_); (case side1 => repeat (first | exact (Kd.C_below HR0_1.out HB.out) | (with_reducible refine Kd.C_alloc ?_ _) | (with_reducible refine Kd.C_drewN ?_ _) | (with_reducible refine Kd.C_drew ?_))); (case side2 => exact HC0_1.out); (case side3 => repeat (first | exact (Kd.C_below HR0_2.out HB.out) | (with_reducible refine Kd.C_alloc ?_ _) | (with_reducible refine Kd.C_drewN ?_ _) | (with_reducible refine Kd.C_drew ?_))); (case side4 => exact HC0_2.out); (case side5 => repeat (first | exact (Kd.C_below HR0_3.out HB.out) | (with_reducible refine Kd.C_alloc ?_ _) | (with_reducible refine Kd.C_drewN ?_ _) | (with_reducible refine Kd.C_drew ?_))); (case side6 => exact HC0_3.out); rintro e w19 ⟨rfl, hb⟩; refine ⟨_, rfl, ?_⟩; have n0_ := amk (blk_below (g := gb246) (o := .cells #[.string a0_0, .slice A0_1 l0_1.length c0_1, .slice A0_2 l0_2.length c0_2, .slice A0_3 l0_3.length c0_3] 26 (0, 0)) (by (with_reducible repeat (first | refine bkd ?_ _ | refine blk_drew ?_ | refine bka ?_ _)); exact BK246.out) hb); have n1_ := amk (below_step (by repeat (first | (with_reducible first | exact HB.out | apply bal | apply pbd | apply bdr | refine below_set ?_ GE246.out) | exact HB.out)) hb); clear BK246; clear HB; have BK246 := n0_; have HB := n1_; clear n0_ n1_; (try clear hb); (try clear hb2); (try clear hk); (try clear hi)))
                go_roundg k1
                case measure => have := HK1.out; omega
                case rel => exact ⟨(wrap64 (x6_1 + 1)), (by first | rfl | (simp; done) | (simp [*]; done)), H', ⟨by have := HK1.out; omega⟩, ⟨by (with_reducible repeat (first | refine bkd ?_ _ | refine blk_drew ?_ | refine bka ?_ _)); exact BK246.out⟩, ⟨by repeat (first | (with_reducible first | exact HB.out | apply bal | apply pbd | apply bdr | refine below_set ?_ GE246.out) | exact HB.out)⟩⟩
              · rw [if_neg c17] at H
                have c17b0 : (t250 == 0) = false := beq_eq_false_iff_ne.mpr c17
                have c17b1 : (t250 != 0) = true := bne_iff_ne.mpr c17
                simp only [Option.some.injEq, Prod.mk.injEq] at H
                obtain ⟨rfl, rfl⟩ := H
                have hcz20_0 : wr.cell? ⟨gb246, 0, none⟩ = some (.string a0_0) := (blk_cell BK246.out 0).trans rfl
                have hcz20_1 : wr.cell? ⟨gb246, 1, none⟩ = some (.slice A0_1 l0_1.length c0_1) := (blk_cell BK246.out 1).trans rfl
                have hcz20_2 : wr.cell? ⟨gb246, 2, none⟩ = some (.slice A0_2 l0_2.length c0_2) := (blk_cell BK246.out 2).trans rfl
                have hcz20_3 : wr.cell? ⟨gb246, 3, none⟩ = some (.slice A0_3 l0_3.length c0_3) := (blk_cell BK246.out 3).trans rfl
                have hfz20_0 := bkf BK246.out 0
                have hfz20_1 := bkf BK246.out 1
                have hfz20_2 := bkf BK246.out 2
                have hfz20_3 := bkf BK246.out 3
                go_wp2_with (first | ((with_reducible refine gate_callee (f := 42) rfl ?_); refine goesL_ (some 36) rfl rfl Try.func42 (by kernel_rfl) rfl #[.agg #[.string a0_0, .slice A0_1 l0_1.length c0_1, .slice A0_2 l0_2.length c0_2, .slice A0_3 l0_3.length c0_3], .int .i64 x6_1] rfl (by (try simp only [List.map_toArray, List.map_cons, List.map_nil]); first | done | rfl | (simp only [List.length_drop, List.length_take]; rfl)) ?_; (with_reducible refine (provisoref16_function.calls k1 a0_0 _ _ l0_1 _ _ l0_2 _ _ l0_3 x6_1 t250 _ ?side1 ?side2 ?side3 ?side4 ?side5 ?side6 A16.out).mono ?_); (case side1 => repeat (first | exact (Kd.C_below HR0_1.out HB.out) | (with_reducible refine Kd.C_alloc ?_ _) | (with_reducible refine Kd.C_drewN ?_ _) | (with_reducible refine Kd.C_drew ?_))); (case side2 => exact HC0_1.out); (case side3 => repeat (first | exact (Kd.C_below HR0_2.out HB.out) | (with_reducible refine Kd.C_alloc ?_ _) | (with_reducible refine Kd.C_drewN ?_ _) | (with_reducible refine Kd.C_drew ?_))); (case side4 => exact HC0_2.out); (case side5 => repeat (first | exact (Kd.C_below HR0_3.out HB.out) | (with_reducible refine Kd.C_alloc ?_ _) | (with_reducible refine Kd.C_drewN ?_ _) | (with_reducible refine Kd.C_drew ?_))); (case side6 => exact HC0_3.out); rintro e w21 ⟨rfl, hb⟩; refine ⟨_, rfl, ?_⟩; have n0_ := amk (blk_below (g := gb246) (o := .cells #[.string a0_0, .slice A0_1 l0_1.length c0_1, .slice A0_2 l0_2.length c0_2, .slice A0_3 l0_3.length c0_3] 26 (0, 0)) (by (with_reducible repeat (first | refine bkd ?_ _ | refine blk_drew ?_ | refine bka ?_ _)); exact BK246.out) hb); have n1_ := amk (below_step (by repeat (first | (with_reducible first | exact HB.out | apply bal | apply pbd | apply bdr | refine below_set ?_ GE246.out) | exact HB.out)) hb); clear BK246; clear HB; have BK246 := n0_; have HB := n1_; clear n0_ n1_; (try clear hb); (try clear hb2); (try clear hk); (try clear hi)))
                go_ret2
                exact ⟨by first | rfl | (simp [errW_none, errW_some] <;> rfl) | (simp [*, errW_none, errW_some] <;> rfl), by repeat (first | (with_reducible first | exact HB.out | apply bal | apply pbd | apply bdr | refine below_set ?_ GE246.out) | exact HB.out)⟩
            · rw [if_neg c15] at H
              have c15b0 : decide (x6_1 < (l0_2.length : Int)) = false := decide_eq_false c15
              clear c15
              have HC22 := amk H
              clear H
              have hcz23_0 : wr.cell? ⟨gb246, 0, none⟩ = some (.string a0_0) := (blk_cell BK246.out 0).trans rfl
              have hcz23_1 : wr.cell? ⟨gb246, 1, none⟩ = some (.slice A0_1 l0_1.length c0_1) := (blk_cell BK246.out 1).trans rfl
              have hcz23_2 : wr.cell? ⟨gb246, 2, none⟩ = some (.slice A0_2 l0_2.length c0_2) := (blk_cell BK246.out 2).trans rfl
              have hcz23_3 : wr.cell? ⟨gb246, 3, none⟩ = some (.slice A0_3 l0_3.length c0_3) := (blk_cell BK246.out 3).trans rfl
              have hfz23_0 := bkf BK246.out 0
              have hfz23_1 := bkf BK246.out 1
              have hfz23_2 := bkf BK246.out 2
              have hfz23_3 := bkf BK246.out 3
              go_upto_region 14 with (fail)
              go_cut [53] (fun v53 wc => ∃ (kq : Nat) (x53_21 : Bool), v53 = .bool x53_21 ∧ Aside0 (provisoref16_Check.j1 kq x53_21 a0_0 l0_1 l0_2 l0_3 = some (r1, r2)) ∧ Aside0 (kq ≤ k1) ∧ Aside0 (wc.heap[gb246]? = some (.cells #[.string a0_0, (.slice A0_1 l0_1.length c0_1), (.slice A0_2 l0_2.length c0_2), (.slice A0_3 l0_3.length c0_3)] 26 (0, 0))) ∧ Aside0 (Below w.heap.size w wc))
              case first =>
                have H := HC22.out
                clear HC22
                by_cases c24 : (l0_3.length : Int) > 0
                · rw [if_pos c24] at H
                  have c24b0 : decide (0 < (l0_3.length : Int)) = true := decide_eq_true c24
                  have c24b1 : decide (0 < l0_3.length) = true := decide_eq_true (by omega)
                  clear c24
                  (first | rw [c24b0] | (simp only [i64_w, i32_w]; rw [c24b0]) | skip)
                  have H' := amk H
                  clear H
                  have hcz25_0 : wr.cell? ⟨gb246, 0, none⟩ = some (.string a0_0) := (blk_cell BK246.out 0).trans rfl
                  have hcz25_1 : wr.cell? ⟨gb246, 1, none⟩ = some (.slice A0_1 l0_1.length c0_1) := (blk_cell BK246.out 1).trans rfl
                  have hcz25_2 : wr.cell? ⟨gb246, 2, none⟩ = some (.slice A0_2 l0_2.length c0_2) := (blk_cell BK246.out 2).trans rfl
                  have hcz25_3 : wr.cell? ⟨gb246, 3, none⟩ = some (.slice A0_3 l0_3.length c0_3) := (blk_cell BK246.out 3).trans rfl
                  have hfz25_0 := bkf BK246.out 0
                  have hfz25_1 := bkf BK246.out 1
                  have hfz25_2 := bkf BK246.out 2
                  have hfz25_3 := bkf BK246.out 3
                  go_wp2
                  go_meet
                  case rel => exact ⟨_, (((l0_3.length : Int) != (l0_2.length : Int))), (by first | rfl | (simp; done) | (simp [*]; done)), H', ⟨by have := HK1.out; first | omega | exact Nat.le_refl _⟩, ⟨by (with_reducible repeat (first | refine bkd ?_ _ | refine blk_drew ?_ | refine bka ?_ _)); exact BK246.out⟩, ⟨by repeat (first | (with_reducible first | exact HB.out | apply bal | apply pbd | apply bdr | refine below_set ?_ GE246.out) | exact HB.out)⟩⟩
                · rw [if_neg c24] at H
                  have c24b0 : decide (0 < (l0_3.length : Int)) = false := decide_eq_false c24
                  have c24b1 : decide (0 < l0_3.length) = false := decide_eq_false (by omega)
                  clear c24
                  (first | rw [c24b0] | (simp only [i64_w, i32_w]; rw [c24b0]) | skip)
                  have H' := amk H
                  clear H
                  have hcz26_0 : wr.cell? ⟨gb246, 0, none⟩ = some (.string a0_0) := (blk_cell BK246.out 0).trans rfl
                  have hcz26_1 : wr.cell? ⟨gb246, 1, none⟩ = some (.slice A0_1 l0_1.length c0_1) := (blk_cell BK246.out 1).trans rfl
                  have hcz26_2 : wr.cell? ⟨gb246, 2, none⟩ = some (.slice A0_2 l0_2.length c0_2) := (blk_cell BK246.out 2).trans rfl
                  have hcz26_3 : wr.cell? ⟨gb246, 3, none⟩ = some (.slice A0_3 l0_3.length c0_3) := (blk_cell BK246.out 3).trans rfl
                  have hfz26_0 := bkf BK246.out 0
                  have hfz26_1 := bkf BK246.out 1
                  have hfz26_2 := bkf BK246.out 2
                  have hfz26_3 := bkf BK246.out 3
                  go_wp2
                  go_meet
                  case rel => exact ⟨_, (false), (by first | rfl | (simp; done) | (simp [*]; done)), H', ⟨by have := HK1.out; first | omega | exact Nat.le_refl _⟩, ⟨by (with_reducible repeat (first | refine bkd ?_ _ | refine blk_drew ?_ | refine bka ?_ _)); exact BK246.out⟩, ⟨by repeat (first | (with_reducible first | exact HB.out | apply bal | apply pbd | apply bdr | refine below_set ?_ GE246.out) | exact HB.out)⟩⟩
              case rest =>
                clear HC22
                try clear c1
                try clear c2
                try clear p2
                try clear c3
                try clear c4
                try clear c5
                try clear c5b0
                try clear c5b1
                try clear c6
                try clear c6b0
                try clear c6b1
                try clear p6
                try clear c15
                try clear c15b0
                try clear c16
                try clear c17
                try clear c17b0
                try clear c17b1
                try clear c24
                try clear c24b0
                try clear c24b1
                try clear hcz10_0
                try clear hcz10_1
                try clear hcz10_2
                try clear hcz10_3
                try clear hcz12_0
                try clear hcz12_1
                try clear hcz12_2
                try clear hcz12_3
                try clear hcz14_0
                try clear hcz14_1
                try clear hcz14_2
                try clear hcz14_3
                try clear hcz18_0
                try clear hcz18_1
                try clear hcz18_2
                try clear hcz18_3
                try clear hcz20_0
                try clear hcz20_1
                try clear hcz20_2
                try clear hcz20_3
                try clear hcz23_0
                try clear hcz23_1
                try clear hcz23_2
                try clear hcz23_3
                try clear hcz25_0
                try clear hcz25_1
                try clear hcz25_2
                try clear hcz25_3
                try clear hcz26_0
                try clear hcz26_1
                try clear hcz26_2
                try clear hcz26_3
                try clear hcz8_0
                try clear hcz8_1
                try clear hcz8_2
                try clear hcz8_3
                try clear hfz10_0
                try clear hfz10_1
                try clear hfz10_2
                try clear hfz10_3
                try clear hfz12_0
                try clear hfz12_1
                try clear hfz12_2
                try clear hfz12_3
                try clear hfz14_0
                try clear hfz14_1
                try clear hfz14_2
                try clear hfz14_3
                try clear hfz18_0
                try clear hfz18_1
                try clear hfz18_2
                try clear hfz18_3
                try clear hfz20_0
                try clear hfz20_1
                try clear hfz20_2
                try clear hfz20_3
                try clear hfz23_0
                try clear hfz23_1
                try clear hfz23_2
                try clear hfz23_3
                try clear hfz25_0
                try clear hfz25_1
                try clear hfz25_2
                try clear hfz25_3
                try clear hfz26_0
                try clear hfz26_1
                try clear hfz26_2
                try clear hfz26_3
                try clear hfz8_0
                try clear hfz8_1
                try clear hfz8_2
                try clear hfz8_3
                try clear p2
                obtain ⟨kq, x53_21, rfl, HA, HJ21, BK246, HB⟩ := hcut
                cases kq with
                | zero => exact absurd HA.out (by simp [provisoref16_Check.j1])
                | succ kj21 =>
                  have H := HA.out
                  clear HA
                  simp only [provisoref16_Check.j1] at H
                  by_cases c27 : x53_21 = true
                  · subst c27
                    have H1 : (some (0, 162)) = some (r1, r2) := by rw [if_pos rfl] at H; exact H
                    clear H
                    have H := H1
                    clear H1
                    simp only [Option.some.injEq, Prod.mk.injEq] at H
                    obtain ⟨rfl, rfl⟩ := H
                    go_wp2
                    go_ret2
                    exact ⟨by first | rfl | (simp [errW_none, errW_some] <;> rfl) | (simp [*, errW_none, errW_some] <;> rfl), by repeat (first | (with_reducible first | exact HB.out | apply bal | apply pbd | apply bdr | refine below_set ?_ GE246.out) | exact HB.out)⟩
                  · replace c27 := Bool.eq_false_iff.mpr c27
                    subst c27
                    have H1 : (provisoref16_Check.l1 kj21 0 a0_0 l0_1 l0_2 l0_3) = some (r1, r2) := by rw [if_neg (show ¬ (false = true) by decide)] at H; exact H
                    clear H
                    have H := H1
                    clear H1
                    have H' := amk H
                    clear H
                    go_wp2
                    go_loopg [8] kj21 (fun kq v8 w' => ∃ (x8_3 : Int), v8 = .int .i64 x8_3 ∧ Aside0 (provisoref16_Check.l1 kq x8_3 a0_0 l0_1 l0_2 l0_3 = some (r1, r2)) ∧ Aside0 (kq ≤ kj21) ∧ Aside0 (w'.heap[gb246]? = some (.cells #[.string a0_0, (.slice A0_1 l0_1.length c0_1), (.slice A0_2 l0_2.length c0_2), (.slice A0_3 l0_3.length c0_3)] 26 (0, 0))) ∧ Aside0 (Below w.heap.size w w'))
                    case atStart => exact ⟨(0), (by first | rfl | (simp; done) | (simp [*]; done)), H', ⟨Nat.le_refl _⟩, ⟨by (with_reducible repeat (first | refine bkd ?_ _ | refine blk_drew ?_ | refine bka ?_ _)); exact BK246.out⟩, ⟨by repeat (first | (with_reducible first | exact HB.out | apply bal | apply pbd | apply bdr | refine below_set ?_ GE246.out) | exact HB.out)⟩⟩
                    case round =>
                      clear H'
                      try clear c1
                      try clear c2
                      try clear p2
                      try clear c3
                      try clear c4
                      try clear c5
                      try clear c5b0
                      try clear c5b1
                      try clear c6
                      try clear c6b0
                      try clear c6b1
                      try clear p6
                      try clear c15
                      try clear c15b0
                      try clear c16
                      try clear c17
                      try clear c17b0
                      try clear c17b1
                      try clear c24
                      try clear c24b0
                      try clear c24b1
                      try clear c27
                      try clear hcz10_0
                      try clear hcz10_1
                      try clear hcz10_2
                      try clear hcz10_3
                      try clear hcz12_0
                      try clear hcz12_1
                      try clear hcz12_2
                      try clear hcz12_3
                      try clear hcz14_0
                      try clear hcz14_1
                      try clear hcz14_2
                      try clear hcz14_3
                      try clear hcz18_0
                      try clear hcz18_1
                      try clear hcz18_2
                      try clear hcz18_3
                      try clear hcz20_0
                      try clear hcz20_1
                      try clear hcz20_2
                      try clear hcz20_3
                      try clear hcz23_0
                      try clear hcz23_1
                      try clear hcz23_2
                      try clear hcz23_3
                      try clear hcz25_0
                      try clear hcz25_1
                      try clear hcz25_2
                      try clear hcz25_3
                      try clear hcz26_0
                      try clear hcz26_1
                      try clear hcz26_2
                      try clear hcz26_3
                      try clear hcz8_0
                      try clear hcz8_1
                      try clear hcz8_2
                      try clear hcz8_3
                      try clear hfz10_0
                      try clear hfz10_1
                      try clear hfz10_2
                      try clear hfz10_3
                      try clear hfz12_0
                      try clear hfz12_1
                      try clear hfz12_2
                      try clear hfz12_3
                      try clear hfz14_0
                      try clear hfz14_1
                      try clear hfz14_2
                      try clear hfz14_3
                      try clear hfz18_0
                      try clear hfz18_1
                      try clear hfz18_2
                      try clear hfz18_3
                      try clear hfz20_0
                      try clear hfz20_1
                      try clear hfz20_2
                      try clear hfz20_3
                      try clear hfz23_0
                      try clear hfz23_1
                      try clear hfz23_2
                      try clear hfz23_3
                      try clear hfz25_0
                      try clear hfz25_1
                      try clear hfz25_2
                      try clear hfz25_3
                      try clear hfz26_0
                      try clear hfz26_1
                      try clear hfz26_2
                      try clear hfz26_3
                      try clear hfz8_0
                      try clear hfz8_1
                      try clear hfz8_2
                      try clear hfz8_3
                      try clear p2
                      try clear p6
                      obtain ⟨x8_3, rfl, HA, HK3, BK246, HB⟩ := hrel
                      cases gk with
                      | zero => exact absurd HA.out (by simp [provisoref16_Check.l1])
                      | succ k3 =>
                        have H := HA.out
                        clear HA
                        simp only [provisoref16_Check.l1] at H
                        by_cases c28 : x8_3 < (l0_3.length : Int)
                        · rw [if_pos c28] at H
                          have c28b0 : decide (x8_3 < (l0_3.length : Int)) = true := decide_eq_true c28
                          clear c28
                          by_cases c29 : 0 ≤ x8_3
                          · rw [if_pos c29] at H
                            have c29b0 : decide (0 ≤ x8_3) = true := decide_eq_true c29
                            clear c29
                            by_cases c30 : ((rd_L8 l0_3 x8_3).length : Int) > 65535
                            · rw [if_pos c30] at H
                              have c30b0 : decide (65535 < ((rd_L8 l0_3 x8_3).length : Int)) = true := decide_eq_true c30
                              have c30b1 : decide (65535 < (rd_L8 l0_3 x8_3).length) = true := decide_eq_true (by omega)
                              clear c30
                              simp only [Option.some.injEq, Prod.mk.injEq] at H
                              obtain ⟨rfl, rfl⟩ := H
                              have hcz31_0 : wr.cell? ⟨gb246, 0, none⟩ = some (.string a0_0) := (blk_cell BK246.out 0).trans rfl
                              have hcz31_1 : wr.cell? ⟨gb246, 1, none⟩ = some (.slice A0_1 l0_1.length c0_1) := (blk_cell BK246.out 1).trans rfl
                              have hcz31_2 : wr.cell? ⟨gb246, 2, none⟩ = some (.slice A0_2 l0_2.length c0_2) := (blk_cell BK246.out 2).trans rfl
                              have hcz31_3 : wr.cell? ⟨gb246, 3, none⟩ = some (.slice A0_3 l0_3.length c0_3) := (blk_cell BK246.out 3).trans rfl
                              have hfz31_0 := bkf BK246.out 0
                              have hfz31_1 := bkf BK246.out 1
                              have hfz31_2 := bkf BK246.out 2
                              have hfz31_3 := bkf BK246.out 3
                              have p251 : 0 ≤ (x8_3 : Int) := of_decide_eq_true (by first | (with_reducible assumption) | assumption)
                              have q251 : x8_3 < (l0_3.length : Int) := of_decide_eq_true (by first | (with_reducible assumption) | assumption)
                              obtain ⟨ad251, A251_0, c251_0, e251, hx251_0, hl251_0, hi251_0⟩ := at_L8 HR0_3.out x8_3 p251 q251
                              cases e251
                              replace hx251_0 := (HB.out.cell (blc w _ hx251_0)).trans hx251_0
                              have HR251_0 := amk hi251_0
                              have HC251_0 := amk hl251_0
                              clear hi251_0 hl251_0
                              replace p251 := eq_true p251
                              replace q251 := eq_true q251
                              go_wp2
                              go_ret2
                              exact ⟨by first | rfl | (simp [errW_none, errW_some] <;> rfl) | (simp [*, errW_none, errW_some] <;> rfl), by repeat (first | (with_reducible first | exact HB.out | apply bal | apply pbd | apply bdr | refine below_set ?_ GE246.out) | exact HB.out)⟩
                            · rw [if_neg c30] at H
                              have c30b0 : decide (65535 < ((rd_L8 l0_3 x8_3).length : Int)) = false := decide_eq_false c30
                              have c30b1 : decide (65535 < (rd_L8 l0_3 x8_3).length) = false := decide_eq_false (by omega)
                              clear c30
                              have H' := amk H
                              clear H
                              have hcz32_0 : wr.cell? ⟨gb246, 0, none⟩ = some (.string a0_0) := (blk_cell BK246.out 0).trans rfl
                              have hcz32_1 : wr.cell? ⟨gb246, 1, none⟩ = some (.slice A0_1 l0_1.length c0_1) := (blk_cell BK246.out 1).trans rfl
                              have hcz32_2 : wr.cell? ⟨gb246, 2, none⟩ = some (.slice A0_2 l0_2.length c0_2) := (blk_cell BK246.out 2).trans rfl
                              have hcz32_3 : wr.cell? ⟨gb246, 3, none⟩ = some (.slice A0_3 l0_3.length c0_3) := (blk_cell BK246.out 3).trans rfl
                              have hfz32_0 := bkf BK246.out 0
                              have hfz32_1 := bkf BK246.out 1
                              have hfz32_2 := bkf BK246.out 2
                              have hfz32_3 := bkf BK246.out 3
                              have p251 : 0 ≤ (x8_3 : Int) := of_decide_eq_true (by first | (with_reducible assumption) | assumption)
                              have q251 : x8_3 < (l0_3.length : Int) := of_decide_eq_true (by first | (with_reducible assumption) | assumption)
                              obtain ⟨ad251, A251_0, c251_0, e251, hx251_0, hl251_0, hi251_0⟩ := at_L8 HR0_3.out x8_3 p251 q251
                              cases e251
                              replace hx251_0 := (HB.out.cell (blc w _ hx251_0)).trans hx251_0
                              have HR251_0 := amk hi251_0
                              have HC251_0 := amk hl251_0
                              clear hi251_0 hl251_0
                              replace p251 := eq_true p251
                              replace q251 := eq_true q251
                              go_wp2
                              go_roundg k3
                              case measure => have := HK1.out; have := HJ21.out; have := HK3.out; omega
                              case rel => exact ⟨(wrap64 (x8_3 + 1)), (by first | rfl | (simp; done) | (simp [*]; done)), H', ⟨by have := HK1.out; have := HJ21.out; have := HK3.out; omega⟩, ⟨by (with_reducible repeat (first | refine bkd ?_ _ | refine blk_drew ?_ | refine bka ?_ _)); exact BK246.out⟩, ⟨by repeat (first | (with_reducible first | exact HB.out | apply bal | apply pbd | apply bdr | refine below_set ?_ GE246.out) | exact HB.out)⟩⟩
                          · rw [if_neg c29] at H
                            exact absurd H (by simp)
                        · rw [if_neg c28] at H
                          have c28b0 : decide (x8_3 < (l0_3.length : Int)) = false := decide_eq_false c28
                          clear c28
                          simp only [Option.some.injEq, Prod.mk.injEq] at H
                          obtain ⟨rfl, rfl⟩ := H
                          have hcz33_0 : wr.cell? ⟨gb246, 0, none⟩ = some (.string a0_0) := (blk_cell BK246.out 0).trans rfl
                          have hcz33_1 : wr.cell? ⟨gb246, 1, none⟩ = some (.slice A0_1 l0_1.length c0_1) := (blk_cell BK246.out 1).trans rfl
                          have hcz33_2 : wr.cell? ⟨gb246, 2, none⟩ = some (.slice A0_2 l0_2.length c0_2) := (blk_cell BK246.out 2).trans rfl
                          have hcz33_3 : wr.cell? ⟨gb246, 3, none⟩ = some (.slice A0_3 l0_3.length c0_3) := (blk_cell BK246.out 3).trans rfl
                          have hfz33_0 := bkf BK246.out 0
                          have hfz33_1 := bkf BK246.out 1
                          have hfz33_2 := bkf BK246.out 2
                          have hfz33_3 := bkf BK246.out 3
                          go_wp2
                          go_ret2
                          exact ⟨by first | rfl | (simp [errW_none, errW_some] <;> rfl) | (simp [*, errW_none, errW_some] <;> rfl), by repeat (first | (with_reducible first | exact HB.out | apply bal | apply pbd | apply bdr | refine below_set ?_ GE246.out) | exact HB.out)⟩
    · rw [if_neg c5] at H
      have c5b0 : (t249 == 0) = false := beq_eq_false_iff_ne.mpr c5
      have c5b1 : (t249 != 0) = true := bne_iff_ne.mpr c5
      simp only [Option.some.injEq, Prod.mk.injEq] at H
      obtain ⟨rfl, rfl⟩ := H
      go_enter Try.func16, Try.ntmps16
      go_wp2_with (first | ((with_reducible refine gate_dst (N := 1) rfl ?_); (try (refine gate_guard (by rfl) ?_; dsimp only)); refine box_event ?hg (N := 1) ?hd (cs := #[.string a0_0, .slice A0_1 l0_1.length c0_1, .slice A0_2 l0_2.length c0_2, .slice A0_3 l0_3.length c0_3]) (t := 26) ?hr ?_; (case hd => rfl); (case hg => rfl); (case hr => first | (go_simp; done) | (go_simp; rfl)); intro gb246 hg w34 hbox hb; have n0_ := amk (below_step (by repeat (first | (with_reducible first | exact HB.out | apply bal | apply pbd | apply bdr) | exact HB.out)) hb); have n1_ := amk (hbox); have n2_ := amk ((by rw [hg]; exact (below_size (by repeat (first | (with_reducible first | exact HB.out | apply bal | apply pbd | apply bdr) | exact HB.out))) : w.heap.size ≤ gb246)); have n3_ := amk ((by rw [hg]; exact (below_size (by repeat (first | (with_reducible first | exact HB.out | apply bal | apply pbd | apply bdr) | exact HB.out))) : w.heap.size ≤ gb246)); clear HB; have HB := n0_; have BK246 := n1_; have GW246 := n2_; have GE246 := n3_; clear n0_ n1_ n2_ n3_; clear hb hbox hg; have hcz35_0 : w34.cell? ⟨gb246, 0, none⟩ = some (.string a0_0) := (blk_cell BK246.out 0).trans rfl; have hcz35_1 : w34.cell? ⟨gb246, 1, none⟩ = some (.slice A0_1 l0_1.length c0_1) := (blk_cell BK246.out 1).trans rfl; have hcz35_2 : w34.cell? ⟨gb246, 2, none⟩ = some (.slice A0_2 l0_2.length c0_2) := (blk_cell BK246.out 2).trans rfl; have hcz35_3 : w34.cell? ⟨gb246, 3, none⟩ = some (.slice A0_3 l0_3.length c0_3) := (blk_cell BK246.out 3).trans rfl; have hfz35_0 := bkf BK246.out 0; have hfz35_1 := bkf BK246.out 1; have hfz35_2 := bkf BK246.out 2; have hfz35_3 := bkf BK246.out 3) | ((with_reducible refine gate_callee (f := 40) rfl ?_); refine goesL_ (some 11) rfl rfl Try.func40 (by kernel_rfl) rfl #[.string a0_0] rfl (by (try simp only [List.map_toArray, List.map_cons, List.map_nil]); first | done | rfl | (simp only [List.length_drop, List.length_take]; rfl)) ?_; (with_reducible refine (provisoref02_IsName.calls k a0_0 true _ A2.out).mono ?_); rintro e w' ⟨rfl, ⟨nd, rfl⟩⟩; refine ⟨_, rfl, ?_⟩) | ((with_reducible refine gate_callee (f := 41) rfl ?_); refine goesL_ (some 16) rfl rfl Try.func41 (by kernel_rfl) rfl #[.slice A0_1 l0_1.length c0_1] rfl (by (try simp only [List.map_toArray, List.map_cons, List.map_nil]); first | done | rfl | (simp only [List.length_drop, List.length_take]; rfl)) ?_; (with_reducible refine (provisoref02_Check.calls k _ _ l0_1 t248 t249 _ ?side1 ?side2 A4.out).mono ?_); (case side1 => repeat (first | exact (Kd.C_below HR0_1.out (by repeat (first | (with_reducible first | exact HB.out | apply bal | apply pbd | apply bdr | refine below_set ?_ GE246.out) | exact HB.out))) | (with_reducible refine Kd.C_alloc ?_ _) | (with_reducible refine Kd.C_drewN ?_ _) | (with_reducible refine Kd.C_drew ?_))); (case side2 => exact HC0_1.out); rintro e w36 ⟨rfl, hb⟩; refine ⟨_, rfl, ?_⟩; have n0_ := amk (blk_below (g := gb246) (o := .cells #[.string a0_0, .slice A0_1 l0_1.length c0_1, .slice A0_2 l0_2.length c0_2, .slice A0_3 l0_3.length c0_3] 26 (0, 0)) (by (with_reducible repeat (first | refine bkd ?_ _ | refine blk_drew ?_ | refine bka ?_ _)); exact BK246.out) hb); have n1_ := amk (below_step (by repeat (first | (with_reducible first | exact HB.out | apply bal | apply pbd | apply bdr | refine below_set ?_ GE246.out) | exact HB.out)) hb); clear BK246; clear HB; have BK246 := n0_; have HB := n1_; clear n0_ n1_; (try clear hb); (try clear hb2); (try clear hk); (try clear hi)))
      go_ret2
      exact ⟨by first | rfl | (simp [errW_none, errW_some] <;> rfl) | (simp [*, errW_none, errW_some] <;> rfl), by repeat (first | (with_reducible first | exact HB.out | apply bal | apply pbd | apply bdr | refine below_set ?_ GE246.out) | exact HB.out)⟩
  · replace c3 := Bool.eq_false_iff.mpr c3
    subst c3
    have H1 : (some (0, 6)) = some (r1, r2) := by rw [if_neg (show ¬ (false = true) by decide)] at H; exact H
    clear H
    have H := H1
    clear H1
    simp only [Option.some.injEq, Prod.mk.injEq] at H
    obtain ⟨rfl, rfl⟩ := H
    go_enter Try.func16, Try.ntmps16
    go_wp2_with (first | ((with_reducible refine gate_dst (N := 1) rfl ?_); (try (refine gate_guard (by rfl) ?_; dsimp only)); refine box_event ?hg (N := 1) ?hd (cs := #[.string a0_0, .slice A0_1 l0_1.length c0_1, .slice A0_2 l0_2.length c0_2, .slice A0_3 l0_3.length c0_3]) (t := 26) ?hr ?_; (case hd => rfl); (case hg => rfl); (case hr => first | (go_simp; done) | (go_simp; rfl)); intro gb246 hg w37 hbox hb; have n0_ := amk (below_step (by repeat (first | (with_reducible first | exact HB.out | apply bal | apply pbd | apply bdr) | exact HB.out)) hb); have n1_ := amk (hbox); have n2_ := amk ((by rw [hg]; exact (below_size (by repeat (first | (with_reducible first | exact HB.out | apply bal | apply pbd | apply bdr) | exact HB.out))) : w.heap.size ≤ gb246)); have n3_ := amk ((by rw [hg]; exact (below_size (by repeat (first | (with_reducible first | exact HB.out | apply bal | apply pbd | apply bdr) | exact HB.out))) : w.heap.size ≤ gb246)); clear HB; have HB := n0_; have BK246 := n1_; have GW246 := n2_; have GE246 := n3_; clear n0_ n1_ n2_ n3_; clear hb hbox hg; have hcz38_0 : w37.cell? ⟨gb246, 0, none⟩ = some (.string a0_0) := (blk_cell BK246.out 0).trans rfl; have hcz38_1 : w37.cell? ⟨gb246, 1, none⟩ = some (.slice A0_1 l0_1.length c0_1) := (blk_cell BK246.out 1).trans rfl; have hcz38_2 : w37.cell? ⟨gb246, 2, none⟩ = some (.slice A0_2 l0_2.length c0_2) := (blk_cell BK246.out 2).trans rfl; have hcz38_3 : w37.cell? ⟨gb246, 3, none⟩ = some (.slice A0_3 l0_3.length c0_3) := (blk_cell BK246.out 3).trans rfl; have hfz38_0 := bkf BK246.out 0; have hfz38_1 := bkf BK246.out 1; have hfz38_2 := bkf BK246.out 2; have hfz38_3 := bkf BK246.out 3) | ((with_reducible refine gate_callee (f := 40) rfl ?_); refine goesL_ (some 11) rfl rfl Try.func40 (by kernel_rfl) rfl #[.string a0_0] rfl (by (try simp only [List.map_toArray, List.map_cons, List.map_nil]); first | done | rfl | (simp only [List.length_drop, List.length_take]; rfl)) ?_; (with_reducible refine (provisoref02_IsName.calls k a0_0 false _ A2.out).mono ?_); rintro e w' ⟨rfl, ⟨nd, rfl⟩⟩; refine ⟨_, rfl, ?_⟩))
    go_ret2
    exact ⟨by first | rfl | (simp [errW_none, errW_some] <;> rfl) | (simp [*, errW_none, errW_some] <;> rfl), by repeat (first | (with_reducible first | exact HB.out | apply bal | apply pbd | apply bdr | refine below_set ?_ GE246.out) | exact HB.out)⟩

def provisolaw16_ModuleChecks.f (k : Nat) (a0_0 : ByteArray) (l0_1 : List (S64)) (l0_2 : List (S49)) (l0_3 : List (List Int)) : Option (Bool) := (provisoplain_Module.f k a0_0 l0_1 l0_2 l0_3).bind fun bt253 => ((module_Check.f k bt253.1 bt253.2.1 bt253.2.2.1 bt253.2.2.2).bind fun bt264 => ((provisoref16_Check.f k a0_0 l0_1 l0_2 l0_3).bind fun bt266 => (if bt264.1 = bt266.1 then (if bt264.2 = bt266.2 then ((provisoplain_SameModule.f k bt253.1 bt253.2.1 bt253.2.2.1 bt253.2.2.2 a0_0 l0_1 l0_2 l0_3).bind fun t268 => (some t268)) else (some false)) else (some false))))
set_option maxHeartbeats 8000000 in
set_option maxRecDepth 100000 in
theorem provisolaw16_ModuleChecks.calls (k : Nat) (a0_0 : ByteArray) (A0_1 : Option Addr) (c0_1 : Nat) (l0_1 : List (S64)) (A0_2 : Option Addr) (c0_2 : Nat) (l0_2 : List (S49)) (A0_3 : Option Addr) (c0_3 : Nat) (l0_3 : List (List Int)) (r : Bool) (w : World) (hr0_1 : Kd.C k64 w A0_1 l0_1.length l0_1) (hc0_1 : l0_1.length ≤ c0_1) (hr0_2 : Kd.C k49 w A0_2 l0_2.length l0_2) (hc0_2 : l0_2.length ≤ c0_2) (hr0_3 : Kd.C (Kd.slice 5 (Kd.int .u8)) w A0_3 l0_3.length l0_3) (hc0_3 : l0_3.length ≤ c0_3) (h : provisolaw16_ModuleChecks.f k a0_0 l0_1 l0_2 l0_3 = some r) :
    Calls Try.prog 4 #[.agg #[.string a0_0, .slice A0_1 l0_1.length c0_1, .slice A0_2 l0_2.length c0_2, .slice A0_3 l0_3.length c0_3]] w fun e w' => e = .returned (.bool r) ∧ Below w.heap.size w w' := by
  have hu26 := Try.underlying26
  have HR0_1 := amk hr0_1
  have HC0_1 := amk hc0_1
  clear hr0_1 hc0_1
  have HR0_2 := amk hr0_2
  have HC0_2 := amk hc0_2
  clear hr0_2 hc0_2
  have HR0_3 := amk hr0_3
  have HC0_3 := amk hc0_3
  clear hr0_3 hc0_3
  have HB := amk (Below.refl w.heap.size w)
  have H : ((provisoplain_Module.f k a0_0 l0_1 l0_2 l0_3).bind fun bt253 => ((module_Check.f k bt253.1 bt253.2.1 bt253.2.2.1 bt253.2.2.2).bind fun bt264 => ((provisoref16_Check.f k a0_0 l0_1 l0_2 l0_3).bind fun bt266 => (if bt264.1 = bt266.1 then (if bt264.2 = bt266.2 then ((provisoplain_SameModule.f k bt253.1 bt253.2.1 bt253.2.2.1 bt253.2.2.2 a0_0 l0_1 l0_2 l0_3).bind fun t268 => (some t268)) else (some false)) else (some false))))) = some r := h
  clear h
  replace H := Option.bind_eq_some_iff.mp H
  obtain ⟨⟨t253, t254, t257, t260⟩, A20, H⟩ := H
  replace H : ((module_Check.f k t253 t254 t257 t260).bind fun bt264 => ((provisoref16_Check.f k a0_0 l0_1 l0_2 l0_3).bind fun bt266 => (if bt264.1 = bt266.1 then (if bt264.2 = bt266.2 then ((provisoplain_SameModule.f k t253 t254 t257 t260 a0_0 l0_1 l0_2 l0_3).bind fun t268 => (some t268)) else (some false)) else (some false)))) = some r := H
  have A2 := amk A20
  clear A20
  replace H := Option.bind_eq_some_iff.mp H
  obtain ⟨⟨t264, t265⟩, A30, H⟩ := H
  replace H : ((provisoref16_Check.f k a0_0 l0_1 l0_2 l0_3).bind fun bt266 => (if t264 = bt266.1 then (if t265 = bt266.2 then ((provisoplain_SameModule.f k t253 t254 t257 t260 a0_0 l0_1 l0_2 l0_3).bind fun t268 => (some t268)) else (some false)) else (some false))) = some r := H
  have A3 := amk A30
  clear A30
  replace H := Option.bind_eq_some_iff.mp H
  obtain ⟨⟨t266, t267⟩, A40, H⟩ := H
  replace H : (if t264 = t266 then (if t265 = t267 then ((provisoplain_SameModule.f k t253 t254 t257 t260 a0_0 l0_1 l0_2 l0_3).bind fun t268 => (some t268)) else (some false)) else (some false)) = some r := H
  have A4 := amk A40
  clear A40
  by_cases c5 : t264 = t266
  · rw [if_pos c5] at H
    have c5b0 : (t264 == t266) = true := beq_iff_eq.mpr c5
    have c5b1 : (t264 != t266) = false := bne_eq_false_iff_eq.mpr c5
    clear c5
    by_cases c6 : t265 = t267
    · rw [if_pos c6] at H
      have c6b0 : (t265 == t267) = true := beq_iff_eq.mpr c6
      have c6b1 : (t265 != t267) = false := bne_eq_false_iff_eq.mpr c6
      clear c6
      replace H := Option.bind_eq_some_iff.mp H
      obtain ⟨t268, A70, H⟩ := H
      replace H : (some t268) = some r := H
      have A7 := amk A70
      clear A70
      obtain rfl := Option.some.inj H
      go_enter Try.func4, Try.ntmps4
      go_wp2_with (first | ((with_reducible refine gate_dst (N := 1) rfl ?_); refine box_event ?hg (N := 1) ?hd (cs := #[.string a0_0, .slice A0_1 l0_1.length c0_1, .slice A0_2 l0_2.length c0_2, .slice A0_3 l0_3.length c0_3]) (t := 26) ?hr ?_; (case hd => rfl); (case hg => rfl); (case hr => first | (go_simp; done) | (go_simp; rfl)); intro gb252 hg w8 hbox hb; have n0_ := amk (below_step (by repeat (first | (with_reducible first | exact HB.out | apply bal | apply pbd | apply bdr) | exact HB.out)) hb); have n1_ := amk (hbox); have n2_ := amk ((by rw [hg]; exact (below_size (by repeat (first | (with_reducible first | exact HB.out | apply bal | apply pbd | apply bdr) | exact HB.out))) : w.heap.size ≤ gb252)); have n3_ := amk ((by rw [hg]; exact (below_size (by repeat (first | (with_reducible first | exact HB.out | apply bal | apply pbd | apply bdr) | exact HB.out))) : w.heap.size ≤ gb252)); clear HB; have HB := n0_; have BK252 := n1_; have GW252 := n2_; have GE252 := n3_; clear n0_ n1_ n2_ n3_; clear hb hbox hg; have hcz9_0 : w8.cell? ⟨gb252, 0, none⟩ = some (.string a0_0) := (blk_cell BK252.out 0).trans rfl; have hcz9_1 : w8.cell? ⟨gb252, 1, none⟩ = some (.slice A0_1 l0_1.length c0_1) := (blk_cell BK252.out 1).trans rfl; have hcz9_2 : w8.cell? ⟨gb252, 2, none⟩ = some (.slice A0_2 l0_2.length c0_2) := (blk_cell BK252.out 2).trans rfl; have hcz9_3 : w8.cell? ⟨gb252, 3, none⟩ = some (.slice A0_3 l0_3.length c0_3) := (blk_cell BK252.out 3).trans rfl; have hfz9_0 := bkf BK252.out 0; have hfz9_1 := bkf BK252.out 1; have hfz9_2 := bkf BK252.out 2; have hfz9_3 := bkf BK252.out 3) | ((with_reducible refine gate_callee (f := 12) rfl ?_); refine goesL_ (some 9) rfl rfl Try.func12 (by kernel_rfl) rfl #[.agg #[.string a0_0, .slice A0_1 l0_1.length c0_1, .slice A0_2 l0_2.length c0_2, .slice A0_3 l0_3.length c0_3]] rfl (by (try simp only [List.map_toArray, List.map_cons, List.map_nil]); first | done | rfl | (simp only [List.length_drop, List.length_take]; rfl)) ?_; (with_reducible refine (provisoplain_Module.calls k a0_0 _ _ l0_1 _ _ l0_2 _ _ l0_3 t253 t254 t257 t260 _ ?side1 ?side2 ?side3 ?side4 ?side5 ?side6 A2.out).mono ?_); (case side1 => repeat (first | exact (Kd.C_below HR0_1.out HB.out) | (with_reducible refine Kd.C_alloc ?_ _) | (with_reducible refine Kd.C_drewN ?_ _) | (with_reducible refine Kd.C_drew ?_))); (case side2 => exact HC0_1.out); (case side3 => repeat (first | exact (Kd.C_below HR0_2.out HB.out) | (with_reducible refine Kd.C_alloc ?_ _) | (with_reducible refine Kd.C_drewN ?_ _) | (with_reducible refine Kd.C_drew ?_))); (case side4 => exact HC0_2.out); (case side5 => repeat (first | exact (Kd.C_below HR0_3.out HB.out) | (with_reducible refine Kd.C_alloc ?_ _) | (with_reducible refine Kd.C_drewN ?_ _) | (with_reducible refine Kd.C_drew ?_))); (case side6 => exact HC0_3.out); rintro e w10 ⟨v255, v258, v261, rfl, ho0, ho1, ho2, hb⟩; refine ⟨_, rfl, ?_⟩; have n0_ := amk (Kd.S_lower ho0 (below_size (by repeat (first | (with_reducible first | exact HB.out | apply bal | apply pbd | apply bdr | refine below_set ?_ GE252.out) | exact HB.out)))); have n1_ := amk (Kd.S_lower ho1 (below_size (by repeat (first | (with_reducible first | exact HB.out | apply bal | apply pbd | apply bdr | refine below_set ?_ GE252.out) | exact HB.out)))); have n2_ := amk (Kd.S_lower ho2 (below_size (by repeat (first | (with_reducible first | exact HB.out | apply bal | apply pbd | apply bdr | refine below_set ?_ GE252.out) | exact HB.out)))); have n3_ := amk (blk_below (g := gb252) (o := .cells #[.string a0_0, .slice A0_1 l0_1.length c0_1, .slice A0_2 l0_2.length c0_2, .slice A0_3 l0_3.length c0_3] 26 (0, 0)) (by (with_reducible repeat (first | refine bkd ?_ _ | refine blk_drew ?_ | refine bka ?_ _)); exact BK252.out) hb); have n4_ := amk (below_step (by repeat (first | (with_reducible first | exact HB.out | apply bal | apply pbd | apply bdr | refine below_set ?_ GE252.out) | exact HB.out)) hb); clear BK252; clear HB; have HO256 := n0_; have HO259 := n1_; have HO262 := n2_; have BK252 := n3_; have HB := n4_; clear n0_ n1_ n2_ n3_ n4_; (try clear hb); (try clear hb2); (try clear hk); (try clear hi); (try clear ho0); (try clear ho1); (try clear ho2)) | ((with_reducible refine gate_dst (N := 3) rfl ?_); refine box_event ?hg (N := 3) ?hd (cs := #[.string (⟨#[]⟩ : ByteArray), .slice none 0 0, .slice none 0 0, .slice none 0 0]) (t := 26) ?hr ?_; (case hd => rfl); (case hg => rfl); (case hr => first | (go_simp; done) | (go_simp; rfl)); intro gb263 hg w11 hbox hb; have n0_ := amk (Kd.S_below (by (with_reducible repeat (first | apply Kd.S_alloc | apply Kd.S_drewN | apply Kd.S_drew)); exact HO256.out) hb); have n1_ := amk (Kd.S_below (by (with_reducible repeat (first | apply Kd.S_alloc | apply Kd.S_drewN | apply Kd.S_drew)); exact HO259.out) hb); have n2_ := amk (Kd.S_below (by (with_reducible repeat (first | apply Kd.S_alloc | apply Kd.S_drewN | apply Kd.S_drew)); exact HO262.out) hb); have n3_ := amk (blk_below (g := gb252) (o := .cells #[.string a0_0, .slice A0_1 l0_1.length c0_1, .slice A0_2 l0_2.length c0_2, .slice A0_3 l0_3.length c0_3] 26 (0, 0)) (by (with_reducible repeat (first | refine bkd ?_ _ | refine blk_drew ?_ | refine bka ?_ _)); exact BK252.out) hb); have n4_ := amk (below_step (by repeat (first | (with_reducible first | exact HB.out | apply bal | apply pbd | apply bdr | refine below_set ?_ GE252.out) | exact HB.out)) hb); have n5_ := amk (hbox); have n6_ := amk ((by rw [hg]; exact (below_size (by repeat (first | (with_reducible first | exact HB.out | apply bal | apply pbd | apply bdr | refine below_set ?_ GE252.out) | exact HB.out))) : w.heap.size ≤ gb263)); have n7_ := amk ((by rw [hg]; exact (below_size (by repeat (first | (with_reducible first | exact HB.out | apply bal | apply pbd | apply bdr | refine below_set ?_ GE252.out) | exact HB.out))) : w.heap.size ≤ gb263)); have n8_ := amk ((by rw [hg]; exact Nat.ne_of_lt (blk_lt (g := gb252) (o := .cells #[.string a0_0, .slice A0_1 l0_1.length c0_1, .slice A0_2 l0_2.length c0_2, .slice A0_3 l0_3.length c0_3] 26 (0, 0)) (by (with_reducible repeat (first | refine bkd ?_ _ | refine blk_drew ?_ | refine bka ?_ _)); exact BK252.out)) : gb252 ≠ gb263)); have n9_ := amk ((by rw [hg]; exact Nat.ne_of_gt (blk_lt (g := gb252) (o := .cells #[.string a0_0, .slice A0_1 l0_1.length c0_1, .slice A0_2 l0_2.length c0_2, .slice A0_3 l0_3.length c0_3] 26 (0, 0)) (by (with_reducible repeat (first | refine bkd ?_ _ | refine blk_drew ?_ | refine bka ?_ _)); exact BK252.out)) : gb263 ≠ gb252)); clear HO256; clear HO259; clear HO262; clear BK252; clear HB; have HO256 := n0_; have HO259 := n1_; have HO262 := n2_; have BK252 := n3_; have HB := n4_; have BK263 := n5_; have GW263 := n6_; have GE263 := n7_; have NB252_263 := n8_; have NB263_252 := n9_; clear n0_ n1_ n2_ n3_ n4_ n5_ n6_ n7_ n8_ n9_; clear hb hbox hg; have hnb12 := NB263_252.out; have hnc12 := NB252_263.out; have hcz13_0 : w11.cell? ⟨gb263, 0, none⟩ = some (.string (⟨#[]⟩ : ByteArray)) := (blk_cell BK263.out 0).trans rfl; have hcz13_1 : w11.cell? ⟨gb263, 1, none⟩ = some (.slice none 0 0) := (blk_cell BK263.out 1).trans rfl; have hcz13_2 : w11.cell? ⟨gb263, 2, none⟩ = some (.slice none 0 0) := (blk_cell BK263.out 2).trans rfl; have hcz13_3 : w11.cell? ⟨gb263, 3, none⟩ = some (.slice none 0 0) := (blk_cell BK263.out 3).trans rfl; have hfz13_0 := bkf BK263.out 0; have hfz13_1 := bkf BK263.out 1; have hfz13_2 := bkf BK263.out 2; have hfz13_3 := bkf BK263.out 3; obtain ⟨Ao14, co14, eo14⟩ := Kd.S_slice HO256.out; subst eo14; obtain ⟨Ao15, co15, eo15⟩ := Kd.S_slice HO259.out; subst eo15; obtain ⟨Ao16, co16, eo16⟩ := Kd.S_slice HO262.out; subst eo16) | ((with_reducible refine gate_callee (f := 15) rfl ?_); refine goesL_ (some 12) rfl rfl Try.func15 (by kernel_rfl) rfl #[.agg #[.string t253, .slice Ao14 t254.length co14, .slice Ao15 t257.length co15, .slice Ao16 t260.length co16]] rfl (by (try simp only [List.map_toArray, List.map_cons, List.map_nil]); first | done | rfl | (simp only [List.length_drop, List.length_take]; rfl)) ?_; (with_reducible refine (module_Check.calls k t253 _ _ t254 _ _ t257 _ _ t260 t264 t265 _ ?side1 ?side2 ?side3 ?side4 ?side5 ?side6 A3.out).mono ?_); (case side1 => refine (Kd.S_reads' (e := 64) (base := w.heap.size) (ok := fun k_ => True) (n := t254.length) (c := co14) ?_).2.2; exact (by (with_reducible repeat (first | apply Kd.S_alloc | apply Kd.S_drewN | apply Kd.S_drew)); exact (Kd.S_mono (Kd.S_far (p := ⟨gb263, 3, none⟩) (Kd.S_far (p := ⟨gb263, 2, none⟩) (Kd.S_far (p := ⟨gb263, 1, none⟩) (Kd.S_far (p := ⟨gb263, 0, none⟩) (Kd.S_types HO256.out BK263.out (by decide)) (fun _ hk => hk.2) (.string t253)) (fun _ hk => hk.2) (.slice Ao14 t254.length co14)) (fun _ hk => hk.2) (.slice Ao15 t257.length co15)) (fun _ hk => hk.2) (.slice Ao16 t260.length co16)) (fun _ h_ => h_.1)))); (case side2 => exact (Kd.S_reads' HO256.out).2.1); (case side3 => refine (Kd.S_reads' (e := 49) (base := w.heap.size) (ok := fun k_ => True) (n := t257.length) (c := co15) ?_).2.2; exact (by (with_reducible repeat (first | apply Kd.S_alloc | apply Kd.S_drewN | apply Kd.S_drew)); exact (Kd.S_mono (Kd.S_far (p := ⟨gb263, 3, none⟩) (Kd.S_far (p := ⟨gb263, 2, none⟩) (Kd.S_far (p := ⟨gb263, 1, none⟩) (Kd.S_far (p := ⟨gb263, 0, none⟩) (Kd.S_types HO259.out BK263.out (by decide)) (fun _ hk => hk.2) (.string t253)) (fun _ hk => hk.2) (.slice Ao14 t254.length co14)) (fun _ hk => hk.2) (.slice Ao15 t257.length co15)) (fun _ hk => hk.2) (.slice Ao16 t260.length co16)) (fun _ h_ => h_.1)))); (case side4 => exact (Kd.S_reads' HO259.out).2.1); (case side5 => refine (Kd.S_reads' (e := 36) (base := w.heap.size) (ok := fun k_ => True) (n := t260.length) (c := co16) ?_).2.2; exact (by (with_reducible repeat (first | apply Kd.S_alloc | apply Kd.S_drewN | apply Kd.S_drew)); exact (Kd.S_mono (Kd.S_far (p := ⟨gb263, 3, none⟩) (Kd.S_far (p := ⟨gb263, 2, none⟩) (Kd.S_far (p := ⟨gb263, 1, none⟩) (Kd.S_far (p := ⟨gb263, 0, none⟩) (Kd.S_types HO262.out BK263.out (by decide)) (fun _ hk => hk.2) (.string t253)) (fun _ hk => hk.2) (.slice Ao14 t254.length co14)) (fun _ hk => hk.2) (.slice Ao15 t257.length co15)) (fun _ hk => hk.2) (.slice Ao16 t260.length co16)) (fun _ h_ => h_.1)))); (case side6 => exact (Kd.S_reads' HO262.out).2.1); rintro e w17 ⟨rfl, hb⟩; refine ⟨_, rfl, ?_⟩; have n0_ := amk (Kd.S_below (by (with_reducible repeat (first | apply Kd.S_alloc | apply Kd.S_drewN | apply Kd.S_drew)); exact (Kd.S_mono (Kd.S_far (p := ⟨gb263, 3, none⟩) (Kd.S_far (p := ⟨gb263, 2, none⟩) (Kd.S_far (p := ⟨gb263, 1, none⟩) (Kd.S_far (p := ⟨gb263, 0, none⟩) (Kd.S_types HO256.out BK263.out (by decide)) (fun _ hk => hk.2) (.string t253)) (fun _ hk => hk.2) (.slice Ao14 t254.length co14)) (fun _ hk => hk.2) (.slice Ao15 t257.length co15)) (fun _ hk => hk.2) (.slice Ao16 t260.length co16)) (fun _ h_ => h_.1))) hb); have n1_ := amk (Kd.S_below (by (with_reducible repeat (first | apply Kd.S_alloc | apply Kd.S_drewN | apply Kd.S_drew)); exact (Kd.S_mono (Kd.S_far (p := ⟨gb263, 3, none⟩) (Kd.S_far (p := ⟨gb263, 2, none⟩) (Kd.S_far (p := ⟨gb263, 1, none⟩) (Kd.S_far (p := ⟨gb263, 0, none⟩) (Kd.S_types HO259.out BK263.out (by decide)) (fun _ hk => hk.2) (.string t253)) (fun _ hk => hk.2) (.slice Ao14 t254.length co14)) (fun _ hk => hk.2) (.slice Ao15 t257.length co15)) (fun _ hk => hk.2) (.slice Ao16 t260.length co16)) (fun _ h_ => h_.1))) hb); have n2_ := amk (Kd.S_below (by (with_reducible repeat (first | apply Kd.S_alloc | apply Kd.S_drewN | apply Kd.S_drew)); exact (Kd.S_mono (Kd.S_far (p := ⟨gb263, 3, none⟩) (Kd.S_far (p := ⟨gb263, 2, none⟩) (Kd.S_far (p := ⟨gb263, 1, none⟩) (Kd.S_far (p := ⟨gb263, 0, none⟩) (Kd.S_types HO262.out BK263.out (by decide)) (fun _ hk => hk.2) (.string t253)) (fun _ hk => hk.2) (.slice Ao14 t254.length co14)) (fun _ hk => hk.2) (.slice Ao15 t257.length co15)) (fun _ hk => hk.2) (.slice Ao16 t260.length co16)) (fun _ h_ => h_.1))) hb); have n3_ := amk (blk_below (g := gb252) (o := .cells #[.string a0_0, .slice A0_1 l0_1.length c0_1, .slice A0_2 l0_2.length c0_2, .slice A0_3 l0_3.length c0_3] 26 (0, 0)) (by (with_reducible repeat (first | refine bkd ?_ _ | refine blk_drew ?_ | refine bka ?_ _)); refine blk_far ?_ NB252_263.out _; (with_reducible repeat (first | refine bkd ?_ _ | refine blk_drew ?_ | refine bka ?_ _)); refine blk_far ?_ NB252_263.out _; (with_reducible repeat (first | refine bkd ?_ _ | refine blk_drew ?_ | refine bka ?_ _)); refine blk_far ?_ NB252_263.out _; (with_reducible repeat (first | refine bkd ?_ _ | refine blk_drew ?_ | refine bka ?_ _)); refine blk_far ?_ NB252_263.out _; (with_reducible repeat (first | refine bkd ?_ _ | refine blk_drew ?_ | refine bka ?_ _)); exact BK252.out) hb); have n4_ := amk (blk_below (g := gb263) (o := .cells #[.string t253, .slice Ao14 t254.length co14, .slice Ao15 t257.length co15, .slice Ao16 t260.length co16] 26 (0, 0)) (by (with_reducible repeat (first | refine bkd ?_ _ | refine blk_drew ?_ | refine bka ?_ _)); refine blk_put (cs := #[.string t253, .slice Ao14 t254.length co14, .slice Ao15 t257.length co15, .slice none 0 0]) ?_ 3 _ rfl; (with_reducible repeat (first | refine bkd ?_ _ | refine blk_drew ?_ | refine bka ?_ _)); refine blk_put (cs := #[.string t253, .slice Ao14 t254.length co14, .slice none 0 0, .slice none 0 0]) ?_ 2 _ rfl; (with_reducible repeat (first | refine bkd ?_ _ | refine blk_drew ?_ | refine bka ?_ _)); refine blk_put (cs := #[.string t253, .slice none 0 0, .slice none 0 0, .slice none 0 0]) ?_ 1 _ rfl; (with_reducible repeat (first | refine bkd ?_ _ | refine blk_drew ?_ | refine bka ?_ _)); refine blk_put (cs := #[.string (⟨#[]⟩ : ByteArray), .slice none 0 0, .slice none 0 0, .slice none 0 0]) ?_ 0 _ rfl; (with_reducible repeat (first | refine bkd ?_ _ | refine blk_drew ?_ | refine bka ?_ _)); exact BK263.out) hb); have n5_ := amk (below_step (by repeat (first | (with_reducible first | exact HB.out | apply bal | apply pbd | apply bdr | refine below_set ?_ GE252.out | refine below_set ?_ GE263.out) | exact HB.out)) hb); clear HO256; clear HO259; clear HO262; clear BK252; clear BK263; clear HB; have HO256 := n0_; have HO259 := n1_; have HO262 := n2_; have BK252 := n3_; have BK263 := n4_; have HB := n5_; clear n0_ n1_ n2_ n3_ n4_ n5_; (try clear hb); (try clear hb2); (try clear hk); (try clear hi); have hcz18_0 : w17.cell? ⟨gb252, 0, none⟩ = some (.string a0_0) := (blk_cell BK252.out 0).trans rfl; have hcz18_1 : w17.cell? ⟨gb252, 1, none⟩ = some (.slice A0_1 l0_1.length c0_1) := (blk_cell BK252.out 1).trans rfl; have hcz18_2 : w17.cell? ⟨gb252, 2, none⟩ = some (.slice A0_2 l0_2.length c0_2) := (blk_cell BK252.out 2).trans rfl; have hcz18_3 : w17.cell? ⟨gb252, 3, none⟩ = some (.slice A0_3 l0_3.length c0_3) := (blk_cell BK252.out 3).trans rfl; have hfz18_0 := bkf BK252.out 0; have hfz18_1 := bkf BK252.out 1; have hfz18_2 := bkf BK252.out 2; have hfz18_3 := bkf BK252.out 3) | ((with_reducible refine gate_callee (f := 16) rfl ?_); refine goesL_ (some 17) rfl rfl Try.func16 (by kernel_rfl) rfl #[.agg #[.string a0_0, .slice A0_1 l0_1.length c0_1, .slice A0_2 l0_2.length c0_2, .slice A0_3 l0_3.length c0_3]] rfl (by (try simp only [List.map_toArray, List.map_cons, List.map_nil]); first | done | rfl | (simp only [List.length_drop, List.length_take]; rfl)) ?_; (with_reducible refine (provisoref16_Check.calls k a0_0 _ _ l0_1 _ _ l0_2 _ _ l0_3 t266 t267 _ ?side1 ?side2 ?side3 ?side4 ?side5 ?side6 A4.out).mono ?_); (case side1 => repeat (first | exact (Kd.C_below HR0_1.out HB.out) | (with_reducible refine Kd.C_alloc ?_ _) | (with_reducible refine Kd.C_drewN ?_ _) | (with_reducible refine Kd.C_drew ?_))); (case side2 => exact HC0_1.out); (case side3 => repeat (first | exact (Kd.C_below HR0_2.out HB.out) | (with_reducible refine Kd.C_alloc ?_ _) | (with_reducible refine Kd.C_drewN ?_ _) | (with_reducible refine Kd.C_drew ?_))); (case side4 => exact HC0_2.out); (case side5 => repeat (first | exact (Kd.C_below HR0_3.out HB.out) | (with_reducible refine Kd.C_alloc ?_ _) | (with_reducible refine Kd.C_drewN ?_ _) | (with_reducible refine Kd.C_drew ?_))); (case side6 => exact HC0_3.out); rintro e w19 ⟨rfl, hb⟩; refine ⟨_, rfl, ?_⟩; have n0_ := amk (Kd.S_below (by (with_reducible repeat (first | apply Kd.S_alloc | apply Kd.S_drewN | apply Kd.S_drew)); exact HO256.out) hb); have n1_ := amk (Kd.S_below (by (with_reducible repeat (first | apply Kd.S_alloc | apply Kd.S_drewN | apply Kd.S_drew)); exact HO259.out) hb); have n2_ := amk (Kd.S_below (by (with_reducible repeat (first | apply Kd.S_alloc | apply Kd.S_drewN | apply Kd.S_drew)); exact HO262.out) hb); have n3_ := amk (blk_below (g := gb252) (o := .cells #[.string a0_0, .slice A0_1 l0_1.length c0_1, .slice A0_2 l0_2.length c0_2, .slice A0_3 l0_3.length c0_3] 26 (0, 0)) (by (with_reducible repeat (first | refine bkd ?_ _ | refine blk_drew ?_ | refine bka ?_ _)); exact BK252.out) hb); have n4_ := amk (blk_below (g := gb263) (o := .cells #[.string t253, .slice Ao14 t254.length co14, .slice Ao15 t257.length co15, .slice Ao16 t260.length co16] 26 (0, 0)) (by (with_reducible repeat (first | refine bkd ?_ _ | refine blk_drew ?_ | refine bka ?_ _)); exact BK263.out) hb); have n5_ := amk (below_step (by repeat (first | (with_reducible first | exact HB.out | apply bal | apply pbd | apply bdr | refine below_set ?_ GE252.out | refine below_set ?_ GE263.out) | exact HB.out)) hb); clear HO256; clear HO259; clear HO262; clear BK252; clear BK263; clear HB; have HO256 := n0_; have HO259 := n1_; have HO262 := n2_; have BK252 := n3_; have BK263 := n4_; have HB := n5_; clear n0_ n1_ n2_ n3_ n4_ n5_; (try clear hb); (try clear hb2); (try clear hk); (try clear hi); have hcz20_0 : w19.cell? ⟨gb263, 0, none⟩ = some (.string t253) := (blk_cell BK263.out 0).trans rfl; have hcz20_1 : w19.cell? ⟨gb263, 1, none⟩ = some (.slice Ao14 t254.length co14) := (blk_cell BK263.out 1).trans rfl; have hcz20_2 : w19.cell? ⟨gb263, 2, none⟩ = some (.slice Ao15 t257.length co15) := (blk_cell BK263.out 2).trans rfl; have hcz20_3 : w19.cell? ⟨gb263, 3, none⟩ = some (.slice Ao16 t260.length co16) := (blk_cell BK263.out 3).trans rfl; have hfz20_0 := bkf BK263.out 0; have hfz20_1 := bkf BK263.out 1; have hfz20_2 := bkf BK263.out 2; have hfz20_3 := bkf BK263.out 3; have hcz21_0 : w19.cell? ⟨gb252, 0, none⟩ = some (.string a0_0) := (blk_cell BK252.out 0).trans rfl; have hcz21_1 : w19.cell? ⟨gb252, 1, none⟩ = some (.slice A0_1 l0_1.length c0_1) := (blk_cell BK252.out 1).trans rfl; have hcz21_2 : w19.cell? ⟨gb252, 2, none⟩ = some (.slice A0_2 l0_2.length c0_2) := (blk_cell BK252.out 2).trans rfl; have hcz21_3 : w19.cell? ⟨gb252, 3, none⟩ = some (.slice A0_3 l0_3.length c0_3) := (blk_cell BK252.out 3).trans rfl; have hfz21_0 := bkf BK252.out 0; have hfz21_1 := bkf BK252.out 1; have hfz21_2 := bkf BK252.out 2; have hfz21_3 := bkf BK252.out 3) | (go_at_call 14; (with_reducible refine (provisoplain_SameModule.calls k t253 _ _ t254 _ _ t257 _ _ t260 a0_0 _ _ l0_1 _ _ l0_2 _ _ l0_3 t268 _ ?side1 ?side2 ?side3 ?side4 ?side5 ?side6 ?side7 ?side8 ?side9 ?side10 ?side11 ?side12 A7.out).mono ?_); (case side1 => repeat (first | exact (Kd.S_reads' HO256.out).2.2 | (with_reducible refine Kd.C_alloc ?_ _) | (with_reducible refine Kd.C_drewN ?_ _) | (with_reducible refine Kd.C_drew ?_))); (case side2 => exact (Kd.S_reads' HO256.out).2.1); (case side3 => repeat (first | exact (Kd.S_reads' HO259.out).2.2 | (with_reducible refine Kd.C_alloc ?_ _) | (with_reducible refine Kd.C_drewN ?_ _) | (with_reducible refine Kd.C_drew ?_))); (case side4 => exact (Kd.S_reads' HO259.out).2.1); (case side5 => repeat (first | exact (Kd.S_reads' HO262.out).2.2 | (with_reducible refine Kd.C_alloc ?_ _) | (with_reducible refine Kd.C_drewN ?_ _) | (with_reducible refine Kd.C_drew ?_))); (case side6 => exact (Kd.S_reads' HO262.out).2.1); (case side7 => repeat (first | exact (Kd.C_below HR0_1.out HB.out) | (with_reducible refine Kd.C_alloc ?_ _) | (with_reducible refine Kd.C_drewN ?_ _) | (with_reducible refine Kd.C_drew ?_))); (case side8 => exact HC0_1.out); (case side9 => repeat (first | exact (Kd.C_below HR0_2.out HB.out) | (with_reducible refine Kd.C_alloc ?_ _) | (with_reducible refine Kd.C_drewN ?_ _) | (with_reducible refine Kd.C_drew ?_))); (case side10 => exact HC0_2.out); (case side11 => repeat (first | exact (Kd.C_below HR0_3.out HB.out) | (with_reducible refine Kd.C_alloc ?_ _) | (with_reducible refine Kd.C_drewN ?_ _) | (with_reducible refine Kd.C_drew ?_))); (case side12 => exact HC0_3.out); rintro e w22 ⟨rfl, hb⟩; have n0_ := amk (Kd.S_below (by (with_reducible repeat (first | apply Kd.S_alloc | apply Kd.S_drewN | apply Kd.S_drew)); exact HO256.out) hb); have n1_ := amk (Kd.S_below (by (with_reducible repeat (first | apply Kd.S_alloc | apply Kd.S_drewN | apply Kd.S_drew)); exact HO259.out) hb); have n2_ := amk (Kd.S_below (by (with_reducible repeat (first | apply Kd.S_alloc | apply Kd.S_drewN | apply Kd.S_drew)); exact HO262.out) hb); have n3_ := amk (blk_below (g := gb252) (o := .cells #[.string a0_0, .slice A0_1 l0_1.length c0_1, .slice A0_2 l0_2.length c0_2, .slice A0_3 l0_3.length c0_3] 26 (0, 0)) (by (with_reducible repeat (first | refine bkd ?_ _ | refine blk_drew ?_ | refine bka ?_ _)); exact BK252.out) hb); have n4_ := amk (blk_below (g := gb263) (o := .cells #[.string t253, .slice Ao14 t254.length co14, .slice Ao15 t257.length co15, .slice Ao16 t260.length co16] 26 (0, 0)) (by (with_reducible repeat (first | refine bkd ?_ _ | refine blk_drew ?_ | refine bka ?_ _)); exact BK263.out) hb); have n5_ := amk (below_step (by repeat (first | (with_reducible first | exact HB.out | apply bal | apply pbd | apply bdr | refine below_set ?_ GE252.out | refine below_set ?_ GE263.out) | exact HB.out)) hb); clear HO256; clear HO259; clear HO262; clear BK252; clear BK263; clear HB; have HO256 := n0_; have HO259 := n1_; have HO262 := n2_; have BK252 := n3_; have BK263 := n4_; have HB := n5_; clear n0_ n1_ n2_ n3_ n4_ n5_; (try clear hb); (try clear hb2); (try clear hk); (try clear hi)))
      go_ret
      exact ⟨by first | rfl | (simp [errW_none, errW_some] <;> rfl) | (simp [*, errW_none, errW_some] <;> rfl), by repeat (first | (with_reducible first | exact HB.out | apply bal | apply pbd | apply bdr | refine below_set ?_ GE252.out | refine below_set ?_ GE263.out) | exact HB.out)⟩
    · rw [if_neg c6] at H
      have c6b0 : (t265 == t267) = false := beq_eq_false_iff_ne.mpr c6
      have c6b1 : (t265 != t267) = true := bne_iff_ne.mpr c6
      obtain rfl := Option.some.inj H
      go_enter Try.func4, Try.ntmps4
      go_wp2_with (first | ((with_reducible refine gate_dst (N := 1) rfl ?_); refine box_event ?hg (N := 1) ?hd (cs := #[.string a0_0, .slice A0_1 l0_1.length c0_1, .slice A0_2 l0_2.length c0_2, .slice A0_3 l0_3.length c0_3]) (t := 26) ?hr ?_; (case hd => rfl); (case hg => rfl); (case hr => first | (go_simp; done) | (go_simp; rfl)); intro gb252 hg w23 hbox hb; have n0_ := amk (below_step (by repeat (first | (with_reducible first | exact HB.out | apply bal | apply pbd | apply bdr) | exact HB.out)) hb); have n1_ := amk (hbox); have n2_ := amk ((by rw [hg]; exact (below_size (by repeat (first | (with_reducible first | exact HB.out | apply bal | apply pbd | apply bdr) | exact HB.out))) : w.heap.size ≤ gb252)); have n3_ := amk ((by rw [hg]; exact (below_size (by repeat (first | (with_reducible first | exact HB.out | apply bal | apply pbd | apply bdr) | exact HB.out))) : w.heap.size ≤ gb252)); clear HB; have HB := n0_; have BK252 := n1_; have GW252 := n2_; have GE252 := n3_; clear n0_ n1_ n2_ n3_; clear hb hbox hg; have hcz24_0 : w23.cell? ⟨gb252, 0, none⟩ = some (.string a0_0) := (blk_cell BK252.out 0).trans rfl; have hcz24_1 : w23.cell? ⟨gb252, 1, none⟩ = some (.slice A0_1 l0_1.length c0_1) := (blk_cell BK252.out 1).trans rfl; have hcz24_2 : w23.cell? ⟨gb252, 2, none⟩ = some (.slice A0_2 l0_2.length c0_2) := (blk_cell BK252.out 2).trans rfl; have hcz24_3 : w23.cell? ⟨gb252, 3, none⟩ = some (.slice A0_3 l0_3.length c0_3) := (blk_cell BK252.out 3).trans rfl; have hfz24_0 := bkf BK252.out 0; have hfz24_1 := bkf BK252.out 1; have hfz24_2 := bkf BK252.out 2; have hfz24_3 := bkf BK252.out 3) | ((with_reducible refine gate_callee (f := 12) rfl ?_); refine goesL_ (some 9) rfl rfl Try.func12 (by kernel_rfl) rfl #[.agg #[.string a0_0, .slice A0_1 l0_1.length c0_1, .slice A0_2 l0_2.length c0_2, .slice A0_3 l0_3.length c0_3]] rfl (by (try simp only [List.map_toArray, List.map_cons, List.map_nil]); first | done | rfl | (simp only [List.length_drop, List.length_take]; rfl)) ?_; (with_reducible refine (provisoplain_Module.calls k a0_0 _ _ l0_1 _ _ l0_2 _ _ l0_3 t253 t254 t257 t260 _ ?side1 ?side2 ?side3 ?side4 ?side5 ?side6 A2.out).mono ?_); (case side1 => repeat (first | exact (Kd.C_below HR0_1.out HB.out) | (with_reducible refine Kd.C_alloc ?_ _) | (with_reducible refine Kd.C_drewN ?_ _) | (with_reducible refine Kd.C_drew ?_))); (case side2 => exact HC0_1.out); (case side3 => repeat (first | exact (Kd.C_below HR0_2.out HB.out) | (with_reducible refine Kd.C_alloc ?_ _) | (with_reducible refine Kd.C_drewN ?_ _) | (with_reducible refine Kd.C_drew ?_))); (case side4 => exact HC0_2.out); (case side5 => repeat (first | exact (Kd.C_below HR0_3.out HB.out) | (with_reducible refine Kd.C_alloc ?_ _) | (with_reducible refine Kd.C_drewN ?_ _) | (with_reducible refine Kd.C_drew ?_))); (case side6 => exact HC0_3.out); rintro e w25 ⟨v255, v258, v261, rfl, ho0, ho1, ho2, hb⟩; refine ⟨_, rfl, ?_⟩; have n0_ := amk (Kd.S_lower ho0 (below_size (by repeat (first | (with_reducible first | exact HB.out | apply bal | apply pbd | apply bdr | refine below_set ?_ GE252.out) | exact HB.out)))); have n1_ := amk (Kd.S_lower ho1 (below_size (by repeat (first | (with_reducible first | exact HB.out | apply bal | apply pbd | apply bdr | refine below_set ?_ GE252.out) | exact HB.out)))); have n2_ := amk (Kd.S_lower ho2 (below_size (by repeat (first | (with_reducible first | exact HB.out | apply bal | apply pbd | apply bdr | refine below_set ?_ GE252.out) | exact HB.out)))); have n3_ := amk (blk_below (g := gb252) (o := .cells #[.string a0_0, .slice A0_1 l0_1.length c0_1, .slice A0_2 l0_2.length c0_2, .slice A0_3 l0_3.length c0_3] 26 (0, 0)) (by (with_reducible repeat (first | refine bkd ?_ _ | refine blk_drew ?_ | refine bka ?_ _)); exact BK252.out) hb); have n4_ := amk (below_step (by repeat (first | (with_reducible first | exact HB.out | apply bal | apply pbd | apply bdr | refine below_set ?_ GE252.out) | exact HB.out)) hb); clear BK252; clear HB; have HO256 := n0_; have HO259 := n1_; have HO262 := n2_; have BK252 := n3_; have HB := n4_; clear n0_ n1_ n2_ n3_ n4_; (try clear hb); (try clear hb2); (try clear hk); (try clear hi); (try clear ho0); (try clear ho1); (try clear ho2)) | ((with_reducible refine gate_dst (N := 3) rfl ?_); refine box_event ?hg (N := 3) ?hd (cs := #[.string (⟨#[]⟩ : ByteArray), .slice none 0 0, .slice none 0 0, .slice none 0 0]) (t := 26) ?hr ?_; (case hd => rfl); (case hg => rfl); (case hr => first | (go_simp; done) | (go_simp; rfl)); intro gb263 hg w26 hbox hb; have n0_ := amk (Kd.S_below (by (with_reducible repeat (first | apply Kd.S_alloc | apply Kd.S_drewN | apply Kd.S_drew)); exact HO256.out) hb); have n1_ := amk (Kd.S_below (by (with_reducible repeat (first | apply Kd.S_alloc | apply Kd.S_drewN | apply Kd.S_drew)); exact HO259.out) hb); have n2_ := amk (Kd.S_below (by (with_reducible repeat (first | apply Kd.S_alloc | apply Kd.S_drewN | apply Kd.S_drew)); exact HO262.out) hb); have n3_ := amk (blk_below (g := gb252) (o := .cells #[.string a0_0, .slice A0_1 l0_1.length c0_1, .slice A0_2 l0_2.length c0_2, .slice A0_3 l0_3.length c0_3] 26 (0, 0)) (by (with_reducible repeat (first | refine bkd ?_ _ | refine blk_drew ?_ | refine bka ?_ _)); exact BK252.out) hb); have n4_ := amk (below_step (by repeat (first | (with_reducible first | exact HB.out | apply bal | apply pbd | apply bdr | refine below_set ?_ GE252.out) | exact HB.out)) hb); have n5_ := amk (hbox); have n6_ := amk ((by rw [hg]; exact (below_size (by repeat (first | (with_reducible first | exact HB.out | apply bal | apply pbd | apply bdr | refine below_set ?_ GE252.out) | exact HB.out))) : w.heap.size ≤ gb263)); have n7_ := amk ((by rw [hg]; exact (below_size (by repeat (first | (with_reducible first | exact HB.out | apply bal | apply pbd | apply bdr | refine below_set ?_ GE252.out) | exact HB.out))) : w.heap.size ≤ gb263)); have n8_ := amk ((by rw [hg]; exact Nat.ne_of_lt (blk_lt (g := gb252) (o := .cells #[.string a0_0, .slice A0_1 l0_1.length c0_1, .slice A0_2 l0_2.length c0_2, .slice A0_3 l0_3.length c0_3] 26 (0, 0)) (by (with_reducible repeat (first | refine bkd ?_ _ | refine blk_drew ?_ | refine bka ?_ _)); exact BK252.out)) : gb252 ≠ gb263)); have n9_ := amk ((by rw [hg]; exact Nat.ne_of_gt (blk_lt (g := gb252) (o := .cells #[.string a0_0, .slice A0_1 l0_1.length c0_1, .slice A0_2 l0_2.length c0_2, .slice A0_3 l0_3.length c0_3] 26 (0, 0)) (by (with_reducible repeat (first | refine bkd ?_ _ | refine blk_drew ?_ | refine bka ?_ _)); exact BK252.out)) : gb263 ≠ gb252)); clear HO256; clear HO259; clear HO262; clear BK252; clear HB; have HO256 := n0_; have HO259 := n1_; have HO262 := n2_; have BK252 := n3_; have HB := n4_; have BK263 := n5_; have GW263 := n6_; have GE263 := n7_; have NB252_263 := n8_; have NB263_252 := n9_; clear n0_ n1_ n2_ n3_ n4_ n5_ n6_ n7_ n8_ n9_; clear hb hbox hg; have hnb27 := NB263_252.out; have hnc27 := NB252_263.out; have hcz28_0 : w26.cell? ⟨gb263, 0, none⟩ = some (.string (⟨#[]⟩ : ByteArray)) := (blk_cell BK263.out 0).trans rfl; have hcz28_1 : w26.cell? ⟨gb263, 1, none⟩ = some (.slice none 0 0) := (blk_cell BK263.out 1).trans rfl; have hcz28_2 : w26.cell? ⟨gb263, 2, none⟩ = some (.slice none 0 0) := (blk_cell BK263.out 2).trans rfl; have hcz28_3 : w26.cell? ⟨gb263, 3, none⟩ = some (.slice none 0 0) := (blk_cell BK263.out 3).trans rfl; have hfz28_0 := bkf BK263.out 0; have hfz28_1 := bkf BK263.out 1; have hfz28_2 := bkf BK263.out 2; have hfz28_3 := bkf BK263.out 3; obtain ⟨Ao29, co29, eo29⟩ := Kd.S_slice HO256.out; subst eo29; obtain ⟨Ao30, co30, eo30⟩ := Kd.S_slice HO259.out; subst eo30; obtain ⟨Ao31, co31, eo31⟩ := Kd.S_slice HO262.out; subst eo31) | ((with_reducible refine gate_callee (f := 15) rfl ?_); refine goesL_ (some 12) rfl rfl Try.func15 (by kernel_rfl) rfl #[.agg #[.string t253, .slice Ao29 t254.length co29, .slice Ao30 t257.length co30, .slice Ao31 t260.length co31]] rfl (by (try simp only [List.map_toArray, List.map_cons, List.map_nil]); first | done | rfl | (simp only [List.length_drop, List.length_take]; rfl)) ?_; (with_reducible refine (module_Check.calls k t253 _ _ t254 _ _ t257 _ _ t260 t264 t265 _ ?side1 ?side2 ?side3 ?side4 ?side5 ?side6 A3.out).mono ?_); (case side1 => refine (Kd.S_reads' (e := 64) (base := w.heap.size) (ok := fun k_ => True) (n := t254.length) (c := co29) ?_).2.2; exact (by (with_reducible repeat (first | apply Kd.S_alloc | apply Kd.S_drewN | apply Kd.S_drew)); exact (Kd.S_mono (Kd.S_far (p := ⟨gb263, 3, none⟩) (Kd.S_far (p := ⟨gb263, 2, none⟩) (Kd.S_far (p := ⟨gb263, 1, none⟩) (Kd.S_far (p := ⟨gb263, 0, none⟩) (Kd.S_types HO256.out BK263.out (by decide)) (fun _ hk => hk.2) (.string t253)) (fun _ hk => hk.2) (.slice Ao29 t254.length co29)) (fun _ hk => hk.2) (.slice Ao30 t257.length co30)) (fun _ hk => hk.2) (.slice Ao31 t260.length co31)) (fun _ h_ => h_.1)))); (case side2 => exact (Kd.S_reads' HO256.out).2.1); (case side3 => refine (Kd.S_reads' (e := 49) (base := w.heap.size) (ok := fun k_ => True) (n := t257.length) (c := co30) ?_).2.2; exact (by (with_reducible repeat (first | apply Kd.S_alloc | apply Kd.S_drewN | apply Kd.S_drew)); exact (Kd.S_mono (Kd.S_far (p := ⟨gb263, 3, none⟩) (Kd.S_far (p := ⟨gb263, 2, none⟩) (Kd.S_far (p := ⟨gb263, 1, none⟩) (Kd.S_far (p := ⟨gb263, 0, none⟩) (Kd.S_types HO259.out BK263.out (by decide)) (fun _ hk => hk.2) (.string t253)) (fun _ hk => hk.2) (.slice Ao29 t254.length co29)) (fun _ hk => hk.2) (.slice Ao30 t257.length co30)) (fun _ hk => hk.2) (.slice Ao31 t260.length co31)) (fun _ h_ => h_.1)))); (case side4 => exact (Kd.S_reads' HO259.out).2.1); (case side5 => refine (Kd.S_reads' (e := 36) (base := w.heap.size) (ok := fun k_ => True) (n := t260.length) (c := co31) ?_).2.2; exact (by (with_reducible repeat (first | apply Kd.S_alloc | apply Kd.S_drewN | apply Kd.S_drew)); exact (Kd.S_mono (Kd.S_far (p := ⟨gb263, 3, none⟩) (Kd.S_far (p := ⟨gb263, 2, none⟩) (Kd.S_far (p := ⟨gb263, 1, none⟩) (Kd.S_far (p := ⟨gb263, 0, none⟩) (Kd.S_types HO262.out BK263.out (by decide)) (fun _ hk => hk.2) (.string t253)) (fun _ hk => hk.2) (.slice Ao29 t254.length co29)) (fun _ hk => hk.2) (.slice Ao30 t257.length co30)) (fun _ hk => hk.2) (.slice Ao31 t260.length co31)) (fun _ h_ => h_.1)))); (case side6 => exact (Kd.S_reads' HO262.out).2.1); rintro e w32 ⟨rfl, hb⟩; refine ⟨_, rfl, ?_⟩; have n0_ := amk (Kd.S_below (by (with_reducible repeat (first | apply Kd.S_alloc | apply Kd.S_drewN | apply Kd.S_drew)); exact (Kd.S_mono (Kd.S_far (p := ⟨gb263, 3, none⟩) (Kd.S_far (p := ⟨gb263, 2, none⟩) (Kd.S_far (p := ⟨gb263, 1, none⟩) (Kd.S_far (p := ⟨gb263, 0, none⟩) (Kd.S_types HO256.out BK263.out (by decide)) (fun _ hk => hk.2) (.string t253)) (fun _ hk => hk.2) (.slice Ao29 t254.length co29)) (fun _ hk => hk.2) (.slice Ao30 t257.length co30)) (fun _ hk => hk.2) (.slice Ao31 t260.length co31)) (fun _ h_ => h_.1))) hb); have n1_ := amk (Kd.S_below (by (with_reducible repeat (first | apply Kd.S_alloc | apply Kd.S_drewN | apply Kd.S_drew)); exact (Kd.S_mono (Kd.S_far (p := ⟨gb263, 3, none⟩) (Kd.S_far (p := ⟨gb263, 2, none⟩) (Kd.S_far (p := ⟨gb263, 1, none⟩) (Kd.S_far (p := ⟨gb263, 0, none⟩) (Kd.S_types HO259.out BK263.out (by decide)) (fun _ hk => hk.2) (.string t253)) (fun _ hk => hk.2) (.slice Ao29 t254.length co29)) (fun _ hk => hk.2) (.slice Ao30 t257.length co30)) (fun _ hk => hk.2) (.slice Ao31 t260.length co31)) (fun _ h_ => h_.1))) hb); have n2_ := amk (Kd.S_below (by (with_reducible repeat (first | apply Kd.S_alloc | apply Kd.S_drewN | apply Kd.S_drew)); exact (Kd.S_mono (Kd.S_far (p := ⟨gb263, 3, none⟩) (Kd.S_far (p := ⟨gb263, 2, none⟩) (Kd.S_far (p := ⟨gb263, 1, none⟩) (Kd.S_far (p := ⟨gb263, 0, none⟩) (Kd.S_types HO262.out BK263.out (by decide)) (fun _ hk => hk.2) (.string t253)) (fun _ hk => hk.2) (.slice Ao29 t254.length co29)) (fun _ hk => hk.2) (.slice Ao30 t257.length co30)) (fun _ hk => hk.2) (.slice Ao31 t260.length co31)) (fun _ h_ => h_.1))) hb); have n3_ := amk (blk_below (g := gb252) (o := .cells #[.string a0_0, .slice A0_1 l0_1.length c0_1, .slice A0_2 l0_2.length c0_2, .slice A0_3 l0_3.length c0_3] 26 (0, 0)) (by (with_reducible repeat (first | refine bkd ?_ _ | refine blk_drew ?_ | refine bka ?_ _)); refine blk_far ?_ NB252_263.out _; (with_reducible repeat (first | refine bkd ?_ _ | refine blk_drew ?_ | refine bka ?_ _)); refine blk_far ?_ NB252_263.out _; (with_reducible repeat (first | refine bkd ?_ _ | refine blk_drew ?_ | refine bka ?_ _)); refine blk_far ?_ NB252_263.out _; (with_reducible repeat (first | refine bkd ?_ _ | refine blk_drew ?_ | refine bka ?_ _)); refine blk_far ?_ NB252_263.out _; (with_reducible repeat (first | refine bkd ?_ _ | refine blk_drew ?_ | refine bka ?_ _)); exact BK252.out) hb); have n4_ := amk (blk_below (g := gb263) (o := .cells #[.string t253, .slice Ao29 t254.length co29, .slice Ao30 t257.length co30, .slice Ao31 t260.length co31] 26 (0, 0)) (by (with_reducible repeat (first | refine bkd ?_ _ | refine blk_drew ?_ | refine bka ?_ _)); refine blk_put (cs := #[.string t253, .slice Ao29 t254.length co29, .slice Ao30 t257.length co30, .slice none 0 0]) ?_ 3 _ rfl; (with_reducible repeat (first | refine bkd ?_ _ | refine blk_drew ?_ | refine bka ?_ _)); refine blk_put (cs := #[.string t253, .slice Ao29 t254.length co29, .slice none 0 0, .slice none 0 0]) ?_ 2 _ rfl; (with_reducible repeat (first | refine bkd ?_ _ | refine blk_drew ?_ | refine bka ?_ _)); refine blk_put (cs := #[.string t253, .slice none 0 0, .slice none 0 0, .slice none 0 0]) ?_ 1 _ rfl; (with_reducible repeat (first | refine bkd ?_ _ | refine blk_drew ?_ | refine bka ?_ _)); refine blk_put (cs := #[.string (⟨#[]⟩ : ByteArray), .slice none 0 0, .slice none 0 0, .slice none 0 0]) ?_ 0 _ rfl; (with_reducible repeat (first | refine bkd ?_ _ | refine blk_drew ?_ | refine bka ?_ _)); exact BK263.out) hb); have n5_ := amk (below_step (by repeat (first | (with_reducible first | exact HB.out | apply bal | apply pbd | apply bdr | refine below_set ?_ GE252.out | refine below_set ?_ GE263.out) | exact HB.out)) hb); clear HO256; clear HO259; clear HO262; clear BK252; clear BK263; clear HB; have HO256 := n0_; have HO259 := n1_; have HO262 := n2_; have BK252 := n3_; have BK263 := n4_; have HB := n5_; clear n0_ n1_ n2_ n3_ n4_ n5_; (try clear hb); (try clear hb2); (try clear hk); (try clear hi); have hcz33_0 : w32.cell? ⟨gb252, 0, none⟩ = some (.string a0_0) := (blk_cell BK252.out 0).trans rfl; have hcz33_1 : w32.cell? ⟨gb252, 1, none⟩ = some (.slice A0_1 l0_1.length c0_1) := (blk_cell BK252.out 1).trans rfl; have hcz33_2 : w32.cell? ⟨gb252, 2, none⟩ = some (.slice A0_2 l0_2.length c0_2) := (blk_cell BK252.out 2).trans rfl; have hcz33_3 : w32.cell? ⟨gb252, 3, none⟩ = some (.slice A0_3 l0_3.length c0_3) := (blk_cell BK252.out 3).trans rfl; have hfz33_0 := bkf BK252.out 0; have hfz33_1 := bkf BK252.out 1; have hfz33_2 := bkf BK252.out 2; have hfz33_3 := bkf BK252.out 3) | ((with_reducible refine gate_callee (f := 16) rfl ?_); refine goesL_ (some 17) rfl rfl Try.func16 (by kernel_rfl) rfl #[.agg #[.string a0_0, .slice A0_1 l0_1.length c0_1, .slice A0_2 l0_2.length c0_2, .slice A0_3 l0_3.length c0_3]] rfl (by (try simp only [List.map_toArray, List.map_cons, List.map_nil]); first | done | rfl | (simp only [List.length_drop, List.length_take]; rfl)) ?_; (with_reducible refine (provisoref16_Check.calls k a0_0 _ _ l0_1 _ _ l0_2 _ _ l0_3 t266 t267 _ ?side1 ?side2 ?side3 ?side4 ?side5 ?side6 A4.out).mono ?_); (case side1 => repeat (first | exact (Kd.C_below HR0_1.out HB.out) | (with_reducible refine Kd.C_alloc ?_ _) | (with_reducible refine Kd.C_drewN ?_ _) | (with_reducible refine Kd.C_drew ?_))); (case side2 => exact HC0_1.out); (case side3 => repeat (first | exact (Kd.C_below HR0_2.out HB.out) | (with_reducible refine Kd.C_alloc ?_ _) | (with_reducible refine Kd.C_drewN ?_ _) | (with_reducible refine Kd.C_drew ?_))); (case side4 => exact HC0_2.out); (case side5 => repeat (first | exact (Kd.C_below HR0_3.out HB.out) | (with_reducible refine Kd.C_alloc ?_ _) | (with_reducible refine Kd.C_drewN ?_ _) | (with_reducible refine Kd.C_drew ?_))); (case side6 => exact HC0_3.out); rintro e w34 ⟨rfl, hb⟩; refine ⟨_, rfl, ?_⟩; have n0_ := amk (Kd.S_below (by (with_reducible repeat (first | apply Kd.S_alloc | apply Kd.S_drewN | apply Kd.S_drew)); exact HO256.out) hb); have n1_ := amk (Kd.S_below (by (with_reducible repeat (first | apply Kd.S_alloc | apply Kd.S_drewN | apply Kd.S_drew)); exact HO259.out) hb); have n2_ := amk (Kd.S_below (by (with_reducible repeat (first | apply Kd.S_alloc | apply Kd.S_drewN | apply Kd.S_drew)); exact HO262.out) hb); have n3_ := amk (blk_below (g := gb252) (o := .cells #[.string a0_0, .slice A0_1 l0_1.length c0_1, .slice A0_2 l0_2.length c0_2, .slice A0_3 l0_3.length c0_3] 26 (0, 0)) (by (with_reducible repeat (first | refine bkd ?_ _ | refine blk_drew ?_ | refine bka ?_ _)); exact BK252.out) hb); have n4_ := amk (blk_below (g := gb263) (o := .cells #[.string t253, .slice Ao29 t254.length co29, .slice Ao30 t257.length co30, .slice Ao31 t260.length co31] 26 (0, 0)) (by (with_reducible repeat (first | refine bkd ?_ _ | refine blk_drew ?_ | refine bka ?_ _)); exact BK263.out) hb); have n5_ := amk (below_step (by repeat (first | (with_reducible first | exact HB.out | apply bal | apply pbd | apply bdr | refine below_set ?_ GE252.out | refine below_set ?_ GE263.out) | exact HB.out)) hb); clear HO256; clear HO259; clear HO262; clear BK252; clear BK263; clear HB; have HO256 := n0_; have HO259 := n1_; have HO262 := n2_; have BK252 := n3_; have BK263 := n4_; have HB := n5_; clear n0_ n1_ n2_ n3_ n4_ n5_; (try clear hb); (try clear hb2); (try clear hk); (try clear hi)))
      go_ret
      exact ⟨by first | rfl | (simp [errW_none, errW_some] <;> rfl) | (simp [*, errW_none, errW_some] <;> rfl), by repeat (first | (with_reducible first | exact HB.out | apply bal | apply pbd | apply bdr | refine below_set ?_ GE252.out | refine below_set ?_ GE263.out) | exact HB.out)⟩
  · rw [if_neg c5] at H
    have c5b0 : (t264 == t266) = false := beq_eq_false_iff_ne.mpr c5
    have c5b1 : (t264 != t266) = true := bne_iff_ne.mpr c5
    obtain rfl := Option.some.inj H
    go_enter Try.func4, Try.ntmps4
    go_wp2_with (first | ((with_reducible refine gate_dst (N := 1) rfl ?_); refine box_event ?hg (N := 1) ?hd (cs := #[.string a0_0, .slice A0_1 l0_1.length c0_1, .slice A0_2 l0_2.length c0_2, .slice A0_3 l0_3.length c0_3]) (t := 26) ?hr ?_; (case hd => rfl); (case hg => rfl); (case hr => first | (go_simp; done) | (go_simp; rfl)); intro gb252 hg w35 hbox hb; have n0_ := amk (below_step (by repeat (first | (with_reducible first | exact HB.out | apply bal | apply pbd | apply bdr) | exact HB.out)) hb); have n1_ := amk (hbox); have n2_ := amk ((by rw [hg]; exact (below_size (by repeat (first | (with_reducible first | exact HB.out | apply bal | apply pbd | apply bdr) | exact HB.out))) : w.heap.size ≤ gb252)); have n3_ := amk ((by rw [hg]; exact (below_size (by repeat (first | (with_reducible first | exact HB.out | apply bal | apply pbd | apply bdr) | exact HB.out))) : w.heap.size ≤ gb252)); clear HB; have HB := n0_; have BK252 := n1_; have GW252 := n2_; have GE252 := n3_; clear n0_ n1_ n2_ n3_; clear hb hbox hg; have hcz36_0 : w35.cell? ⟨gb252, 0, none⟩ = some (.string a0_0) := (blk_cell BK252.out 0).trans rfl; have hcz36_1 : w35.cell? ⟨gb252, 1, none⟩ = some (.slice A0_1 l0_1.length c0_1) := (blk_cell BK252.out 1).trans rfl; have hcz36_2 : w35.cell? ⟨gb252, 2, none⟩ = some (.slice A0_2 l0_2.length c0_2) := (blk_cell BK252.out 2).trans rfl; have hcz36_3 : w35.cell? ⟨gb252, 3, none⟩ = some (.slice A0_3 l0_3.length c0_3) := (blk_cell BK252.out 3).trans rfl; have hfz36_0 := bkf BK252.out 0; have hfz36_1 := bkf BK252.out 1; have hfz36_2 := bkf BK252.out 2; have hfz36_3 := bkf BK252.out 3) | ((with_reducible refine gate_callee (f := 12) rfl ?_); refine goesL_ (some 9) rfl rfl Try.func12 (by kernel_rfl) rfl #[.agg #[.string a0_0, .slice A0_1 l0_1.length c0_1, .slice A0_2 l0_2.length c0_2, .slice A0_3 l0_3.length c0_3]] rfl (by (try simp only [List.map_toArray, List.map_cons, List.map_nil]); first | done | rfl | (simp only [List.length_drop, List.length_take]; rfl)) ?_; (with_reducible refine (provisoplain_Module.calls k a0_0 _ _ l0_1 _ _ l0_2 _ _ l0_3 t253 t254 t257 t260 _ ?side1 ?side2 ?side3 ?side4 ?side5 ?side6 A2.out).mono ?_); (case side1 => repeat (first | exact (Kd.C_below HR0_1.out HB.out) | (with_reducible refine Kd.C_alloc ?_ _) | (with_reducible refine Kd.C_drewN ?_ _) | (with_reducible refine Kd.C_drew ?_))); (case side2 => exact HC0_1.out); (case side3 => repeat (first | exact (Kd.C_below HR0_2.out HB.out) | (with_reducible refine Kd.C_alloc ?_ _) | (with_reducible refine Kd.C_drewN ?_ _) | (with_reducible refine Kd.C_drew ?_))); (case side4 => exact HC0_2.out); (case side5 => repeat (first | exact (Kd.C_below HR0_3.out HB.out) | (with_reducible refine Kd.C_alloc ?_ _) | (with_reducible refine Kd.C_drewN ?_ _) | (with_reducible refine Kd.C_drew ?_))); (case side6 => exact HC0_3.out); rintro e w37 ⟨v255, v258, v261, rfl, ho0, ho1, ho2, hb⟩; refine ⟨_, rfl, ?_⟩; have n0_ := amk (Kd.S_lower ho0 (below_size (by repeat (first | (with_reducible first | exact HB.out | apply bal | apply pbd | apply bdr | refine below_set ?_ GE252.out) | exact HB.out)))); have n1_ := amk (Kd.S_lower ho1 (below_size (by repeat (first | (with_reducible first | exact HB.out | apply bal | apply pbd | apply bdr | refine below_set ?_ GE252.out) | exact HB.out)))); have n2_ := amk (Kd.S_lower ho2 (below_size (by repeat (first | (with_reducible first | exact HB.out | apply bal | apply pbd | apply bdr | refine below_set ?_ GE252.out) | exact HB.out)))); have n3_ := amk (blk_below (g := gb252) (o := .cells #[.string a0_0, .slice A0_1 l0_1.length c0_1, .slice A0_2 l0_2.length c0_2, .slice A0_3 l0_3.length c0_3] 26 (0, 0)) (by (with_reducible repeat (first | refine bkd ?_ _ | refine blk_drew ?_ | refine bka ?_ _)); exact BK252.out) hb); have n4_ := amk (below_step (by repeat (first | (with_reducible first | exact HB.out | apply bal | apply pbd | apply bdr | refine below_set ?_ GE252.out) | exact HB.out)) hb); clear BK252; clear HB; have HO256 := n0_; have HO259 := n1_; have HO262 := n2_; have BK252 := n3_; have HB := n4_; clear n0_ n1_ n2_ n3_ n4_; (try clear hb); (try clear hb2); (try clear hk); (try clear hi); (try clear ho0); (try clear ho1); (try clear ho2)) | ((with_reducible refine gate_dst (N := 3) rfl ?_); refine box_event ?hg (N := 3) ?hd (cs := #[.string (⟨#[]⟩ : ByteArray), .slice none 0 0, .slice none 0 0, .slice none 0 0]) (t := 26) ?hr ?_; (case hd => rfl); (case hg => rfl); (case hr => first | (go_simp; done) | (go_simp; rfl)); intro gb263 hg w38 hbox hb; have n0_ := amk (Kd.S_below (by (with_reducible repeat (first | apply Kd.S_alloc | apply Kd.S_drewN | apply Kd.S_drew)); exact HO256.out) hb); have n1_ := amk (Kd.S_below (by (with_reducible repeat (first | apply Kd.S_alloc | apply Kd.S_drewN | apply Kd.S_drew)); exact HO259.out) hb); have n2_ := amk (Kd.S_below (by (with_reducible repeat (first | apply Kd.S_alloc | apply Kd.S_drewN | apply Kd.S_drew)); exact HO262.out) hb); have n3_ := amk (blk_below (g := gb252) (o := .cells #[.string a0_0, .slice A0_1 l0_1.length c0_1, .slice A0_2 l0_2.length c0_2, .slice A0_3 l0_3.length c0_3] 26 (0, 0)) (by (with_reducible repeat (first | refine bkd ?_ _ | refine blk_drew ?_ | refine bka ?_ _)); exact BK252.out) hb); have n4_ := amk (below_step (by repeat (first | (with_reducible first | exact HB.out | apply bal | apply pbd | apply bdr | refine below_set ?_ GE252.out) | exact HB.out)) hb); have n5_ := amk (hbox); have n6_ := amk ((by rw [hg]; exact (below_size (by repeat (first | (with_reducible first | exact HB.out | apply bal | apply pbd | apply bdr | refine below_set ?_ GE252.out) | exact HB.out))) : w.heap.size ≤ gb263)); have n7_ := amk ((by rw [hg]; exact (below_size (by repeat (first | (with_reducible first | exact HB.out | apply bal | apply pbd | apply bdr | refine below_set ?_ GE252.out) | exact HB.out))) : w.heap.size ≤ gb263)); have n8_ := amk ((by rw [hg]; exact Nat.ne_of_lt (blk_lt (g := gb252) (o := .cells #[.string a0_0, .slice A0_1 l0_1.length c0_1, .slice A0_2 l0_2.length c0_2, .slice A0_3 l0_3.length c0_3] 26 (0, 0)) (by (with_reducible repeat (first | refine bkd ?_ _ | refine blk_drew ?_ | refine bka ?_ _)); exact BK252.out)) : gb252 ≠ gb263)); have n9_ := amk ((by rw [hg]; exact Nat.ne_of_gt (blk_lt (g := gb252) (o := .cells #[.string a0_0, .slice A0_1 l0_1.length c0_1, .slice A0_2 l0_2.length c0_2, .slice A0_3 l0_3.length c0_3] 26 (0, 0)) (by (with_reducible repeat (first | refine bkd ?_ _ | refine blk_drew ?_ | refine bka ?_ _)); exact BK252.out)) : gb263 ≠ gb252)); clear HO256; clear HO259; clear HO262; clear BK252; clear HB; have HO256 := n0_; have HO259 := n1_; have HO262 := n2_; have BK252 := n3_; have HB := n4_; have BK263 := n5_; have GW263 := n6_; have GE263 := n7_; have NB252_263 := n8_; have NB263_252 := n9_; clear n0_ n1_ n2_ n3_ n4_ n5_ n6_ n7_ n8_ n9_; clear hb hbox hg; have hnb39 := NB263_252.out; have hnc39 := NB252_263.out; have hcz40_0 : w38.cell? ⟨gb263, 0, none⟩ = some (.string (⟨#[]⟩ : ByteArray)) := (blk_cell BK263.out 0).trans rfl; have hcz40_1 : w38.cell? ⟨gb263, 1, none⟩ = some (.slice none 0 0) := (blk_cell BK263.out 1).trans rfl; have hcz40_2 : w38.cell? ⟨gb263, 2, none⟩ = some (.slice none 0 0) := (blk_cell BK263.out 2).trans rfl; have hcz40_3 : w38.cell? ⟨gb263, 3, none⟩ = some (.slice none 0 0) := (blk_cell BK263.out 3).trans rfl; have hfz40_0 := bkf BK263.out 0; have hfz40_1 := bkf BK263.out 1; have hfz40_2 := bkf BK263.out 2; have hfz40_3 := bkf BK263.out 3; obtain ⟨Ao41, co41, eo41⟩ := Kd.S_slice HO256.out; subst eo41; obtain ⟨Ao42, co42, eo42⟩ := Kd.S_slice HO259.out; subst eo42; obtain ⟨Ao43, co43, eo43⟩ := Kd.S_slice HO262.out; subst eo43) | ((with_reducible refine gate_callee (f := 15) rfl ?_); refine goesL_ (some 12) rfl rfl Try.func15 (by kernel_rfl) rfl #[.agg #[.string t253, .slice Ao41 t254.length co41, .slice Ao42 t257.length co42, .slice Ao43 t260.length co43]] rfl (by (try simp only [List.map_toArray, List.map_cons, List.map_nil]); first | done | rfl | (simp only [List.length_drop, List.length_take]; rfl)) ?_; (with_reducible refine (module_Check.calls k t253 _ _ t254 _ _ t257 _ _ t260 t264 t265 _ ?side1 ?side2 ?side3 ?side4 ?side5 ?side6 A3.out).mono ?_); (case side1 => refine (Kd.S_reads' (e := 64) (base := w.heap.size) (ok := fun k_ => True) (n := t254.length) (c := co41) ?_).2.2; exact (by (with_reducible repeat (first | apply Kd.S_alloc | apply Kd.S_drewN | apply Kd.S_drew)); exact (Kd.S_mono (Kd.S_far (p := ⟨gb263, 3, none⟩) (Kd.S_far (p := ⟨gb263, 2, none⟩) (Kd.S_far (p := ⟨gb263, 1, none⟩) (Kd.S_far (p := ⟨gb263, 0, none⟩) (Kd.S_types HO256.out BK263.out (by decide)) (fun _ hk => hk.2) (.string t253)) (fun _ hk => hk.2) (.slice Ao41 t254.length co41)) (fun _ hk => hk.2) (.slice Ao42 t257.length co42)) (fun _ hk => hk.2) (.slice Ao43 t260.length co43)) (fun _ h_ => h_.1)))); (case side2 => exact (Kd.S_reads' HO256.out).2.1); (case side3 => refine (Kd.S_reads' (e := 49) (base := w.heap.size) (ok := fun k_ => True) (n := t257.length) (c := co42) ?_).2.2; exact (by (with_reducible repeat (first | apply Kd.S_alloc | apply Kd.S_drewN | apply Kd.S_drew)); exact (Kd.S_mono (Kd.S_far (p := ⟨gb263, 3, none⟩) (Kd.S_far (p := ⟨gb263, 2, none⟩) (Kd.S_far (p := ⟨gb263, 1, none⟩) (Kd.S_far (p := ⟨gb263, 0, none⟩) (Kd.S_types HO259.out BK263.out (by decide)) (fun _ hk => hk.2) (.string t253)) (fun _ hk => hk.2) (.slice Ao41 t254.length co41)) (fun _ hk => hk.2) (.slice Ao42 t257.length co42)) (fun _ hk => hk.2) (.slice Ao43 t260.length co43)) (fun _ h_ => h_.1)))); (case side4 => exact (Kd.S_reads' HO259.out).2.1); (case side5 => refine (Kd.S_reads' (e := 36) (base := w.heap.size) (ok := fun k_ => True) (n := t260.length) (c := co43) ?_).2.2; exact (by (with_reducible repeat (first | apply Kd.S_alloc | apply Kd.S_drewN | apply Kd.S_drew)); exact (Kd.S_mono (Kd.S_far (p := ⟨gb263, 3, none⟩) (Kd.S_far (p := ⟨gb263, 2, none⟩) (Kd.S_far (p := ⟨gb263, 1, none⟩) (Kd.S_far (p := ⟨gb263, 0, none⟩) (Kd.S_types HO262.out BK263.out (by decide)) (fun _ hk => hk.2) (.string t253)) (fun _ hk => hk.2) (.slice Ao41 t254.length co41)) (fun _ hk => hk.2) (.slice Ao42 t257.length co42)) (fun _ hk => hk.2) (.slice Ao43 t260.length co43)) (fun _ h_ => h_.1)))); (case side6 => exact (Kd.S_reads' HO262.out).2.1); rintro e w44 ⟨rfl, hb⟩; refine ⟨_, rfl, ?_⟩; have n0_ := amk (Kd.S_below (by (with_reducible repeat (first | apply Kd.S_alloc | apply Kd.S_drewN | apply Kd.S_drew)); exact (Kd.S_mono (Kd.S_far (p := ⟨gb263, 3, none⟩) (Kd.S_far (p := ⟨gb263, 2, none⟩) (Kd.S_far (p := ⟨gb263, 1, none⟩) (Kd.S_far (p := ⟨gb263, 0, none⟩) (Kd.S_types HO256.out BK263.out (by decide)) (fun _ hk => hk.2) (.string t253)) (fun _ hk => hk.2) (.slice Ao41 t254.length co41)) (fun _ hk => hk.2) (.slice Ao42 t257.length co42)) (fun _ hk => hk.2) (.slice Ao43 t260.length co43)) (fun _ h_ => h_.1))) hb); have n1_ := amk (Kd.S_below (by (with_reducible repeat (first | apply Kd.S_alloc | apply Kd.S_drewN | apply Kd.S_drew)); exact (Kd.S_mono (Kd.S_far (p := ⟨gb263, 3, none⟩) (Kd.S_far (p := ⟨gb263, 2, none⟩) (Kd.S_far (p := ⟨gb263, 1, none⟩) (Kd.S_far (p := ⟨gb263, 0, none⟩) (Kd.S_types HO259.out BK263.out (by decide)) (fun _ hk => hk.2) (.string t253)) (fun _ hk => hk.2) (.slice Ao41 t254.length co41)) (fun _ hk => hk.2) (.slice Ao42 t257.length co42)) (fun _ hk => hk.2) (.slice Ao43 t260.length co43)) (fun _ h_ => h_.1))) hb); have n2_ := amk (Kd.S_below (by (with_reducible repeat (first | apply Kd.S_alloc | apply Kd.S_drewN | apply Kd.S_drew)); exact (Kd.S_mono (Kd.S_far (p := ⟨gb263, 3, none⟩) (Kd.S_far (p := ⟨gb263, 2, none⟩) (Kd.S_far (p := ⟨gb263, 1, none⟩) (Kd.S_far (p := ⟨gb263, 0, none⟩) (Kd.S_types HO262.out BK263.out (by decide)) (fun _ hk => hk.2) (.string t253)) (fun _ hk => hk.2) (.slice Ao41 t254.length co41)) (fun _ hk => hk.2) (.slice Ao42 t257.length co42)) (fun _ hk => hk.2) (.slice Ao43 t260.length co43)) (fun _ h_ => h_.1))) hb); have n3_ := amk (blk_below (g := gb252) (o := .cells #[.string a0_0, .slice A0_1 l0_1.length c0_1, .slice A0_2 l0_2.length c0_2, .slice A0_3 l0_3.length c0_3] 26 (0, 0)) (by (with_reducible repeat (first | refine bkd ?_ _ | refine blk_drew ?_ | refine bka ?_ _)); refine blk_far ?_ NB252_263.out _; (with_reducible repeat (first | refine bkd ?_ _ | refine blk_drew ?_ | refine bka ?_ _)); refine blk_far ?_ NB252_263.out _; (with_reducible repeat (first | refine bkd ?_ _ | refine blk_drew ?_ | refine bka ?_ _)); refine blk_far ?_ NB252_263.out _; (with_reducible repeat (first | refine bkd ?_ _ | refine blk_drew ?_ | refine bka ?_ _)); refine blk_far ?_ NB252_263.out _; (with_reducible repeat (first | refine bkd ?_ _ | refine blk_drew ?_ | refine bka ?_ _)); exact BK252.out) hb); have n4_ := amk (blk_below (g := gb263) (o := .cells #[.string t253, .slice Ao41 t254.length co41, .slice Ao42 t257.length co42, .slice Ao43 t260.length co43] 26 (0, 0)) (by (with_reducible repeat (first | refine bkd ?_ _ | refine blk_drew ?_ | refine bka ?_ _)); refine blk_put (cs := #[.string t253, .slice Ao41 t254.length co41, .slice Ao42 t257.length co42, .slice none 0 0]) ?_ 3 _ rfl; (with_reducible repeat (first | refine bkd ?_ _ | refine blk_drew ?_ | refine bka ?_ _)); refine blk_put (cs := #[.string t253, .slice Ao41 t254.length co41, .slice none 0 0, .slice none 0 0]) ?_ 2 _ rfl; (with_reducible repeat (first | refine bkd ?_ _ | refine blk_drew ?_ | refine bka ?_ _)); refine blk_put (cs := #[.string t253, .slice none 0 0, .slice none 0 0, .slice none 0 0]) ?_ 1 _ rfl; (with_reducible repeat (first | refine bkd ?_ _ | refine blk_drew ?_ | refine bka ?_ _)); refine blk_put (cs := #[.string (⟨#[]⟩ : ByteArray), .slice none 0 0, .slice none 0 0, .slice none 0 0]) ?_ 0 _ rfl; (with_reducible repeat (first | refine bkd ?_ _ | refine blk_drew ?_ | refine bka ?_ _)); exact BK263.out) hb); have n5_ := amk (below_step (by repeat (first | (with_reducible first | exact HB.out | apply bal | apply pbd | apply bdr | refine below_set ?_ GE252.out | refine below_set ?_ GE263.out) | exact HB.out)) hb); clear HO256; clear HO259; clear HO262; clear BK252; clear BK263; clear HB; have HO256 := n0_; have HO259 := n1_; have HO262 := n2_; have BK252 := n3_; have BK263 := n4_; have HB := n5_; clear n0_ n1_ n2_ n3_ n4_ n5_; (try clear hb); (try clear hb2); (try clear hk); (try clear hi); have hcz45_0 : w44.cell? ⟨gb252, 0, none⟩ = some (.string a0_0) := (blk_cell BK252.out 0).trans rfl; have hcz45_1 : w44.cell? ⟨gb252, 1, none⟩ = some (.slice A0_1 l0_1.length c0_1) := (blk_cell BK252.out 1).trans rfl; have hcz45_2 : w44.cell? ⟨gb252, 2, none⟩ = some (.slice A0_2 l0_2.length c0_2) := (blk_cell BK252.out 2).trans rfl; have hcz45_3 : w44.cell? ⟨gb252, 3, none⟩ = some (.slice A0_3 l0_3.length c0_3) := (blk_cell BK252.out 3).trans rfl; have hfz45_0 := bkf BK252.out 0; have hfz45_1 := bkf BK252.out 1; have hfz45_2 := bkf BK252.out 2; have hfz45_3 := bkf BK252.out 3) | ((with_reducible refine gate_callee (f := 16) rfl ?_); refine goesL_ (some 17) rfl rfl Try.func16 (by kernel_rfl) rfl #[.agg #[.string a0_0, .slice A0_1 l0_1.length c0_1, .slice A0_2 l0_2.length c0_2, .slice A0_3 l0_3.length c0_3]] rfl (by (try simp only [List.map_toArray, List.map_cons, List.map_nil]); first | done | rfl | (simp only [List.length_drop, List.length_take]; rfl)) ?_; (with_reducible refine (provisoref16_Check.calls k a0_0 _ _ l0_1 _ _ l0_2 _ _ l0_3 t266 t267 _ ?side1 ?side2 ?side3 ?side4 ?side5 ?side6 A4.out).mono ?_); (case side1 => repeat (first | exact (Kd.C_below HR0_1.out HB.out) | (with_reducible refine Kd.C_alloc ?_ _) | (with_reducible refine Kd.C_drewN ?_ _) | (with_reducible refine Kd.C_drew ?_))); (case side2 => exact HC0_1.out); (case side3 => repeat (first | exact (Kd.C_below HR0_2.out HB.out) | (with_reducible refine Kd.C_alloc ?_ _) | (with_reducible refine Kd.C_drewN ?_ _) | (with_reducible refine Kd.C_drew ?_))); (case side4 => exact HC0_2.out); (case side5 => repeat (first | exact (Kd.C_below HR0_3.out HB.out) | (with_reducible refine Kd.C_alloc ?_ _) | (with_reducible refine Kd.C_drewN ?_ _) | (with_reducible refine Kd.C_drew ?_))); (case side6 => exact HC0_3.out); rintro e w46 ⟨rfl, hb⟩; refine ⟨_, rfl, ?_⟩; have n0_ := amk (Kd.S_below (by (with_reducible repeat (first | apply Kd.S_alloc | apply Kd.S_drewN | apply Kd.S_drew)); exact HO256.out) hb); have n1_ := amk (Kd.S_below (by (with_reducible repeat (first | apply Kd.S_alloc | apply Kd.S_drewN | apply Kd.S_drew)); exact HO259.out) hb); have n2_ := amk (Kd.S_below (by (with_reducible repeat (first | apply Kd.S_alloc | apply Kd.S_drewN | apply Kd.S_drew)); exact HO262.out) hb); have n3_ := amk (blk_below (g := gb252) (o := .cells #[.string a0_0, .slice A0_1 l0_1.length c0_1, .slice A0_2 l0_2.length c0_2, .slice A0_3 l0_3.length c0_3] 26 (0, 0)) (by (with_reducible repeat (first | refine bkd ?_ _ | refine blk_drew ?_ | refine bka ?_ _)); exact BK252.out) hb); have n4_ := amk (blk_below (g := gb263) (o := .cells #[.string t253, .slice Ao41 t254.length co41, .slice Ao42 t257.length co42, .slice Ao43 t260.length co43] 26 (0, 0)) (by (with_reducible repeat (first | refine bkd ?_ _ | refine blk_drew ?_ | refine bka ?_ _)); exact BK263.out) hb); have n5_ := amk (below_step (by repeat (first | (with_reducible first | exact HB.out | apply bal | apply pbd | apply bdr | refine below_set ?_ GE252.out | refine below_set ?_ GE263.out) | exact HB.out)) hb); clear HO256; clear HO259; clear HO262; clear BK252; clear BK263; clear HB; have HO256 := n0_; have HO259 := n1_; have HO262 := n2_; have BK252 := n3_; have BK263 := n4_; have HB := n5_; clear n0_ n1_ n2_ n3_ n4_ n5_; (try clear hb); (try clear hb2); (try clear hk); (try clear hi)))
    go_ret
    exact ⟨by first | rfl | (simp [errW_none, errW_some] <;> rfl) | (simp [*, errW_none, errW_some] <;> rfl), by repeat (first | (with_reducible first | exact HB.out | apply bal | apply pbd | apply bdr | refine below_set ?_ GE252.out | refine below_set ?_ GE263.out) | exact HB.out)⟩

def IsS116 (w0 W : World) (g : Nat) (f0 : List Int) (f1 : Bool) : Prop := ∃ A0 c0, W.heap[g]? = some (.cells #[.slice A0 f0.length c0, .bool f1] 116 (0, 0)) ∧ w0.heap.size ≤ g ∧ Kd.C (Kd.int .u8) w0 A0 f0.length f0
theorem IsS116.grown {w0 W : World} {g : Nat} {f0 : List Int} {f1 : Bool} {W1 : World} {row : Option Nat} (h : IsS116 w0 W g f0 f1) (hw : W.grownBy W1 row) (hne : some g ≠ row) : IsS116 w0 W1 g f0 f1 := by
  obtain ⟨A0, c0, hb, hg, hr0⟩ := h
  exact ⟨A0, c0, blk_grown hb hw hne, hg, hr0⟩
theorem IsS116.kept {w0 W : World} {g : Nat} {f0 : List Int} {f1 : Bool} {W1 : World} {S : Nat → Prop} (h : IsS116 w0 W g f0 f1) (hk : Kept W W1 S) (hne : ¬ S g) : IsS116 w0 W1 g f0 f1 := by
  obtain ⟨A0, c0, hb, hg, hr0⟩ := h
  exact ⟨A0, c0, blk_kept hb hk hne, hg, hr0⟩
theorem IsS116.below {w0 W : World} {g : Nat} {f0 : List Int} {f1 : Bool} {W1 : World} (h : IsS116 w0 W g f0 f1) (hw : Below W.heap.size W W1) : IsS116 w0 W1 g f0 f1 := h.grown (grown_of_below hw none) (by simp)
theorem IsS116.alloc {w0 W : World} {g : Nat} {f0 : List Int} {f1 : Bool} (h : IsS116 w0 W g f0 f1) (o : Obj) : IsS116 w0 (W.alloc o) g f0 f1 := h.below (bal (Below.refl _ _) o)
theorem IsS116.drewN {w0 W : World} {g : Nat} {f0 : List Int} {f1 : Bool} (h : IsS116 w0 W g f0 f1) (m : Nat) : IsS116 w0 (W.drewN m) g f0 f1 := h
theorem IsS116.drew {w0 W : World} {g : Nat} {f0 : List Int} {f1 : Bool} (h : IsS116 w0 W g f0 f1) : IsS116 w0 W.drew g f0 f1 := h
theorem IsS116.at_ {w0 W : World} {g : Nat} {f0 : List Int} {f1 : Bool} {w' : World} {m : Nat} (hq : W.drewN m = w') (h : IsS116 w0 W g f0 f1) : IsS116 w0 w' g f0 f1 := by subst hq; exact IsS116.drewN h m
theorem IsS116.apart {w0 W : World} {g : Nat} {f0 : List Int} {f1 : Bool} {α : Type} {d : Kd α} {e : Nat} {base : Nat} {ok : Nat → Prop} {v : Value} {xs : List α} (h : IsS116 w0 W g f0 f1) (ho : d.R e W base ok v xs) (ht : ∀ q, q ∈ e :: d.E → q ≠ 116) : d.R e W base (fun k => ok k ∧ k ≠ g) v xs := by
  obtain ⟨A0, c0, hb, hg, hr0⟩ := h
  exact Kd.R_types ho hb ht
theorem IsS116.own_ne {w0 W : World} {g : Nat} {f0 : List Int} {f1 : Bool} {α : Type} {d : Kd α} {e : Nat} {base : Nat} {ok : Nat → Prop} {v : Value} {xs : List α} (h : IsS116 w0 W g f0 f1) (ho : d.R e W base ok v xs) (ht : e ≠ 116) : some g ≠ v.ownBlock := by
  obtain ⟨A0, c0, hb, hg, hr0⟩ := h
  exact Kd.R_ne ho hb ht
end Go.Proofs.Ytdlmcjchnoeebaa.P

end

section
namespace Go.Proofs.Ytdlmcjchnoeebaa.P
open Go.RowKit Go.Proofs.YtdlmcjchnoeebaaW.PrintWords
def provisolaw16_ModuleChecks.Pure : Prop := ∀ (a0_0 : ByteArray) (a0_1 : List (S64)) (a0_2 : List (S49)) (a0_3 : List (List (Int))), (fun s : ByteArray => s.size ≤ 140737488351232) a0_0 → (fun l : List (S64) => l.length ≤ 9223372036854775807 ∧ l.length * 48 ≤ 140737488351232 ∧ ∀ x ∈ l, Ok64 x) a0_1 → (fun l : List (S49) => l.length ≤ 9223372036854775807 ∧ l.length * 80 ≤ 140737488351232 ∧ ∀ x ∈ l, Ok49 x) a0_2 → (fun l : List (List (Int)) => l.length ≤ 9223372036854775807 ∧ l.length * 24 ≤ 140737488351232 ∧ ∀ x ∈ l, (fun l : List (Int) => l.length ≤ 9223372036854775807 ∧ l.length * 1 ≤ 140737488351232 ∧ ∀ x ∈ l, (fun n : Int => (Lit.int .u8 n).wf = true) x) x) a0_3 → ∃ k, provisolaw16_ModuleChecks.f k a0_0 a0_1 a0_2 a0_3 = some true
end Go.Proofs.Ytdlmcjchnoeebaa.P

end

section
namespace Go.Proofs.Ytdlmcjchnoeebaa.Pure
open Go.RowKit Go.Proofs.Ytdlmcjchnoeebaa.P Go.Proofs.YtdlmcjchnoeebaaW.PrintWords
set_option linter.unusedSimpArgs false
set_option linter.unusedVariables false
def pairs {α : Type} (p : α → α → Bool) : List α → List α → Bool
  | x :: xs, y :: ys => p x y && pairs p xs ys
  | _, _ => true
def eqL {α : Type} (p : α → α → Bool) (l m : List α) : Bool := decide (l.length = m.length) && pairs p l m
theorem pairs_self {α : Type} {p : α → α → Bool} (h : ∀ x, p x x = true) : ∀ l : List α, pairs p l l = true
  | [] => rfl
  | x :: xs => by
    show (p x x && pairs p xs xs) = true
    rw [h x, pairs_self h xs]
    rfl
theorem eqL_self {α : Type} {p : α → α → Bool} (h : ∀ x, p x x = true) (l : List α) : eqL p l l = true := by
  unfold eqL
  rw [pairs_self h l, decide_eq_true rfl]
  rfl
theorem loop_pairs {α : Type} (z : α) (p : α → α → Bool) (L : Nat → Int → Option Bool) (l m : List α) (hl : l.length = m.length)
    (hend : Ev (fun k => L k (l.length : Int)) true)
    (hstep : ∀ i : Nat, i < l.length → ∀ b, Ev (fun k => L k ((i + 1 : Nat) : Int)) b → Ev (fun k => L k (i : Int)) (p (l.getD i z) (m.getD i z) && b)) :
    ∀ (d i : Nat), l.length - i = d → i ≤ l.length → Ev (fun k => L k (i : Int)) (pairs p (l.drop i) (m.drop i))
  | 0, i, hd, hi => by
    obtain rfl : i = l.length := by omega
    rw [List.drop_length]
    exact hend
  | d + 1, i, hd, hi => by
    have h1 : i < l.length := by omega
    have h2 : i < m.length := by omega
    have ih := loop_pairs z p L l m hl hend hstep d (i + 1) (by omega) (by omega)
    have h3 := hstep i h1 _ ih
    rw [List.drop_eq_getElem_cons h1, List.drop_eq_getElem_cons h2]
    rw [List.getD_eq_getElem?_getD, List.getD_eq_getElem?_getD, List.getElem?_eq_getElem h1, List.getElem?_eq_getElem h2] at h3
    exact h3
theorem wrap_one {i n : Nat} (h : i < n) (hn : n ≤ 9223372036854775807) : wrap64 ((i : Int) + 1) = ((i + 1 : Nat) : Int) := by unfold wrap64; omega
theorem and_true_ {a b : Bool} (h : a = true) : (a && b) = b := by rw [h]; rfl
theorem and_false_ {a b : Bool} (h : a = false) : (a && b) = false := by rw [h]; rfl
theorem ev_byte (l m : List Int) (hb : l.length ≤ 9223372036854775807) : Ev (fun k => slices_Equal_byte_byte.f k l m) (eqL (fun x y => decide (x = y)) l m) := by
  by_cases hl : l.length = m.length
  · have h := loop_pairs (0 : Int) (fun x y => decide (x = y)) (fun k i => slices_Equal_byte_byte.l0 k l m (l.length : Int) i) l m hl
      (Ev.step (f := fun _ => some true) (fun k => by simp only [slices_Equal_byte_byte.l0]; rw [if_neg (by omega)]) (Ev.now _))
      (fun i hi b hb2 => by
        by_cases e : rd l (i : Int) = rd m (i : Int)
        · have e0 : l.getD i 0 = m.getD i 0 := e
          rw [and_true_ (decide_eq_true e0)]
          refine Ev.step (fun k => ?_) hb2
          simp only [slices_Equal_byte_byte.l0]
          rw [if_pos (by omega), if_pos (by omega), if_pos (by omega), if_pos (by omega), if_pos e, wrap_one hi hb]
        · have e0 : ¬ l.getD i 0 = m.getD i 0 := e
          rw [and_false_ (decide_eq_false e0)]
          refine Ev.step (f := fun _ => some false) (fun k => ?_) (Ev.now _)
          simp only [slices_Equal_byte_byte.l0]
          rw [if_pos (by omega), if_pos (by omega), if_pos (by omega), if_pos (by omega), if_neg e]) l.length 0 (by omega) (by omega)
    unfold eqL
    rw [and_true_ (decide_eq_true hl)]
    refine Ev.congr (fun k => ?_) h
    unfold slices_Equal_byte_byte.f
    rw [if_pos (by omega)]
    rfl
  · unfold eqL
    rw [and_false_ (decide_eq_false hl)]
    refine Ev.congr (f := fun _ => some false) (fun k => ?_) (Ev.now _)
    unfold slices_Equal_byte_byte.f
    rw [if_neg (by omega)]
theorem ev_type (l m : List Int) (hb : l.length ≤ 9223372036854775807) : Ev (fun k => api_Type_62.f k l m) (eqL (fun x y => decide (x = y)) l m) := by
  by_cases hl : l.length = m.length
  · have h := loop_pairs (0 : Int) (fun x y => decide (x = y)) (fun k i => api_Type_62.l0 k l m (l.length : Int) i) l m hl
      (Ev.step (f := fun _ => some true) (fun k => by simp only [api_Type_62.l0]; rw [if_neg (by omega)]) (Ev.now _))
      (fun i hi b hb2 => by
        by_cases e : rd l (i : Int) = rd m (i : Int)
        · have e0 : l.getD i 0 = m.getD i 0 := e
          rw [and_true_ (decide_eq_true e0)]
          refine Ev.step (fun k => ?_) hb2
          simp only [api_Type_62.l0]
          rw [if_pos (by omega), if_pos (by omega), if_pos (by omega), if_pos (by omega), if_pos e, wrap_one hi hb]
        · have e0 : ¬ l.getD i 0 = m.getD i 0 := e
          rw [and_false_ (decide_eq_false e0)]
          refine Ev.step (f := fun _ => some false) (fun k => ?_) (Ev.now _)
          simp only [api_Type_62.l0]
          rw [if_pos (by omega), if_pos (by omega), if_pos (by omega), if_pos (by omega), if_neg e]) l.length 0 (by omega) (by omega)
    unfold eqL
    rw [and_true_ (decide_eq_true hl)]
    refine Ev.congr (fun k => ?_) h
    unfold api_Type_62.f
    rw [if_pos (by omega)]
    rfl
  · unfold eqL
    rw [and_false_ (decide_eq_false hl)]
    refine Ev.congr (f := fun _ => some false) (fun k => ?_) (Ev.now _)
    unfold api_Type_62.f
    rw [if_neg (by omega)]
def pF (x y : S99) : Bool := (x.f0.toList == y.f0.toList) && (x.f1 == y.f1)
theorem ev_field (l m : List S99) (hb : l.length ≤ 9223372036854775807) : Ev (fun k => api_Field_61.f k l m) (eqL pF l m) := by
  by_cases hl : l.length = m.length
  · have h := loop_pairs z99 pF (fun k i => api_Field_61.l0 k l m (l.length : Int) i) l m hl
      (Ev.step (f := fun _ => some true) (fun k => by simp only [api_Field_61.l0]; rw [if_neg (by omega)]) (Ev.now _))
      (fun i hi b hb2 => by
        by_cases e : pF (rd_T99 l (i : Int)) (rd_T99 m (i : Int)) = true
        · have e2 : ¬ ((!((((rd_T99 l (i : Int)).f0).toList) == (((rd_T99 m (i : Int)).f0).toList)) || (!(((rd_T99 l (i : Int)).f1) == ((rd_T99 m (i : Int)).f1)))) = true) := by
            unfold pF at e
            rw [Bool.and_eq_true] at e
            rw [e.1, e.2]
            decide
          have e : pF (l.getD i z99) (m.getD i z99) = true := e
          rw [and_true_ e]
          refine Ev.step (fun k => ?_) hb2
          simp only [api_Field_61.l0]
          rw [if_pos (by omega), if_pos (by omega), if_pos (by omega), if_pos (by omega), if_neg e2, wrap_one hi hb]
        · have e2 : (!((((rd_T99 l (i : Int)).f0).toList) == (((rd_T99 m (i : Int)).f0).toList)) || (!(((rd_T99 l (i : Int)).f1) == ((rd_T99 m (i : Int)).f1)))) = true := by
            unfold pF at e
            rw [Bool.and_eq_true, Classical.not_and_iff_not_or_not] at e
            rcases e with e | e <;> rw [Bool.eq_false_iff.mpr e] <;> simp
          have e : pF (l.getD i z99) (m.getD i z99) = false := Bool.eq_false_iff.mpr e
          rw [and_false_ e]
          refine Ev.step (f := fun _ => some false) (fun k => ?_) (Ev.now _)
          simp only [api_Field_61.l0]
          rw [if_pos (by omega), if_pos (by omega), if_pos (by omega), if_pos (by omega), if_pos e2]) l.length 0 (by omega) (by omega)
    unfold eqL
    rw [and_true_ (decide_eq_true hl)]
    refine Ev.congr (fun k => ?_) h
    unfold api_Field_61.f
    rw [if_pos (by omega)]
    rfl
  · unfold eqL
    rw [and_false_ (decide_eq_false hl)]
    refine Ev.congr (f := fun _ => some false) (fun k => ?_) (Ev.now _)
    unfold api_Field_61.f
    rw [if_neg (by omega)]
theorem ev_if {p : Prop} [Decidable p] {g : Nat → Option Bool} {b : Bool} (h : Ev g b) : Ev (fun k => if p then g k else some false) (decide p && b) := by
  by_cases hp : p
  · rw [and_true_ (decide_eq_true hp)]
    exact Ev.congr (fun k => by rw [if_pos hp]) h
  · rw [and_false_ (decide_eq_false hp)]
    exact Ev.congr (f := fun _ => some false) (fun k => by rw [if_neg hp]) (Ev.now _)
theorem ev_and {g1 g2 : Nat → Option Bool} {b1 b2 : Bool} (h1 : Ev g1 b1) (h2 : Ev g2 b2) : Ev (fun k => (g1 k).bind fun t => if t = true then g2 k else some false) (b1 && b2) := by
  refine Ev.bind (f := fun k t => if t = true then g2 k else some false) h1 ?_
  cases b1 with
  | true => exact Ev.congr (fun k => by rw [if_pos rfl]) h2
  | false => exact Ev.congr (f := fun _ => some false) (fun k => by rw [if_neg (by decide)]) (Ev.now _)
theorem ev_some {g : Nat → Option Bool} {b : Bool} (h : Ev g b) : Ev (fun k => (g k).bind fun t => some t) b := Ev.bind (f := fun _ t => some t) h (Ev.now _)
def cE (x y : S64) : Bool := decide (x.f0.toList = y.f0.toList) && (decide (x.f1 = y.f1) && eqL pF x.f2 y.f2)
def bE (x y : List Int) : Bool := eqL (fun x y => decide (x = y)) x y
def fE (x y : S49) : Bool := decide (x.f0.toList = y.f0.toList) && (bE x.f1.f0 y.f1.f0 && (decide (x.f1.f1 = y.f1.f1) && (decide (x.f2 = y.f2) && bE x.f3 y.f3)))
theorem bE_self (x : List Int) : bE x x = true := eqL_self (p := fun x y => decide (x = y)) (fun x => decide_eq_true rfl) x
theorem pF_self (x : S99) : pF x x = true := by unfold pF; simp
theorem cE_self (x : S64) : cE x x = true := by unfold cE; rw [eqL_self pF_self]; simp
theorem fE_self (x : S49) : fE x x = true := by unfold fE; rw [bE_self, bE_self]; simp
def mE (a0 : ByteArray) (a1 : List S64) (a2 : List S49) (a3 : List (List Int)) (b0 : ByteArray) (b1 : List S64) (b2 : List S49) (b3 : List (List Int)) : Bool :=
  decide (a0.toList = b0.toList) && (eqL cE a1 b1 && (eqL fE a2 b2 && eqL bE a3 b3))
structure ModOk (a1 : List S64) (a2 : List S49) (a3 : List (List Int)) : Prop where
  cl : a1.length ≤ 2932031007320
  cf : ∀ x ∈ a1, x.f2.length ≤ 5864062014640
  fl : a2.length ≤ 1759218604390
  fp : ∀ x ∈ a2, x.f1.f0.length ≤ 140737488351232
  fc : ∀ x ∈ a2, x.f3.length ≤ 140737488351232
  bl : a3.length ≤ 5864062014640
  bb : ∀ x ∈ a3, x.length ≤ 140737488351232
theorem rd_c {l : List S64} {i : Nat} (h : i < l.length) : rd_T64 l (i : Int) ∈ l := by
  have : rd_T64 l (i : Int) = l[i] := by simp [rd_T64, List.getD_eq_getElem?_getD, h]
  rw [this]
  exact List.getElem_mem h
theorem rd_f {l : List S49} {i : Nat} (h : i < l.length) : rd_T49 l (i : Int) = l[i] := by simp [rd_T49, List.getD_eq_getElem?_getD, h]
theorem rd_cl {l : List S64} {i : Nat} (h : i < l.length) : rd_T64 l (i : Int) = l[i] := by simp [rd_T64, List.getD_eq_getElem?_getD, h]
theorem rd_b {l : List (List Int)} {i : Nat} (h : i < l.length) : rd_L8 l (i : Int) = l[i] := by simp [rd_L8, List.getD_eq_getElem?_getD, h]
theorem ev_sameClasses (l m : List S64) (hs : l.length ≤ 2932031007320) (hf : ∀ x ∈ l, x.f2.length ≤ 5864062014640) : Ev (fun k => provisoplain_SameClasses.f k l m) (eqL cE l m) := by
  by_cases hl : l.length = m.length
  · have h := loop_pairs z64 cE (fun k i => provisoplain_SameClasses.l0 k l m (l.length : Int) i) l m hl
      (Ev.step (f := fun _ => some true) (fun k => by simp only [provisoplain_SameClasses.l0]; rw [if_neg (by omega)]) (Ev.now _))
      (fun i hi b hb2 => by
        have h2 := hf _ (rd_c hi)
        have e : (cE (l.getD i z64) (m.getD i z64) && b) = (decide ((rd_T64 l (i : Int)).f0.toList = (rd_T64 m (i : Int)).f0.toList) && (decide ((rd_T64 l (i : Int)).f1 = (rd_T64 m (i : Int)).f1) && (eqL pF (rd_T64 l (i : Int)).f2 (rd_T64 m (i : Int)).f2 && b))) := by
          show (cE (rd_T64 l (i : Int)) (rd_T64 m (i : Int)) && b) = _
          unfold cE
          rw [Bool.and_assoc, Bool.and_assoc]
        rw [e]
        refine Ev.step (fun k => ?_) (ev_if (ev_if (ev_and (ev_field (rd_T64 l (i : Int)).f2 (rd_T64 m (i : Int)).f2 (by omega)) hb2)))
        simp only [provisoplain_SameClasses.l0]
        rw [if_pos (by omega), if_pos (by omega), if_pos (by omega), if_pos (by omega), wrap_one hi (by omega)]) l.length 0 (by omega) (by omega)
    unfold eqL
    rw [and_true_ (decide_eq_true hl)]
    refine Ev.congr (fun k => ?_) h
    unfold provisoplain_SameClasses.f
    rw [if_pos (by omega)]
    rfl
  · unfold eqL
    rw [and_false_ (decide_eq_false hl)]
    refine Ev.congr (f := fun _ => some false) (fun k => ?_) (Ev.now _)
    unfold provisoplain_SameClasses.f
    rw [if_neg (by omega)]
theorem ev_refFunc (x y : S49) (h1 : x.f1.f0.length ≤ 9223372036854775807) (h3 : x.f3.length ≤ 9223372036854775807) : Ev (fun k => provisoplain_SameFunc.f k x.f0 x.f1.f0 x.f1.f1 x.f2 x.f3 y.f0 y.f1.f0 y.f1.f1 y.f2 y.f3) (fE x y) := by
  have e : fE x y = (decide (x.f0.toList = y.f0.toList) && ((decide (x.f1.f1 = y.f1.f1) && bE x.f1.f0 y.f1.f0) && (decide (x.f2 = y.f2) && bE x.f3 y.f3))) := by
    unfold fE
    cases decide (x.f1.f1 = y.f1.f1) <;> cases bE x.f1.f0 y.f1.f0 <;> rfl
  rw [e]
  exact ev_if (ev_and (ev_if (ev_some (ev_type _ _ h1))) (ev_if (ev_some (ev_byte _ _ h3))))
theorem ev_refModule (a0 : ByteArray) (a1 : List S64) (a2 : List S49) (a3 : List (List Int)) (b0 : ByteArray) (b1 : List S64) (b2 : List S49) (b3 : List (List Int)) (h : ModOk a1 a2 a3) : Ev (fun k => provisoplain_SameModule.f k a0 a1 a2 a3 b0 b1 b2 b3) (mE a0 a1 a2 a3 b0 b1 b2 b3) := by
  have hcl := ev_sameClasses a1 b1 h.cl h.cf
  have jf : Ev (fun k => provisoplain_SameModule.j0 k true a0 a1 a2 a3 b0 b1 b2 b3) false := Ev.step (f := fun _ => some false) (fun k => by simp only [provisoplain_SameModule.j0, if_true]) (Ev.now _)
  unfold mE
  by_cases hn : a0.toList = b0.toList
  · rw [and_true_ (decide_eq_true hn)]
    refine Ev.congr (fun k => by unfold provisoplain_SameModule.f; rw [if_pos hn]) (Ev.bind (f := fun k t => if t = true then (if (a2.length : Int) = (b2.length : Int) then (provisoplain_SameModule.j0 k ((a3.length : Int) != (b3.length : Int)) a0 a1 a2 a3 b0 b1 b2 b3) else (provisoplain_SameModule.j0 k true a0 a1 a2 a3 b0 b1 b2 b3)) else (provisoplain_SameModule.j0 k true a0 a1 a2 a3 b0 b1 b2 b3)) hcl ?_)
    cases eqL cE a1 b1 with
    | false => exact Ev.congr (fun k => by rw [if_neg (by decide)]) jf
    | true =>
      rw [Bool.true_and]
      by_cases h2 : a2.length = b2.length
      · by_cases h3 : a3.length = b3.length
        · have e : (eqL fE a2 b2 && eqL bE a3 b3) = (pairs fE a2 b2 && pairs bE a3 b3) := by
            unfold eqL
            rw [and_true_ (decide_eq_true h2), and_true_ (decide_eq_true h3)]
          rw [e]
          have hl1 := loop_pairs ([] : List Int) bE (fun k i => provisoplain_SameModule.l1 k (a3.length : Int) i a0 a1 a2 a3 b0 b1 b2 b3) a3 b3 h3
            (Ev.step (f := fun _ => some true) (fun k => by simp only [provisoplain_SameModule.l1]; rw [if_neg (by omega)]) (Ev.now _))
            (fun i hi b hb2 => by
              have hbb := h.bb _ (List.getElem_mem hi)
              rw [← rd_b hi] at hbb
              show Ev _ (bE (rd_L8 a3 (i : Int)) (rd_L8 b3 (i : Int)) && b)
              refine Ev.step (fun k => ?_) (ev_and (ev_byte (rd_L8 a3 (i : Int)) (rd_L8 b3 (i : Int)) (by omega)) hb2)
              simp only [provisoplain_SameModule.l1]
              rw [if_pos (by omega), if_pos (by omega), if_pos (by omega), if_pos (by omega), wrap_one hi (by have := h.bl; omega)]) a3.length 0 (by omega) (by omega)
          have hl0 : ∀ (d i : Nat), a2.length - i = d → i ≤ a2.length → Ev (fun k => provisoplain_SameModule.l0 k (a2.length : Int) (i : Int) a0 a1 a2 a3 b0 b1 b2 b3) (pairs fE (a2.drop i) (b2.drop i) && pairs bE a3 b3) := by
            intro d
            induction d with
            | zero =>
              intro i hd hi
              obtain rfl : i = a2.length := by omega
              rw [List.drop_length]
              show Ev _ (pairs bE a3 b3)
              refine Ev.step (fun k => ?_) hl1
              simp only [provisoplain_SameModule.l0]
              rw [if_neg (by omega)]
              rfl
            | succ d ih =>
              intro i hd hi
              have hi1 : i < a2.length := by omega
              have hi2 : i < b2.length := by omega
              have ih := ih (i + 1) (by omega) (by omega)
              have hp := h.fp _ (List.getElem_mem hi1)
              have hc := h.fc _ (List.getElem_mem hi1)
              rw [← rd_f hi1] at hp hc
              have e : (pairs fE (a2.drop i) (b2.drop i) && pairs bE a3 b3) = (fE (rd_T49 a2 (i : Int)) (rd_T49 b2 (i : Int)) && (pairs fE (a2.drop (i + 1)) (b2.drop (i + 1)) && pairs bE a3 b3)) := by
                rw [List.drop_eq_getElem_cons hi1, List.drop_eq_getElem_cons hi2, rd_f hi1, rd_f hi2]
                exact Bool.and_assoc _ _ _
              rw [e]
              refine Ev.step (fun k => ?_) (ev_and (ev_refFunc (rd_T49 a2 (i : Int)) (rd_T49 b2 (i : Int)) (by omega) (by omega)) ih)
              simp only [provisoplain_SameModule.l0]
              rw [if_pos (by omega), if_pos (by omega), if_pos (by omega), if_pos (by omega), wrap_one hi1 (by have := h.fl; omega)]
          have hz := hl0 a2.length 0 (by omega) (by omega)
          refine Ev.congr (fun k => by rw [if_pos rfl, if_pos (by omega), bne_eq_false_iff_eq.mpr (show (a3.length : Int) = (b3.length : Int) by omega)]) ?_
          refine Ev.step (fun k => ?_) hz
          simp only [provisoplain_SameModule.j0]
          rw [if_neg (by decide)]
          rfl
        · have e : (eqL fE a2 b2 && eqL bE a3 b3) = false := by
            unfold eqL
            rw [decide_eq_false h3, Bool.false_and, Bool.and_false]
          rw [e]
          exact Ev.congr (fun k => by rw [if_pos rfl, if_pos (by omega), bne_iff_ne.mpr (show (a3.length : Int) ≠ (b3.length : Int) by omega)]) jf
      · have e : (eqL fE a2 b2 && eqL bE a3 b3) = false := by
          unfold eqL
          rw [decide_eq_false h2, Bool.false_and, Bool.false_and]
        rw [e]
        exact Ev.congr (fun k => by rw [if_pos rfl, if_neg (by omega)]) jf
  · rw [and_false_ (decide_eq_false hn)]
    exact Ev.congr (fun k => by unfold provisoplain_SameModule.f; rw [if_neg hn]) jf
theorem ev_classes (l : List S64) (hs : l.length ≤ 2932031007320) (hf : ∀ x ∈ l, x.f2.length ≤ 5864062014640) : ∀ (d i : Nat), l.length - i = d → i ≤ l.length → Ev (fun k => provisoplain_Classes.l0 k (l.take i) l (l.length : Int) (i : Int)) l
  | 0, i, hd, hi => by
    obtain rfl : i = l.length := by omega
    rw [List.take_length]
    exact Ev.step (f := fun _ => some l) (fun k => by simp only [provisoplain_Classes.l0]; rw [if_neg (by omega)]) (Ev.now _)
  | d + 1, i, hd, hi => by
    have hlt : i < l.length := by omega
    have ih := ev_classes l hs hf d (i + 1) (by omega) (by omega)
    have hx := hf _ (List.getElem_mem hlt)
    refine Ev.step (fun k => ?_) ih
    simp only [provisoplain_Classes.l0]
    rw [if_pos (by omega), if_pos (by omega), if_pos (by omega), rd_cl hlt]
    unfold api_Field_59.f
    rw [if_pos (by omega)]
    simp only [Option.bind_some]
    rw [if_pos (by rw [List.length_take]; omega), wrap_one hlt (by omega), List.take_succ_eq_append_getElem hlt]
theorem ev_certs (x0 : ByteArray) (x1 : List S64) (x2 : List S49) (l : List (List Int)) (hs : l.length ≤ 5864062014640) (hf : ∀ x ∈ l, x.length ≤ 140737488351232) : ∀ (d i : Nat), l.length - i = d → i ≤ l.length → Ev (fun k => provisoplain_Module.l1 k l (l.length : Int) (i : Int) x0 x1 x2 (l.take i)) (x0, x1, x2, l)
  | 0, i, hd, hi => by
    obtain rfl : i = l.length := by omega
    rw [List.take_length]
    exact Ev.step (f := fun _ => some (x0, x1, x2, l)) (fun k => by simp only [provisoplain_Module.l1]; rw [if_neg (by omega)]) (Ev.now _)
  | d + 1, i, hd, hi => by
    have hlt : i < l.length := by omega
    have ih := ev_certs x0 x1 x2 l hs hf d (i + 1) (by omega) (by omega)
    have hx := hf _ (List.getElem_mem hlt)
    refine Ev.step (fun k => ?_) ih
    simp only [provisoplain_Module.l1]
    rw [if_pos (by omega), if_pos (by omega), if_pos (by omega), rd_b hlt]
    unfold slices_Clone_byte_byte.f
    rw [if_pos (by omega)]
    simp only [Option.bind_some]
    rw [if_pos (by rw [List.length_take]; omega), wrap_one hlt (by omega), List.take_succ_eq_append_getElem hlt]
theorem ev_funcs (a0 : ByteArray) (a1 : List S64) (a2 : List S49) (a3 : List (List Int)) (h : ModOk a1 a2 a3) : ∀ (d i : Nat), a2.length - i = d → i ≤ a2.length → Ev (fun k => provisoplain_Module.l0 k a2 (a2.length : Int) (i : Int) a0 a1 a2 a3 a0 a1 (a2.take i)) (a0, a1, a2, a3)
  | 0, i, hd, hi => by
    obtain rfl : i = a2.length := by omega
    rw [List.take_length]
    have hc := ev_certs a0 a1 a2 a3 h.bl h.bb a3.length 0 (by omega) (by omega)
    refine Ev.step (fun k => ?_) hc
    simp only [provisoplain_Module.l0]
    rw [if_neg (by omega), List.take_zero]
    rfl
  | d + 1, i, hd, hi => by
    have hlt : i < a2.length := by omega
    have ih := ev_funcs a0 a1 a2 a3 h d (i + 1) (by omega) (by omega)
    have hp := h.fp _ (List.getElem_mem hlt)
    have hc := h.fc _ (List.getElem_mem hlt)
    have hl := h.fl
    refine Ev.step (fun k => ?_) ih
    simp only [provisoplain_Module.l0]
    rw [if_pos (by omega), if_pos (by omega), if_pos (by omega), rd_f hlt]
    unfold provisoplain_Func.f provisoplain_Sig.f api_Type_104.f slices_Clone_byte_byte.f
    rw [if_pos (by omega), if_pos (by omega)]
    simp only [Option.bind_some]
    rw [if_pos (by rw [List.length_take]; omega), wrap_one hlt (by omega), List.take_succ_eq_append_getElem hlt]
theorem ev_module (a0 : ByteArray) (a1 : List S64) (a2 : List S49) (a3 : List (List Int)) (h : ModOk a1 a2 a3) : Ev (fun k => provisoplain_Module.f k a0 a1 a2 a3) (a0, a1, a2, a3) := by
  have hc := ev_classes a1 h.cl h.cf a1.length 0 (by omega) (by omega)
  have hf := ev_funcs a0 a1 a2 a3 h a2.length 0 (by omega) (by omega)
  rw [List.take_zero] at hc hf
  exact Ev.bind (f := fun k t => provisoplain_Module.l0 k a2 (a2.length : Int) 0 a0 a1 a2 a3 a0 t []) (Ev.congr (fun k => rfl) hc) hf
theorem mE_self (a0 : ByteArray) (a1 : List S64) (a2 : List S49) (a3 : List (List Int)) : mE a0 a1 a2 a3 a0 a1 a2 a3 = true := by
  unfold mE
  rw [eqL_self cE_self, eqL_self fE_self, eqL_self bE_self, decide_eq_true rfl]
  rfl
theorem mod_ok (a1 : List S64) (a2 : List S49) (a3 : List (List Int)) (h1 : a1.length ≤ 9223372036854775807 ∧ a1.length * 48 ≤ 140737488351232 ∧ ∀ x ∈ a1, Ok64 x) (h2 : a2.length ≤ 9223372036854775807 ∧ a2.length * 80 ≤ 140737488351232 ∧ ∀ x ∈ a2, Ok49 x) (h3 : a3.length ≤ 9223372036854775807 ∧ a3.length * 24 ≤ 140737488351232 ∧ ∀ x ∈ a3, (x.length ≤ 9223372036854775807 ∧ x.length * 1 ≤ 140737488351232 ∧ ∀ y ∈ x, (Lit.int .u8 y).wf = true)) : ModOk a1 a2 a3 :=
  ⟨by have := h1.2.1; omega, fun x hx => by have := (h1.2.2 x hx).2.2.2.1; omega, by have := h2.2.1; omega, fun x hx => by have := (h2.2.2 x hx).2.1.1.2.1; omega, fun x hx => by have := (h2.2.2 x hx).2.2.2.2.1; omega, by have := h3.2.1; omega, fun x hx => by have := (h3.2.2 x hx).2.1; omega⟩
end Go.Proofs.Ytdlmcjchnoeebaa.Pure

end

section
namespace Go.Proofs.Ytdlmcjchnoeebaa.P
open Go.RowKit Go.Proofs.YtdlmcjchnoeebaaW.PrintWords Go.Proofs.YtdlmcjchnoeebaaW.PrintLast Go.Proofs.YtdlmcjchnoeebaaW.PrintMore
set_option linter.unusedVariables false
set_option linter.unusedSimpArgs false

theorem w_next {i : Int} {n : Nat} (h0 : 0 ≤ i) (h : i < (n : Int)) (hn : n ≤ 9223372036854775807) : wrap64 (i + 1) = i + 1 := by
  unfold wrap64
  omega

def sign (i c : Int) : Bool :=
  (decide (97 ≤ c) && decide (c ≤ 122)) || (decide (65 ≤ c) && decide (c ≤ 90)) || (decide (0 < i) && ((decide (48 ≤ c) && decide (c ≤ 57)) || decide (c = 95)))
def tailOk (s : ByteArray) : Nat → Bool
  | 0 => true
  | d + 1 => sign ((s.size : Int) - (d + 1)) (bt s ((s.size : Int) - (d + 1))) && tailOk s d
def nameOk (s : ByteArray) : Bool := decide (1 ≤ s.size) && decide (s.size ≤ 24) && tailOk s s.size
theorem ref_name_tail (s : ByteArray) (hn : s.size ≤ 140737488351232) (d : Nat) : ∀ (i : Int), 0 ≤ i → i ≤ s.size → (s.size : Int) - i = d → Ev (fun k => provisoref02_IsName.l0 k s i) (tailOk s d) := by
  induction d with
  | zero =>
    intro i h0 h1 hd
    exact Ev.step (f := fun _ => some true) (fun k => by simp only [provisoref02_IsName.l0]; rw [if_neg (by omega)]) (Ev.now _)
  | succ d ih =>
    intro i h0 h1 hd
    have hlt : i < (s.size : Int) := by omega
    have hi : (s.size : Int) - (d + 1) = i := by omega
    have h := ih (i + 1) (by omega) (by omega) (by omega)
    cases hs : sign i (bt s i) with
    | true =>
      refine Ev.step (fun k => ?_) (show Ev _ (tailOk s (d + 1)) from by simp only [tailOk, hi, hs, Bool.true_and]; exact h)
      simp only [provisoref02_IsName.l0]
      rw [if_pos hlt, if_pos h0, w_next h0 hlt (by omega)]
      revert hs
      generalize bt s i = c
      intro hs
      by_cases a1 : 97 ≤ c <;> by_cases a2 : c ≤ 122 <;> by_cases a3 : 65 ≤ c <;> by_cases a4 : c ≤ 90 <;> by_cases a5 : i = 0 <;> by_cases a6 : c < 48 <;> by_cases a7 : 57 < c <;> by_cases a8 : c = 95 <;> (try omega) <;> (have a9 : 0 < i ∨ i = 0 := by omega) <;> simp [sign, a1, a2, a3, a4, a5, a6, a7, a8] at hs ⊢ <;> omega
    | false =>
      refine Ev.step (f := fun _ => some false) (fun k => ?_) (show Ev _ (tailOk s (d + 1)) from by simp only [tailOk, hi, hs, Bool.false_and]; exact Ev.now _)
      simp only [provisoref02_IsName.l0]
      rw [if_pos hlt, if_pos h0, w_next h0 hlt (by omega)]
      revert hs
      generalize bt s i = c
      intro hs
      by_cases a1 : 97 ≤ c <;> by_cases a2 : c ≤ 122 <;> by_cases a3 : 65 ≤ c <;> by_cases a4 : c ≤ 90 <;> by_cases a5 : i = 0 <;> by_cases a6 : c < 48 <;> by_cases a7 : 57 < c <;> by_cases a8 : c = 95 <;> (try omega) <;> (have a9 : 0 < i ∨ i = 0 := by omega) <;> simp [sign, a1, a2, a3, a4, a5, a6, a7, a8] at hs ⊢ <;> omega
theorem ref_name (s : ByteArray) (hn : s.size ≤ 140737488351232) : Ev (fun k => provisoref02_IsName.f k s) (nameOk s) := by
  have h := ref_name_tail s hn s.size 0 (by omega) (by omega) (by omega)
  by_cases a1 : (s.size : Int) < 1
  · have e : nameOk s = false := by unfold nameOk; rw [decide_eq_false (by omega)]; simp
    rw [e]
    refine Ev.congr (f := fun k => provisoref02_IsName.j0 k s true) (fun k => by unfold provisoref02_IsName.f; rw [if_pos a1]) ?_
    exact Ev.step (f := fun _ => some false) (fun k => by simp only [provisoref02_IsName.j0]; rfl) (Ev.now _)
  · refine Ev.congr (f := fun k => provisoref02_IsName.j0 k s (decide ((s.size : Int) > 24))) (fun k => by unfold provisoref02_IsName.f; rw [if_neg a1]) ?_
    by_cases a2 : (s.size : Int) > 24
    · have e : nameOk s = false := by unfold nameOk; rw [decide_eq_false (p := s.size ≤ 24) (by omega)]; simp
      rw [e]
      exact Ev.step (f := fun _ => some false) (fun k => by simp only [provisoref02_IsName.j0]; simp [a2]) (Ev.now _)
    · have e : nameOk s = tailOk s s.size := by unfold nameOk; rw [decide_eq_true (p := s.size ≤ 24) (by omega), decide_eq_true (p := 1 ≤ s.size) (by omega)]; simp
      rw [e]
      exact Ev.step (fun k => by simp only [provisoref02_IsName.j0]; simp [a2]) h

theorem str_eq (a b : ByteArray) : a.toList = b.toList ↔ a = b :=
  ⟨fun h => by rw [ByteArray.toList_eq, ByteArray.toList_eq] at h; exact Go.WideShapes.bytes_inj h, fun h => by rw [h]⟩
def words6 : List ByteArray := [⟨#[116, 111, 112]⟩, ⟨#[105, 110, 116]⟩, ⟨#[98, 111, 111, 108]⟩, ⟨#[110, 117, 108, 108]⟩, ⟨#[105, 110, 116, 115]⟩, ⟨#[97, 110, 121]⟩]
def isWordB (s : ByteArray) : Bool := words6.any fun t => decide (t = s)
theorem ref_word (s : ByteArray) : Ev (fun k => provisoref02_isWord.f k s) (isWordB s) := by
  have step : ∀ (x : Int) (t : ByteArray) (r : Bool), 0 ≤ x → x ≤ 5 → provisoref02_word.f x = some t → Ev (fun k => provisoref02_isWord.l0 k s (x + 1)) r → Ev (fun k => provisoref02_isWord.l0 k s x) (decide (t = s) || r) := by
    intro x t r h0 h5 ht h
    by_cases e : t = s
    · rw [decide_eq_true e, Bool.true_or]
      exact Ev.step (f := fun _ => some true) (fun k => by simp only [provisoref02_isWord.l0]; rw [if_pos (by omega), ht]; simp [e]) (Ev.now _)
    · rw [decide_eq_false e, Bool.false_or]
      refine Ev.step (fun k => ?_) h
      simp only [provisoref02_isWord.l0]
      rw [if_pos (by omega), ht]
      simp only [Option.bind_some, str_eq]
      rw [if_neg e, show (x + 1) % 256 = x + 1 from by omega]
  have h6 : Ev (fun k => provisoref02_isWord.l0 k s 6) false := Ev.step (f := fun _ => some false) (fun k => by simp only [provisoref02_isWord.l0]; rw [if_neg (by omega)]) (Ev.now _)
  have h := step 0 _ _ (by omega) (by omega) rfl (step 1 _ _ (by omega) (by omega) rfl (step 2 _ _ (by omega) (by omega) rfl (step 3 _ _ (by omega) (by omega) rfl (step 4 _ _ (by omega) (by omega) rfl (step 5 _ _ (by omega) (by omega) rfl h6)))))
  exact h

abbrev Tbl := List S64
def par (l : Tbl) (c : Int) : Int := (rd_T64 l c).f1
def nam (l : Tbl) (c : Int) : ByteArray := (rd_T64 l c).f0
def own (l : Tbl) (c : Int) : List S99 := (rd_T64 l c).f2
def Dec (l : Tbl) (n : Int) : Prop := ∀ i : Int, 0 ≤ i → i < n → par l i < i
def fieldsOf (l : Tbl) (c : Int) : List S99 := (climbL l c).reverse.flatMap fun i => own l i
theorem line_tells (l : Tbl) (n : Int) (hn : n ≤ l.length) (hl : l.length * 48 ≤ 140737488351232) (hd : Dec l n) : ∀ (d : Nat) (c : Int) (acc : List Int), c < n → (c + 1).toNat ≤ d → (acc.length : Int) + c < l.length → acc.length ≤ l.length →
    Ev (fun k => provisoref02_Line.l0 k l c acc) (acc ++ climbL l c)
  | 0, c, acc, _, h, _, _ => by
    rw [climbL_out l c (by omega), List.append_nil]
    exact Ev.step (f := fun _ => some acc) (fun k => by simp only [provisoref02_Line.l0]; rw [if_neg (by omega)]) (Ev.now _)
  | d + 1, c, acc, hc, hcd, ha, ha2 => by
    by_cases h0 : 0 ≤ c
    · have hp := hd c h0 hc
      have hcl : c < (l.length : Int) := by omega
      rw [climbL_in l c h0 hcl hp]
      have hx := line_tells l n hn hl hd d (par l c) (acc ++ [c]) (by omega) (by omega) (by simp; omega) (by simp; omega)
      rw [List.append_assoc] at hx
      refine Ev.step (fun k => ?_) hx
      simp only [provisoref02_Line.l0]
      rw [if_pos h0, if_pos hcl, if_pos (by omega), if_pos (by omega), if_pos h0]
      rfl
    · rw [climbL_out l c (by omega), List.append_nil]
      exact Ev.step (f := fun _ => some acc) (fun k => by simp only [provisoref02_Line.l0]; rw [if_neg (by omega)]) (Ev.now _)
theorem ref_line (l : Tbl) (n : Int) (hn : n ≤ l.length) (hl : l.length * 48 ≤ 140737488351232) (hd : Dec l n) (c : Int) (hc : c < n) : Ev (fun k => provisoref02_Line.f k l c) (climbL l c) := by
  by_cases h0 : l.length = 0
  · rw [climbL_out l c (by omega)]
    refine Ev.congr (f := fun k => provisoref02_Line.l0 k l c []) (fun k => rfl) ?_
    exact Ev.step (f := fun _ => some []) (fun k => by simp only [provisoref02_Line.l0]; rw [if_neg (by omega)]) (Ev.now _)
  · have := line_tells l n hn hl hd (c + 1).toNat c [] hc (Nat.le_refl _) (by simp; omega) (by simp)
    rw [List.nil_append] at this
    exact this
theorem fields_tells (l : Tbl) (line : List Int) (hm : ∀ x ∈ line, 0 ≤ x ∧ x < (l.length : Int)) (hl : l.length * 48 ≤ 140737488351232) (hll : line.length ≤ l.length) (hlim : (line.reverse.flatMap fun i => own l i).length < 5864062014805) : ∀ (d : Nat), d ≤ line.length →
    Ev (fun k => provisoref02_Fields.l0 k l line ((line.drop d).reverse.flatMap fun i => own l i) ((d : Int) - 1)) (line.reverse.flatMap fun i => own l i)
  | 0, _ => by
    rw [List.drop_zero]
    exact Ev.step (f := fun _ => some _) (fun k => by simp only [provisoref02_Fields.l0]; rw [if_neg (by omega)]) (Ev.now _)
  | d + 1, hd => by
    have ih := fields_tells l line hm hl hll hlim d (by omega)
    have hrd : rd line ((d : Nat) : Int) = line[d]'(by omega) := by simp [rd, List.getD_eq_getElem?_getD, show d < line.length by omega]
    have hmd := hm (line[d]'(by omega)) (List.getElem_mem _)
    have e1 : ((line.drop d).reverse.flatMap fun i => own l i) = ((line.drop (d + 1)).reverse.flatMap fun i => own l i) ++ own l (line[d]'(by omega)) := by
      rw [List.drop_eq_getElem_cons (by omega), List.reverse_cons, List.flatMap_append]
      simp
    have hle : ((line.drop d).reverse.flatMap fun i => own l i).length ≤ (line.reverse.flatMap fun i => own l i).length := by
      have : line = line.take d ++ line.drop d := by simp
      conv => rhs; rw [this, List.reverse_append, List.flatMap_append, List.length_append]
      omega
    rw [e1] at ih hle
    rw [List.length_append] at hle
    refine Ev.step (fun k => ?_) ih
    simp only [provisoref02_Fields.l0]
    rw [show ((d + 1 : Nat) : Int) - 1 = (d : Int) by omega, hrd, if_pos (by omega), if_pos (by omega), if_pos (by omega), if_pos hmd.1, if_pos hmd.2]
    rw [if_pos (by unfold own at hle hlim ⊢; omega), show wrap64 ((d : Int) - 1) = (d : Int) - 1 by unfold wrap64; omega]
    rfl
theorem ref_fields (l : Tbl) (n : Int) (hn : n ≤ l.length) (hl : l.length * 48 ≤ 140737488351232) (hd : Dec l n) (c : Int) (hc : c < n) (hlim : (fieldsOf l c).length < 5864062014805) : Ev (fun k => provisoref02_Fields.f k l c) (fieldsOf l c) := by
  have hll := climbL_length l c
  have h := fields_tells l (climbL l c) (climbL_mem l c) hl hll hlim (climbL l c).length (Nat.le_refl _)
  rw [List.drop_length, List.reverse_nil, List.flatMap_nil] at h
  refine Ev.congr (fun k => rfl) (Ev.bind (ref_line l n hn hl hd c hc) (f := fun k t => provisoref02_Fields.l0 k l t [] (wrap64 ((t.length : Int) - 1))) ?_)
  rw [show wrap64 (((climbL l c).length : Int) - 1) = ((climbL l c).length : Int) - 1 by unfold wrap64; omega]
  exact h

def hasB (fs : List S99) (s : ByteArray) : Bool := fs.any fun f => decide (f.f0 = s)
theorem has_tells (fs : List S99) (s : ByteArray) (hl : fs.length ≤ 9223372036854775807) : ∀ (d i : Nat), fs.length - i = d → i ≤ fs.length → Ev (fun k => provisoref02_has.l0 k fs s (i : Int)) (hasB (fs.drop i) s)
  | 0, i, hd, hi => by
    rw [List.drop_of_length_le (by omega)]
    exact Ev.step (f := fun _ => some false) (fun k => by simp only [provisoref02_has.l0]; rw [if_neg (by omega)]) (Ev.now _)
  | d + 1, i, hd, hi => by
    have ih := has_tells fs s hl d (i + 1) (by omega) (by omega)
    have hlt : i < fs.length := by omega
    have hrd : rd_T99 fs ((i : Nat) : Int) = fs[i] := by simp [rd_T99, List.getD_eq_getElem?_getD, hlt]
    rw [List.drop_eq_getElem_cons hlt]
    by_cases e : fs[i].f0 = s
    · have e2 : hasB (fs[i] :: fs.drop (i + 1)) s = true := by unfold hasB; rw [List.any_cons, decide_eq_true e, Bool.true_or]
      rw [e2]
      exact Ev.step (f := fun _ => some true) (fun k => by simp only [provisoref02_has.l0]; rw [if_pos (by omega), if_pos (by omega), hrd]; simp [e]) (Ev.now _)
    · have e2 : hasB (fs[i] :: fs.drop (i + 1)) s = hasB (fs.drop (i + 1)) s := by unfold hasB; rw [List.any_cons, decide_eq_false e, Bool.false_or]
      rw [e2]
      refine Ev.step (fun k => ?_) ih
      simp only [provisoref02_has.l0]
      rw [if_pos (by omega), if_pos (by omega), hrd, if_neg (by rw [str_eq]; exact e), w_next (n := fs.length) (by omega) (by omega) hl]
      rfl
theorem ref_has (fs : List S99) (s : ByteArray) (hl : fs.length ≤ 9223372036854775807) : Ev (fun k => provisoref02_has.f k fs s) (hasB fs s) := by
  have := has_tells fs s hl fs.length 0 (by omega) (by omega)
  rw [List.drop_zero] at this
  exact this
def validB (l : Tbl) (a : Int) : Bool := decide (a ≤ 5) || (decide (16 ≤ a) && decide (a - 16 < (l.length : Int)))
theorem ref_valid (l : Tbl) (a : Int) (ha : 0 ≤ a ∧ a ≤ 255) : provisoref02_Valid.f l a = some (validB l a) := by
  unfold provisoref02_Valid.f validB
  by_cases h1 : a ≤ 5
  · simp [h1]
  · by_cases h2 : a ≥ 16
    · rw [if_neg h1, if_pos h2, show (a - 16) % 256 = a - 16 by omega]
      simp [h1, h2]
    · rw [if_neg h1, if_neg h2]
      simp [h1, h2]
def storedB (l : Tbl) (a : Int) : Bool := validB l a && decide (a ≠ 0) && decide (a ≠ 3)
theorem ref_stored (l : Tbl) (a : Int) (ha : 0 ≤ a ∧ a ≤ 255) : provisoref02_Stored.f l a = some (storedB l a) := by
  unfold provisoref02_Stored.f storedB
  rw [ref_valid l a ha]
  simp only [Option.bind_some]
  cases validB l a <;> by_cases h0 : a = 0 <;> by_cases h3 : a = 3 <;> simp [h0, h3]
end Go.Proofs.Ytdlmcjchnoeebaa.P


end

section
namespace Go.Proofs.Ytdlmcjchnoeebaa.P
open Go.RowKit Go.Proofs.YtdlmcjchnoeebaaW.PrintWords Go.Proofs.YtdlmcjchnoeebaaW.PrintLast Go.Proofs.YtdlmcjchnoeebaaW.PrintMore
set_option linter.unusedVariables false
set_option linter.unusedSimpArgs false

def Sane (l : Tbl) : Prop := l.length ≤ 9223372036854775807 ∧ l.length * 48 ≤ 140737488351232 ∧ ∀ x ∈ l, Ok64 x
theorem rd_mem (l : Tbl) (c : Int) (h0 : 0 ≤ c) (h1 : c < (l.length : Int)) : rd_T64 l c ∈ l := by
  have h : c.toNat < l.length := by omega
  simp [rd_T64, List.getD_eq_getElem?_getD, h]
theorem Sane.size {l : Tbl} (h : Sane l) : l.length ≤ 2932031007320 := by have := h.2.1; omega
theorem Sane.nam {l : Tbl} (h : Sane l) {c : Int} (h0 : 0 ≤ c) (h1 : c < (l.length : Int)) : (nam l c).size ≤ 140737488351232 := (h.2.2 _ (rd_mem l c h0 h1)).1
theorem Sane.par {l : Tbl} (h : Sane l) {c : Int} (h0 : 0 ≤ c) (h1 : c < (l.length : Int)) : -9223372036854775808 ≤ par l c ∧ par l c ≤ 9223372036854775807 := by
  have := (h.2.2 _ (rd_mem l c h0 h1)).2.1
  simp [Lit.wf, IntKind.min, IntKind.max, IntKind.signed, IntKind.bits] at this
  exact this
theorem Sane.own {l : Tbl} (h : Sane l) {c : Int} (h0 : 0 ≤ c) (h1 : c < (l.length : Int)) : (own l c).length * 24 ≤ 140737488351232 ∧ ∀ x ∈ own l c, x.f0.size ≤ 140737488351232 ∧ (0 ≤ x.f1 ∧ x.f1 ≤ 255) := by
  obtain ⟨_, h2, h3⟩ := (h.2.2 _ (rd_mem l c h0 h1)).2.2
  refine ⟨h2, fun x hx => ⟨(h3 x hx).1, ?_⟩⟩
  have := (h3 x hx).2
  simp [Lit.wf, IntKind.min, IntKind.max, IntKind.signed, IntKind.bits] at this
  exact this

theorem nam_eq (l : Tbl) (i : Int) (s : ByteArray) : (rd_T64 l i).f0.toList = s.toList ↔ nam l i = s := str_eq _ _

def fieldFaultFrom (l : Tbl) (all fs : List S99) : Nat → Nat → Int
  | 0, _ => if (fs.length : Int) > 32 - (all.length : Int) then 4 else 0
  | d + 1, i => if nameOk (rd_T99 fs i).f0 = true then (if hasB all (rd_T99 fs i).f0 = true then 20 else if hasB (fs.take i) (rd_T99 fs i).f0 = true then 20 else if storedB l (rd_T99 fs i).f1 = true then fieldFaultFrom l all fs d (i + 1) else 22) else 6
def fieldFault (l : Tbl) (all fs : List S99) : Int := fieldFaultFrom l all fs fs.length 0
def aheadFrom (l : Tbl) (c : Int) : Nat → Bool
  | 0 => false
  | d + 1 => decide (nam l (c - (d + 1)) = nam l c) || aheadFrom l c d
def aheadB (l : Tbl) (c : Int) : Bool := aheadFrom l c c.toNat
def parFault (l : Tbl) (c : Int) : Int := if par l c < -1 then 21 else if par l c ≥ c then 21 else fieldFault l (fieldsOf l (par l c)) (own l c)
def faultB (l : Tbl) (c : Int) : Int :=
  if c ≥ 32 then 4 else if nameOk (nam l c) = true then (if isWordB (nam l c) = true then 6 else if aheadB l c = true then 20 else parFault l c) else 6

theorem fields_fault (l : Tbl) (all fs : List S99) (h1 : all.length ≤ 5864062014805) (h2 : fs.length * 24 ≤ 140737488351232) (h3 : ∀ x ∈ fs, x.f0.size ≤ 140737488351232 ∧ (0 ≤ x.f1 ∧ x.f1 ≤ 255)) (nm : ByteArray) (pr : Int) : ∀ (d i : Nat), fs.length - i = d → i ≤ fs.length →
    Ev (fun k => provisoref02_fault.l1 k l all (i : Int) nm pr fs) (fieldFaultFrom l all fs d i)
  | 0, i, hd, hi => by
    unfold fieldFaultFrom
    refine Ev.step (f := fun _ => some _) (fun k => ?_) (Ev.now _)
    simp only [provisoref02_fault.l1]
    rw [if_neg (by omega), show wrap64 (32 - (all.length : Int)) = 32 - (all.length : Int) by unfold wrap64; omega]
    split <;> rfl
  | d + 1, i, hd, hi => by
    have hlt : i < fs.length := by omega
    have hrd : rd_T99 fs ((i : Nat) : Int) = fs[i] := by simp [rd_T99, List.getD_eq_getElem?_getD, hlt]
    obtain ⟨hs, ht⟩ := h3 fs[i] (List.getElem_mem _)
    have ih := fields_fault l all fs h1 h2 h3 nm pr d (i + 1) (by omega) (by omega)
    unfold fieldFaultFrom
    rw [hrd]
    refine Ev.step (fun k => by simp only [provisoref02_fault.l1]; rw [if_pos (by omega), if_pos (by omega), hrd]) ?_
    refine Ev.bind (f := fun k t => if t = true then _ else _) (ref_name _ hs) ?_
    cases nameOk fs[i].f0 with
    | false => exact Ev.now _
    | true =>
      refine Ev.bind (f := fun k t => if t = true then _ else _) (ref_has all _ (by omega)) ?_
      cases hasB all fs[i].f0 with
      | true => exact Ev.now _
      | false =>
        refine Ev.congr (f := fun k => (provisoref02_has.f k (fs.take i) fs[i].f0).bind _) (fun k => by
          show (if (i : Int) ≤ (fs.length : Int) then _ else _) = _
          rw [if_pos (by omega), Int.toNat_natCast]) ?_
        refine Ev.bind (f := fun k t => if t = true then _ else _) (ref_has (fs.take i) _ (by simp; omega)) ?_
        cases hasB (fs.take i) fs[i].f0 with
        | true => exact Ev.now _
        | false =>
          refine Ev.congr (f := fun k => if storedB l fs[i].f1 = true then _ else _) (fun k => by
            show (provisoref02_Stored.f l fs[i].f1).bind _ = _
            rw [ref_stored l _ ht]
            rfl) ?_
          cases storedB l fs[i].f1 with
          | false => exact Ev.now _
          | true =>
            refine Ev.congr (fun k => ?_) ih
            show provisoref02_fault.l1 k l all (wrap64 ((i : Int) + 1)) nm pr fs = _
            rw [w_next (n := fs.length) (by omega) (by omega) (by omega)]
            rfl
theorem par_fault (l : Tbl) (hs : Sane l) (c : Int) (h0 : 0 ≤ c) (h1 : c < (l.length : Int)) (hd : Dec l c) (hlim : ∀ p : Int, -1 ≤ p → p < c → (fieldsOf l p).length ≤ 32) :
    Ev (fun k => provisoref02_fault.l0 k l c c (nam l c) (par l c) (own l c)) (parFault l c) := by
  unfold parFault
  have hj : Ev (fun k => provisoref02_fault.j2 k l true (nam l c) (par l c) (own l c)) 21 := Ev.step (f := fun _ => some 21) (fun k => by simp only [provisoref02_fault.j2]; rfl) (Ev.now _)
  by_cases p1 : par l c < -1
  · rw [if_pos p1]
    exact Ev.step (fun k => by simp only [provisoref02_fault.l0]; rw [if_neg (by omega), if_pos p1]) hj
  · rw [if_neg p1]
    by_cases p2 : par l c ≥ c
    · rw [if_pos p2]
      exact Ev.step (fun k => by simp only [provisoref02_fault.l0]; rw [if_neg (by omega), if_neg p1, decide_eq_true p2]) hj
    · rw [if_neg p2]
      refine Ev.step (f := fun k => provisoref02_fault.j2 k l false (nam l c) (par l c) (own l c)) (fun k => by simp only [provisoref02_fault.l0]; rw [if_neg (by omega), if_neg p1, decide_eq_false p2]) ?_
      have hlp := hlim (par l c) (by omega) (by omega)
      refine Ev.step (f := fun k => (provisoref02_Fields.f k l (par l c)).bind fun t => provisoref02_fault.l1 k l t 0 (nam l c) (par l c) (own l c)) (fun k => by simp only [provisoref02_fault.j2]; rfl) ?_
      refine Ev.bind (f := fun k t => provisoref02_fault.l1 k l t 0 (nam l c) (par l c) (own l c)) (ref_fields l c (by omega) hs.2.1 hd (par l c) (by omega) (by omega)) ?_
      exact fields_fault l _ (own l c) (by omega) (hs.own h0 h1).1 (hs.own h0 h1).2 _ _ _ 0 (by omega) (by omega)
theorem ahead_fault (l : Tbl) (hs : Sane l) (c : Int) (h0 : 0 ≤ c) (h1 : c < (l.length : Int)) (hd : Dec l c) (hlim : ∀ p : Int, -1 ≤ p → p < c → (fieldsOf l p).length ≤ 32) : ∀ (d : Nat), (d : Int) ≤ c →
    Ev (fun k => provisoref02_fault.l0 k l c (c - d) (nam l c) (par l c) (own l c)) (if aheadFrom l c d = true then 20 else parFault l c)
  | 0, _ => by
    have := par_fault l hs c h0 h1 hd hlim
    simpa [aheadFrom] using this
  | d + 1, hdc => by
    have ih := ahead_fault l hs c h0 h1 hd hlim d (by omega)
    have hsz := hs.size
    have e1 : c - ((d : Int) + 1) + 1 = c - d := by omega
    by_cases e : nam l (c - ((d : Int) + 1)) = nam l c
    · have e2 : aheadFrom l c (d + 1) = true := by unfold aheadFrom; rw [decide_eq_true e, Bool.true_or]
      rw [e2, if_pos rfl]
      refine Ev.step (f := fun _ => some 20) (fun k => ?_) (Ev.now _)
      show provisoref02_fault.l0 (k + 1) l c (c - ((d : Int) + 1)) (nam l c) (par l c) (own l c) = _
      simp only [provisoref02_fault.l0]
      rw [if_pos (by omega), if_pos (by omega), if_pos (by omega), if_pos ((nam_eq l _ _).mpr e)]
    · have e2 : aheadFrom l c (d + 1) = aheadFrom l c d := by conv => lhs; unfold aheadFrom
                                                              rw [decide_eq_false e, Bool.false_or]
      rw [e2]
      refine Ev.step (fun k => ?_) ih
      show provisoref02_fault.l0 (k + 1) l c (c - ((d : Int) + 1)) (nam l c) (par l c) (own l c) = _
      simp only [provisoref02_fault.l0]
      rw [if_pos (by omega), if_pos (by omega), if_pos (by omega), if_neg (fun h9 => e ((nam_eq l _ _).mp h9)), show wrap64 (c - ((d : Int) + 1) + 1) = c - d by rw [e1]; unfold wrap64; omega]
theorem ref_fault (l : Tbl) (hs : Sane l) (c : Int) (h0 : 0 ≤ c) (h1 : c < (l.length : Int)) (hd : Dec l c) (hlim : ∀ p : Int, -1 ≤ p → p < c → (fieldsOf l p).length ≤ 32) : Ev (fun k => provisoref02_fault.f k l c) (faultB l c) := by
  unfold faultB
  have ha := ahead_fault l hs c h0 h1 hd hlim c.toNat (by omega)
  rw [show c - (c.toNat : Int) = 0 by omega] at ha
  have hj : ∀ b : Bool, Ev (fun k => provisoref02_fault.j0 k l c b (nam l c) (par l c) (own l c)) (if b = true then 6 else if aheadB l c = true then 20 else parFault l c) := by
    intro b
    cases b with
    | true => exact Ev.step (f := fun _ => some 6) (fun k => by simp only [provisoref02_fault.j0]; rfl) (Ev.now _)
    | false => exact Ev.step (fun k => by simp only [provisoref02_fault.j0]; rfl) ha
  by_cases h32 : c ≥ 32
  · rw [if_pos h32]
    exact Ev.congr (f := fun _ => some 4) (fun k => by unfold provisoref02_fault.f; rw [if_pos h0, if_pos h1, if_pos h32]) (Ev.now _)
  · rw [if_neg h32]
    refine Ev.congr (fun k => by unfold provisoref02_fault.f; rw [if_pos h0, if_pos h1, if_neg h32]; rfl) (Ev.bind (f := fun k t => if t = true then ((provisoref02_isWord.f k (nam l c)).bind fun t119 => provisoref02_fault.j0 k l c t119 (nam l c) (par l c) (own l c)) else provisoref02_fault.j0 k l c true (nam l c) (par l c) (own l c)) (ref_name _ (hs.nam h0 h1)) ?_)
    have hjt := hj true
    cases nameOk (nam l c) with
    | false => exact hjt
    | true => exact Ev.bind (f := fun k t => provisoref02_fault.j0 k l c t (nam l c) (par l c) (own l c)) (ref_word _) (hj _)

def GoodTo (l : Tbl) (n : Int) : Prop := ∀ c : Int, 0 ≤ c → c < n → faultB l c = 0
theorem field_fault_long (l : Tbl) (all fs : List S99) : ∀ (d i : Nat), fieldFaultFrom l all fs d i = 0 → (fs.length : Int) ≤ 32 - all.length
  | 0, i, h => by
    unfold fieldFaultFrom at h
    split at h <;> omega
  | d + 1, i, h => by
    unfold fieldFaultFrom at h
    split at h
    · split at h
      · omega
      · split at h
        · omega
        · split at h
          · exact field_fault_long l all fs d (i + 1) h
          · omega
    · omega
theorem fault_zero {l : Tbl} {c : Int} (h : faultB l c = 0) : c < 32 ∧ nameOk (nam l c) = true ∧ isWordB (nam l c) = false ∧ aheadB l c = false ∧ -1 ≤ par l c ∧ par l c < c ∧ fieldFault l (fieldsOf l (par l c)) (own l c) = 0 := by
  unfold faultB parFault at h
  split at h
  · omega
  · split at h
    · split at h
      · omega
      · split at h
        · omega
        · split at h
          · omega
          · split at h
            · omega
            · rename_i h1 h2 h3 h4 h5 h6
              exact ⟨by omega, h2, by simpa using h3, by simpa using h4, by omega, by omega, h⟩
    · omega
theorem GoodTo.dec {l : Tbl} {n : Int} (h : GoodTo l n) : Dec l n := fun i h0 h1 => (fault_zero (h i h0 h1)).2.2.2.2.2.1
theorem fieldsOf_in (l : Tbl) (c : Int) (h0 : 0 ≤ c) (h1 : c < (l.length : Int)) (h2 : par l c < c) : fieldsOf l c = fieldsOf l (par l c) ++ own l c := by
  unfold fieldsOf
  rw [climbL_in l c h0 h1 h2, List.reverse_cons, List.flatMap_append]
  simp [par]
theorem fieldsOf_out (l : Tbl) (c : Int) (h : ¬ (0 ≤ c ∧ c < (l.length : Int))) : fieldsOf l c = [] := by
  unfold fieldsOf
  rw [climbL_out l c h]
  rfl
theorem GoodTo.fields {l : Tbl} {n : Int} (hn : n ≤ l.length) (h : GoodTo l n) (c : Int) (hc : c < n) : (fieldsOf l c).length ≤ 32 := by
  by_cases h0 : 0 ≤ c
  · obtain ⟨_, _, _, _, h5, h6, h7⟩ := fault_zero (h c h0 hc)
    have := field_fault_long l _ _ _ _ h7
    rw [fieldsOf_in l c h0 (by omega) h6, List.length_append]
    omega
  · rw [fieldsOf_out l c (by omega)]
    simp
def checkFrom (l : Tbl) : Nat → Int → Int × Int
  | 0, _ => (0, 0)
  | d + 1, c => if faultB l c = 0 then checkFrom l d (c + 1) else (c, faultB l c)
def checkB (l : Tbl) : Int × Int := checkFrom l l.length 0
theorem check_tells (l : Tbl) (hs : Sane l) : ∀ (d : Nat) (c : Int), 0 ≤ c → (l.length : Int) - c = d → GoodTo l c → Ev (fun k => provisoref02_Check.l0 k l c) (checkFrom l d c)
  | 0, c, h0, hd, hg => by
    unfold checkFrom
    exact Ev.step (f := fun _ => some _) (fun k => by simp only [provisoref02_Check.l0]; rw [if_neg (by omega)]) (Ev.now _)
  | d + 1, c, h0, hd, hg => by
    have hf := ref_fault l hs c h0 (by omega) hg.dec (fun p hp1 hp2 => hg.fields (by omega) p hp2)
    unfold checkFrom
    refine Ev.step (fun k => by simp only [provisoref02_Check.l0]; rw [if_pos (by omega)]) (Ev.bind (f := fun k t => if t = 0 then _ else _) hf ?_)
    by_cases e : faultB l c = 0
    · rw [if_pos e]
      have hsz := hs.size
      refine Ev.congr (fun k => ?_) (check_tells l hs d (c + 1) (by omega) (by omega) (fun i hi0 hi1 => if hi : i < c then hg i hi0 hi else by rw [show i = c by omega]; exact e))
      rw [if_pos e, show wrap64 (c + 1) = c + 1 by unfold wrap64; omega]
    · rw [if_neg e]
      exact Ev.congr (f := fun _ => some _) (fun k => by rw [if_neg e]) (Ev.now _)
theorem ref_check (l : Tbl) (hs : Sane l) : Ev (fun k => provisoref02_Check.f k l) (checkB l) :=
  check_tells l hs l.length 0 (by omega) (by omega) (fun i h0 h1 => by omega)
def Good (l : Tbl) : Prop := GoodTo l l.length
theorem Good.dec {l : Tbl} (h : Good l) : Dec l l.length := GoodTo.dec h
end Go.Proofs.Ytdlmcjchnoeebaa.P


end

section
namespace Go.Proofs.Ytdlmcjchnoeebaa.P
open Go.RowKit Go.Proofs.YtdlmcjchnoeebaaW.PrintWords Go.Proofs.YtdlmcjchnoeebaaW.PrintLast Go.Proofs.YtdlmcjchnoeebaaW.PrintMore
set_option linter.unusedVariables false
set_option linter.unusedSimpArgs false

def idxFrom (ws : List ByteArray) (s : ByteArray) : Nat → Nat → Int
  | 0, _ => -1
  | d + 1, i => if s = ws.getD i ByteArray.empty then (i : Int) else idxFrom ws s d (i + 1)
theorem index_tells (ws : List ByteArray) (s : ByteArray) (hw : ws.length ≤ 9223372036854775807) : ∀ (d i : Nat), ws.length - i = d → i ≤ ws.length → Ev (fun k => slices_Index_string_string.l0 k ws s (ws.length : Int) (i : Int)) (idxFrom ws s d i)
  | 0, i, hd, hi => Ev.step (f := fun _ => some (-1)) (fun k => by simp only [slices_Index_string_string.l0]; rw [if_neg (by omega)]) (Ev.now _)
  | d + 1, i, hd, hi => by
    have ih := index_tells ws s hw d (i + 1) (by omega) (by omega)
    unfold idxFrom
    have hrd : rdOf ByteArray.empty ws ((i : Nat) : Int) = ws.getD i ByteArray.empty := by simp [rdOf]
    by_cases e : s = ws.getD i ByteArray.empty
    · rw [if_pos e]
      exact Ev.step (f := fun _ => some _) (fun k => by simp only [slices_Index_string_string.l0]; rw [if_pos (by omega), if_pos (by omega), if_pos (by omega), hrd, if_pos ((str_eq _ _).mpr e)]) (Ev.now _)
    · rw [if_neg e]
      refine Ev.step (fun k => ?_) ih
      simp only [slices_Index_string_string.l0]
      rw [if_pos (by omega), if_pos (by omega), if_pos (by omega), hrd, if_neg (fun h9 => e ((str_eq _ _).mp h9)), w_next (n := ws.length) (by omega) (by omega) (by omega)]
      rfl
theorem rd_class (l : Tbl) (i : Nat) (h : i < l.length) : rd_T64 l (i : Int) = l[i] := by simp [rd_T64, List.getD_eq_getElem?_getD, h]
theorem words_is : types_words.f = some words6 := rfl
theorem class_valid (l : Tbl) (a : Int) (ha : 0 ≤ a ∧ a ≤ 255) : classOf l a = if 16 ≤ a ∧ a - 16 < (l.length : Int) then a - 16 else -1 := by
  unfold classOf
  by_cases h1 : a < 16
  · rw [if_pos h1, if_neg (by omega)]
  · rw [if_neg h1, show (a - 16) % 256 = a - 16 by omega]
    by_cases h2 : a - 16 ≥ (l.length : Int)
    · rw [if_pos h2, if_neg (by omega)]
    · rw [if_neg h2, if_pos (by omega)]
theorem impl_valid (l : Tbl) (a : Int) (ha : 0 ≤ a ∧ a ≤ 255) : types_Valid.f l a = some (validB l a) := by
  unfold types_Valid.f validB
  by_cases h1 : a ≤ 5
  · simp [h1]
  · rw [if_neg h1, class_is, class_valid l a ha]
    by_cases h2 : 16 ≤ a ∧ a - 16 < (l.length : Int)
    · rw [if_pos h2]
      simp [h1, h2.1, h2.2]
    · rw [if_neg h2]
      simp [h1]
      omega
theorem impl_name_tail (s : ByteArray) (hn : s.size ≤ 140737488351232) (d : Nat) : ∀ (k : Nat) (i : Int), 0 ≤ i → i ≤ s.size → (s.size : Int) - i = d → 3 * d < k → wire_IsName.l0 k s (s.size : Int) i = some (tailOk s d) := by
  induction d with
  | zero =>
    intro k i h0 h1 hd hk
    obtain ⟨k, rfl⟩ : ∃ m, k = m + 1 := ⟨k - 1, by omega⟩
    simp only [wire_IsName.l0]; rw [if_neg (by omega)]; rfl
  | succ d ih =>
    intro k i h0 h1 hd hk
    obtain ⟨k, rfl⟩ : ∃ m, k = m + 3 := ⟨k - 3, by omega⟩
    have hlt : i < (s.size : Int) := by omega
    have hi : (s.size : Int) - (d + 1) = i := by omega
    have h := ih k (i + 1) (by omega) (by omega) (by omega) (by omega)
    simp only [wire_IsName.l0, wire_IsName.j2, wire_IsName.j3, tailOk, hi]
    rw [if_pos hlt, if_pos h0, if_pos hlt, w_next h0 hlt (by omega)]
    have h' : wire_IsName.l0 k s (s.size : Int) (i + 1) = some (tailOk s d) := h
    rw [h']
    generalize bt s i = c
    generalize tailOk s d = t
    by_cases a1 : 97 ≤ c <;> by_cases a2 : c ≤ 122 <;> by_cases a3 : 65 ≤ c <;> by_cases a4 : c ≤ 90 <;> by_cases a5 : 0 < i <;> by_cases a6 : 48 ≤ c <;> by_cases a7 : c ≤ 57 <;> by_cases a8 : c = 95 <;> (try omega) <;> simp [sign, a1, a2, a3, a4, a5, a6, a7, a8]
theorem impl_name (s : ByteArray) (hn : s.size ≤ 140737488351232) : Ev (fun k => wire_IsName.f k s) (nameOk s) := by
  refine Ev.of (fun k => wire_IsName.mono s k) (k := 3 * s.size + 2) ?_
  have h1 := impl_name_tail s hn s.size (3 * s.size + 1) 0 (by omega) (by omega) (by omega) (by omega)
  unfold wire_IsName.f nameOk
  simp only [wire_IsName.j0, h1]
  by_cases a1 : (s.size : Int) = 0
  · rw [if_pos a1, decide_eq_false (by omega)]
    simp
  · rw [if_neg a1, decide_eq_true (by omega : 1 ≤ s.size)]
    by_cases a3 : (s.size : Int) > 24
    · rw [decide_eq_true a3, decide_eq_false (by omega : ¬ s.size ≤ 24)]
      simp
    · rw [decide_eq_false a3, decide_eq_true (by omega : s.size ≤ 24)]
      simp
def memB (ws : List ByteArray) (s : ByteArray) : Bool := ws.any fun t => decide (t = s)
theorem memB_iff (ws : List ByteArray) (s : ByteArray) : memB ws s = true ↔ s ∈ ws := by
  unfold memB
  rw [List.any_eq_true]
  exact ⟨fun ⟨x, h1, h2⟩ => (of_decide_eq_true h2) ▸ h1, fun h => ⟨s, h, decide_eq_true rfl⟩⟩
theorem idx_mem (ws : List ByteArray) (s : ByteArray) : ∀ (d i : Nat), i + d = ws.length → decide (idxFrom ws s d i ≥ 0) = memB (ws.drop i) s
  | 0, i, h => by
    rw [List.drop_of_length_le (by omega)]
    rfl
  | d + 1, i, h => by
    have hi : i < ws.length := by omega
    have hg : ws.getD i ByteArray.empty = ws[i] := by simp [List.getD_eq_getElem?_getD, hi]
    rw [List.drop_eq_getElem_cons hi]
    show decide ((if s = ws.getD i ByteArray.empty then (i : Int) else idxFrom ws s d (i + 1)) ≥ 0) = _
    rw [hg]
    by_cases e : s = ws[i]
    · rw [if_pos e, decide_eq_true (by omega), (memB_iff _ _).2 (by rw [e]; exact List.mem_cons_self)]
    · rw [if_neg e, idx_mem ws s d (i + 1) (by omega), Bool.eq_iff_iff, memB_iff, memB_iff, List.mem_cons]
      exact ⟨.inr, fun h => h.resolve_left e⟩
theorem impl_contains (ws : List ByteArray) (s : ByteArray) (hw : ws.length ≤ 9223372036854775807) : Ev (fun k => slices_Contains_string_string.f k ws s) (memB ws s) := by
  have h := idx_mem ws s ws.length 0 (by omega)
  rw [List.drop_zero] at h
  rw [← h]
  unfold slices_Contains_string_string.f
  exact Ev.bind (index_tells ws s hw ws.length 0 (by omega) (by omega)) (Ev.now _)
theorem impl_stored (l : Tbl) (a : Int) (ha : 0 ≤ a ∧ a ≤ 255) : types_stored.f l a = some (storedB l a) := by
  unfold types_stored.f storedB
  rw [class_is, Option.bind_some, class_valid l a ha]
  by_cases h1 : a = 1
  · subst h1; simp [validB]
  · by_cases h2 : a = 2
    · subst h2; simp [validB]
    · by_cases h4 : a = 4
      · subst h4; simp [validB]
      · by_cases h5 : a = 5
        · subst h5; simp [validB]
        · rw [if_neg h1, if_neg h2, if_neg h4, if_neg h5]
          by_cases h6 : 16 ≤ a ∧ a - 16 < (l.length : Int)
          · rw [if_pos h6]
            have : a ≠ 0 ∧ a ≠ 3 := by omega
            simp [validB, this.1, this.2, h6.1, h6.2]
          · rw [if_neg h6]
            by_cases h7 : a ≤ 5
            · have : a = 0 ∨ a = 3 := by omega
              rcases this with rfl | rfl <;> simp
            · have : validB l a = false := by
                rw [Bool.eq_false_iff, Ne, show (validB l a = true ↔ _) from by unfold validB; simp; exact Iff.rfl]
                omega
              rw [this]
              simp

theorem hasB_mem (fs : List S99) (s : ByteArray) : hasB fs s = memB (namesOf fs) s := by
  rw [Bool.eq_iff_iff, memB_iff]
  unfold hasB namesOf
  rw [List.any_eq_true, List.mem_map]
  exact ⟨fun ⟨x, h1, h2⟩ => ⟨x, h1, of_decide_eq_true h2⟩, fun ⟨x, h1, h2⟩ => ⟨x, h1, decide_eq_true h2⟩⟩
theorem met_mem (l : Tbl) (line : List Int) (s : ByteArray) : s ∈ metOf l line ↔ s ∈ namesOf (line.reverse.flatMap fun i => own l i) := by
  unfold metOf namesOf own
  rw [List.map_flatMap, List.mem_flatMap, List.mem_flatMap]
  simp only [List.mem_reverse]
theorem met_len (l : Tbl) : ∀ (line : List Int), (metOf l line).length = (line.reverse.flatMap fun i => own l i).length
  | [] => rfl
  | x :: line => by
    have ih := met_len l line
    unfold metOf at ih ⊢
    rw [List.flatMap_cons, List.length_append, ih, List.reverse_cons, List.flatMap_append, List.length_append]
    unfold namesOf own
    simp
    omega
theorem fault_tells (l : Tbl) (all : List S99) (met : List ByteArray) (hm : ∀ s, s ∈ met ↔ s ∈ namesOf all) (hml : met.length = all.length) (h1 : all.length ≤ 32) (fs : List S99) (h2 : fs.length * 24 ≤ 140737488351232) (h3 : ∀ x ∈ fs, x.f0.size ≤ 140737488351232 ∧ (0 ≤ x.f1 ∧ x.f1 ≤ 255)) : ∀ (d i : Nat), i + d = fs.length →
    Ev (fun k => types_fields.l0 k l fs i (met ++ namesOf (fs.take i))) (fieldFaultFrom l all fs d i)
  | 0, i, hd => by
    refine Ev.step (f := fun _ => some (if (fs.length : Int) > 32 - (all.length : Int) then 4 else 0)) (fun k => ?_) (Ev.now _)
    simp only [types_fields.l0]
    rw [if_neg (by omega)]
    have hl : (met ++ namesOf (fs.take i)).length = all.length + fs.length := by
      rw [List.length_append, names_len fs i (by omega), hml]
      omega
    rw [hl]
    by_cases e : (fs.length : Int) > 32 - (all.length : Int)
    · rw [if_pos e, if_pos (by omega)]
    · rw [if_neg e, if_neg (by omega)]
  | d + 1, i, hd => by
    have hi : i < fs.length := by omega
    have ih := fault_tells l all met hm hml h1 fs h2 h3 d (i + 1) (by omega)
    rw [names_next fs i hi, ← List.append_assoc] at ih
    have hx : rd_T99 fs (i : Int) ∈ fs := by
      have : rd_T99 fs (i : Int) = fs[i] := by simp [rd_T99, List.getD_eq_getElem?_getD, hi]
      rw [this]
      exact List.getElem_mem hi
    obtain ⟨q1, q2⟩ := h3 _ hx
    have hlen : (met ++ namesOf (fs.take i)).length = all.length + i := by rw [List.length_append, names_len fs i (by omega), hml]
    unfold fieldFaultFrom
    refine Ev.step (f := fun k => (wire_IsName.f k (rd_T99 fs i).f0).bind fun a => if a = true then ((slices_Contains_string_string.f k (met ++ namesOf (fs.take i)) (rd_T99 fs i).f0).bind fun b => if b = true then some 20 else ((types_stored.f l (rd_T99 fs i).f1).bind fun c => if c = true then types_fields.l0 k l fs (i + 1) (met ++ namesOf (fs.take i) ++ [(rd_T99 fs i).f0]) else some 22)) else some 6) (fun k => ?_) ?_
    · simp only [types_fields.l0]
      rw [if_pos hi, if_pos (by omega)]
    · refine Ev.bind (impl_name _ q1) ?_
      cases nameOk (rd_T99 fs i).f0 with
      | false =>
        show Ev _ (6 : Int)
        exact Ev.congr (fun k => by rw [if_neg (by simp)]) (Ev.now _)
      | true =>
        refine Ev.congr (fun k => by rw [if_pos rfl]) (Ev.bind (impl_contains _ _ (by omega)) ?_)
        rw [if_pos rfl]
        by_cases e1 : hasB all (rd_T99 fs i).f0 = true
        · have e1' := e1
          rw [hasB_mem, memB_iff, ← hm] at e1'
          rw [if_pos e1, (memB_iff _ _).2 (List.mem_append_left _ e1')]
          exact Ev.congr (fun k => by rw [if_pos rfl]) (Ev.now _)
        · by_cases e2 : hasB (fs.take i) (rd_T99 fs i).f0 = true
          · have e2' := e2
            rw [hasB_mem, memB_iff] at e2'
            rw [if_neg e1, if_pos e2, (memB_iff _ _).2 (List.mem_append_right _ e2')]
            exact Ev.congr (fun k => by rw [if_pos rfl]) (Ev.now _)
          · have e3 : ¬ (rd_T99 fs i).f0 ∈ met ++ namesOf (fs.take i) := by
              rw [List.mem_append, hm]
              rw [hasB_mem, memB_iff] at e1 e2
              exact fun h => h.elim e1 e2
            rw [if_neg e1, if_neg e2, Bool.eq_false_iff.mpr (fun h => e3 ((memB_iff _ _).1 h))]
            refine Ev.congr (fun k => by rw [if_neg (by simp), impl_stored l _ q2, Option.bind_some]) ?_
            cases storedB l (rd_T99 fs i).f1 with
            | false =>
              show Ev _ (22 : Int)
              exact Ev.congr (fun k => by rw [if_neg (by simp)]) (Ev.now _)
            | true => exact Ev.congr (fun k => by rw [if_pos rfl]) (by rw [if_pos rfl]; exact ih)
theorem impl_fields_fault (l : Tbl) (hs : Sane l) (c : Int) (h0 : 0 ≤ c) (h1 : c < (l.length : Int)) (hp : par l c < c) (hg : GoodTo l c) : Ev (fun k => types_fields.f k l c) (fieldFault l (fieldsOf l (par l c)) (own l c)) := by
  have hall : (fieldsOf l (par l c)).length ≤ 32 := GoodTo.fields (by omega) hg _ hp
  have hml := met_len l (climbL l (par l c))
  have ho := hs.own h0 h1
  have h := fault_tells l (fieldsOf l (par l c)) (metOf l (climbL l (par l c))) (fun s => met_mem l _ s) hml hall (own l c) ho.1 ho.2 (own l c).length 0 (by omega)
  refine Ev.congr (fun k => ?_) h
  unfold types_fields.f
  have hlim : (metOf l (climbL l (rd_T64 l c).f1)).length < 8796093022208 := by
    have : (metOf l (climbL l (par l c))).length ≤ 32 := by rw [hml]; exact hall
    unfold par at this
    omega
  rw [if_pos ⟨h0, h1, hlim⟩]
  show types_fields.l0 k l (own l c) 0 (metOf l (climbL l (par l c))) = _
  congr 1
  exact (List.append_nil _).symm

theorem ahead_any (l : Tbl) (c : Nat) (hc : c < l.length) : ∀ d : Nat, d ≤ c → aheadFrom l c d = ((l.take c).drop (c - d)).any fun x => x.f0.toList == (rd_T64 l c).f0.toList
  | 0, h => by
    rw [List.drop_of_length_le (by rw [List.length_take]; omega)]
    rfl
  | d + 1, h => by
    have hi : c - (d + 1) < (l.take c).length := by rw [List.length_take]; omega
    have hr : rd_T64 l ((c : Int) - ((d : Int) + 1)) = (l.take c)[c - (d + 1)] := by
      rw [show (c : Int) - ((d : Int) + 1) = ((c - (d + 1) : Nat) : Int) by omega, List.getElem_take]
      exact rd_class l _ (by omega)
    rw [List.drop_eq_getElem_cons hi, List.any_cons, show c - (d + 1) + 1 = c - d by omega, ← ahead_any l c hc d (by omega), ← hr]
    show (decide (nam l ((c : Int) - ((d : Int) + 1)) = nam l c) || aheadFrom l c d) = _
    congr 1
    unfold nam
    rw [Bool.eq_iff_iff, decide_eq_true_iff, beq_iff_eq]
    exact (str_eq _ _).symm
end Go.Proofs.Ytdlmcjchnoeebaa.P
end

