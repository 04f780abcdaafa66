/- Proved: the law ModuleChecks holds for every input that the row lets in. No condition of ours. -/
import Derived.Test.YtdlmcjchnoeebaaBModuleChecksd
section
namespace Go.Proofs.Ytdlmcjchnoeebaa.P
open Go.RowKit Go.Proofs.YtdlmcjchnoeebaaW.PrintWords Go.Proofs.YtdlmcjchnoeebaaW.PrintLast Go.Proofs.YtdlmcjchnoeebaaW.PrintMore
attribute [local go_sem] max2_int min2_int max_two min_two max_three min_three max_four min_four   -- for this text's walks alone
set_option linter.unusedVariables false
set_option linter.unusedSimpArgs false

set_option maxHeartbeats 8000000 in
set_option maxRecDepth 100000 in
theorem provisoplain_SameModule.calls (k : Nat) (a0_0 : ByteArray) (A0_1 : Option Addr) (c0_1 : Nat) (l0_1 : List (S64)) (A0_2 : Option Addr) (c0_2 : Nat) (l0_2 : List (S49)) (A0_3 : Option Addr) (c0_3 : Nat) (l0_3 : List (List Int)) (a1_0 : ByteArray) (A1_1 : Option Addr) (c1_1 : Nat) (l1_1 : List (S64)) (A1_2 : Option Addr) (c1_2 : Nat) (l1_2 : List (S49)) (A1_3 : Option Addr) (c1_3 : Nat) (l1_3 : List (List Int)) (r : Bool) (w : World) (hr0_1 : Kd.C k64 w A0_1 l0_1.length l0_1) (hc0_1 : l0_1.length ≤ c0_1) (hr0_2 : Kd.C k49 w A0_2 l0_2.length l0_2) (hc0_2 : l0_2.length ≤ c0_2) (hr0_3 : Kd.C (Kd.slice 5 (Kd.int .u8)) w A0_3 l0_3.length l0_3) (hc0_3 : l0_3.length ≤ c0_3) (hr1_1 : Kd.C k64 w A1_1 l1_1.length l1_1) (hc1_1 : l1_1.length ≤ c1_1) (hr1_2 : Kd.C k49 w A1_2 l1_2.length l1_2) (hc1_2 : l1_2.length ≤ c1_2) (hr1_3 : Kd.C (Kd.slice 5 (Kd.int .u8)) w A1_3 l1_3.length l1_3) (hc1_3 : l1_3.length ≤ c1_3) (h : provisoplain_SameModule.f k a0_0 l0_1 l0_2 l0_3 a1_0 l1_1 l1_2 l1_3 = some r) :
    Calls Try.prog 14 #[.agg #[.string a0_0, .slice A0_1 l0_1.length c0_1, .slice A0_2 l0_2.length c0_2, .slice A0_3 l0_3.length c0_3], .agg #[.string a1_0, .slice A1_1 l1_1.length c1_1, .slice A1_2 l1_2.length c1_2, .slice A1_3 l1_3.length c1_3]] w fun e w' => e = .returned (.bool r) ∧ Below w.heap.size w w' := by
  have hu26 := Try.underlying26
  have hu49 := Try.underlying49
  have HR0_1 := amk hr0_1
  have HC0_1 := amk hc0_1
  clear hr0_1 hc0_1
  have HR0_2 := amk hr0_2
  have HC0_2 := amk hc0_2
  clear hr0_2 hc0_2
  have HR0_3 := amk hr0_3
  have HC0_3 := amk hc0_3
  clear hr0_3 hc0_3
  have HR1_1 := amk hr1_1
  have HC1_1 := amk hc1_1
  clear hr1_1 hc1_1
  have HR1_2 := amk hr1_2
  have HC1_2 := amk hc1_2
  clear hr1_2 hc1_2
  have HR1_3 := amk hr1_3
  have HC1_3 := amk hc1_3
  clear hr1_3 hc1_3
  have HB := amk (Below.refl w.heap.size w)
  have H : (if a0_0.toList = a1_0.toList then ((provisoplain_SameClasses.f k l0_1 l1_1).bind fun t183 => (if t183 = true then (if (l0_2.length : Int) = (l1_2.length : Int) then (provisoplain_SameModule.j0 k ((l0_3.length : Int) != (l1_3.length : Int)) a0_0 l0_1 l0_2 l0_3 a1_0 l1_1 l1_2 l1_3) else (provisoplain_SameModule.j0 k true a0_0 l0_1 l0_2 l0_3 a1_0 l1_1 l1_2 l1_3)) else (provisoplain_SameModule.j0 k true a0_0 l0_1 l0_2 l0_3 a1_0 l1_1 l1_2 l1_3))) else (provisoplain_SameModule.j0 k true a0_0 l0_1 l0_2 l0_3 a1_0 l1_1 l1_2 l1_3)) = some r := h
  clear h
  have HC3 := amk H
  clear H
  go_enter Try.func14, Try.ntmps14
  go_upto_region 1 with (first | ((with_reducible refine gate_dst (N := 2) rfl ?_); (try (refine gate_guard (by rfl) ?_; dsimp only)); refine box_event ?hg (N := 2) ?hd (cs := #[.string a0_0, .slice A0_1 l0_1.length c0_1, .slice A0_2 l0_2.length c0_2, .slice A0_3 l0_3.length c0_3]) (t := 26) ?hr ?_; (case hd => rfl); (case hg => rfl); (case hr => first | (go_simp; done) | (go_simp; rfl)); intro gb181 hg w4 hbox hb; have n0_ := amk (below_step (by repeat (first | (with_reducible first | exact HB.out | apply bal | apply pbd | apply bdr) | exact HB.out)) hb); have n1_ := amk (hbox); have n2_ := amk ((by rw [hg]; exact (below_size (by repeat (first | (with_reducible first | exact HB.out | apply bal | apply pbd | apply bdr) | exact HB.out))) : w.heap.size ≤ gb181)); have n3_ := amk ((by rw [hg]; exact (below_size (by repeat (first | (with_reducible first | exact HB.out | apply bal | apply pbd | apply bdr) | exact HB.out))) : w.heap.size ≤ gb181)); clear HB; have HB := n0_; have BK181 := n1_; have GW181 := n2_; have GE181 := n3_; clear n0_ n1_ n2_ n3_; clear hb hbox hg) | ((with_reducible refine gate_dst (N := 3) rfl ?_); (try (refine gate_guard (by rfl) ?_; dsimp only)); refine box_event ?hg (N := 3) ?hd (cs := #[.string a1_0, .slice A1_1 l1_1.length c1_1, .slice A1_2 l1_2.length c1_2, .slice A1_3 l1_3.length c1_3]) (t := 26) ?hr ?_; (case hd => rfl); (case hg => rfl); (case hr => first | (go_simp; done) | (go_simp; rfl)); intro gb182 hg w5 hbox hb; have n0_ := amk (blk_below (g := gb181) (o := .cells #[.string a0_0, .slice A0_1 l0_1.length c0_1, .slice A0_2 l0_2.length c0_2, .slice A0_3 l0_3.length c0_3] 26 (0, 0)) (by (with_reducible repeat (first | refine bkd ?_ _ | refine blk_drew ?_ | refine bka ?_ _)); exact BK181.out) hb); have n1_ := amk (below_step (by repeat (first | (with_reducible first | exact HB.out | apply bal | apply pbd | apply bdr | refine below_set ?_ GE181.out) | exact HB.out)) hb); have n2_ := amk (hbox); have n3_ := amk ((by rw [hg]; exact (below_size (by repeat (first | (with_reducible first | exact HB.out | apply bal | apply pbd | apply bdr | refine below_set ?_ GE181.out) | exact HB.out))) : w.heap.size ≤ gb182)); have n4_ := amk ((by rw [hg]; exact (below_size (by repeat (first | (with_reducible first | exact HB.out | apply bal | apply pbd | apply bdr | refine below_set ?_ GE181.out) | exact HB.out))) : w.heap.size ≤ gb182)); have n5_ := amk ((by rw [hg]; exact Nat.ne_of_lt (blk_lt (g := gb181) (o := .cells #[.string a0_0, .slice A0_1 l0_1.length c0_1, .slice A0_2 l0_2.length c0_2, .slice A0_3 l0_3.length c0_3] 26 (0, 0)) (by (with_reducible repeat (first | refine bkd ?_ _ | refine blk_drew ?_ | refine bka ?_ _)); exact BK181.out)) : gb181 ≠ gb182)); have n6_ := amk ((by rw [hg]; exact Nat.ne_of_gt (blk_lt (g := gb181) (o := .cells #[.string a0_0, .slice A0_1 l0_1.length c0_1, .slice A0_2 l0_2.length c0_2, .slice A0_3 l0_3.length c0_3] 26 (0, 0)) (by (with_reducible repeat (first | refine bkd ?_ _ | refine blk_drew ?_ | refine bka ?_ _)); exact BK181.out)) : gb182 ≠ gb181)); clear BK181; clear HB; have BK181 := n0_; have HB := n1_; have BK182 := n2_; have GW182 := n3_; have GE182 := n4_; have NB181_182 := n5_; have NB182_181 := n6_; clear n0_ n1_ n2_ n3_ n4_ n5_ n6_; clear hb hbox hg))
  (try simp only [Act.put, sia, scz, scs])
  go_cut [37] (fun v37 wc => ∃ (kq : Nat) (x37_2 : Bool), v37 = .bool x37_2 ∧ Aside0 (provisoplain_SameModule.j0 kq x37_2 a0_0 l0_1 l0_2 l0_3 a1_0 l1_1 l1_2 l1_3 = some r) ∧ Aside0 (kq ≤ k) ∧ Aside0 (wc.heap[gb181]? = some (.cells #[.string a0_0, (.slice A0_1 l0_1.length c0_1), (.slice A0_2 l0_2.length c0_2), (.slice A0_3 l0_3.length c0_3)] 26 (0, 0))) ∧ Aside0 (wc.heap[gb182]? = some (.cells #[.string a1_0, (.slice A1_1 l1_1.length c1_1), (.slice A1_2 l1_2.length c1_2), (.slice A1_3 l1_3.length c1_3)] 26 (0, 0))) ∧ Aside0 (Below w.heap.size w wc))
  case first =>
    have H := HC3.out
    clear HC3
    by_cases c6 : a0_0.toList = a1_0.toList
    · rw [if_pos c6] at H
      have c6b0 : (a0_0.toList == a1_0.toList) = true := beq_iff_eq.mpr c6
      have c6b1 : (a0_0.toList != a1_0.toList) = false := bne_eq_false_iff_eq.mpr c6
      clear c6
      (first | rw [c6b0] | (simp only [i64_w, i32_w]; rw [c6b0]) | skip)
      replace H := Option.bind_eq_some_iff.mp H
      obtain ⟨t183, A70, H⟩ := H
      replace H : (if t183 = true then (if (l0_2.length : Int) = (l1_2.length : Int) then (provisoplain_SameModule.j0 k ((l0_3.length : Int) != (l1_3.length : Int)) a0_0 l0_1 l0_2 l0_3 a1_0 l1_1 l1_2 l1_3) else (provisoplain_SameModule.j0 k true a0_0 l0_1 l0_2 l0_3 a1_0 l1_1 l1_2 l1_3)) else (provisoplain_SameModule.j0 k true a0_0 l0_1 l0_2 l0_3 a1_0 l1_1 l1_2 l1_3)) = some r := H
      have A7 := amk A70
      clear A70
      by_cases c8 : t183 = true
      · subst c8
        have H1 : (if (l0_2.length : Int) = (l1_2.length : Int) then (provisoplain_SameModule.j0 k ((l0_3.length : Int) != (l1_3.length : Int)) a0_0 l0_1 l0_2 l0_3 a1_0 l1_1 l1_2 l1_3) else (provisoplain_SameModule.j0 k true a0_0 l0_1 l0_2 l0_3 a1_0 l1_1 l1_2 l1_3)) = some r := by rw [if_pos rfl] at H; exact H
        clear H
        have H := H1
        clear H1
        by_cases c9 : (l0_2.length : Int) = (l1_2.length : Int)
        · rw [if_pos c9] at H
          have c9b0 : ((l0_2.length : Int) == (l1_2.length : Int)) = true := beq_iff_eq.mpr c9
          have c9b1 : ((l0_2.length : Int) != (l1_2.length : Int)) = false := bne_eq_false_iff_eq.mpr c9
          have c9b2 : (l0_2.length == l1_2.length) = true := by first | simpa using c9 | (simp at c9 ⊢; omega)
          clear c9
          have H' := amk H
          clear H
          have hnb10 := NB181_182.out
          have hnc10 := NB182_181.out
          have hcz11_0 : w5.cell? ⟨gb181, 0, none⟩ = some (.string a0_0) := (blk_cell BK181.out 0).trans rfl
          have hcz11_1 : w5.cell? ⟨gb181, 1, none⟩ = some (.slice A0_1 l0_1.length c0_1) := (blk_cell BK181.out 1).trans rfl
          have hcz11_2 : w5.cell? ⟨gb181, 2, none⟩ = some (.slice A0_2 l0_2.length c0_2) := (blk_cell BK181.out 2).trans rfl
          have hcz11_3 : w5.cell? ⟨gb181, 3, none⟩ = some (.slice A0_3 l0_3.length c0_3) := (blk_cell BK181.out 3).trans rfl
          have hfz11_0 := bkf BK181.out 0
          have hfz11_1 := bkf BK181.out 1
          have hfz11_2 := bkf BK181.out 2
          have hfz11_3 := bkf BK181.out 3
          have hcz12_0 : w5.cell? ⟨gb182, 0, none⟩ = some (.string a1_0) := (blk_cell BK182.out 0).trans rfl
          have hcz12_1 : w5.cell? ⟨gb182, 1, none⟩ = some (.slice A1_1 l1_1.length c1_1) := (blk_cell BK182.out 1).trans rfl
          have hcz12_2 : w5.cell? ⟨gb182, 2, none⟩ = some (.slice A1_2 l1_2.length c1_2) := (blk_cell BK182.out 2).trans rfl
          have hcz12_3 : w5.cell? ⟨gb182, 3, none⟩ = some (.slice A1_3 l1_3.length c1_3) := (blk_cell BK182.out 3).trans rfl
          have hfz12_0 := bkf BK182.out 0
          have hfz12_1 := bkf BK182.out 1
          have hfz12_2 := bkf BK182.out 2
          have hfz12_3 := bkf BK182.out 3
          go_wp2_with (first | (go_at_call 35; (with_reducible refine (provisoplain_SameClasses.calls k _ _ l0_1 _ _ l1_1 true _ ?side1 ?side2 ?side3 ?side4 A7.out).mono ?_); (case side1 => repeat (first | exact (Kd.C_below HR0_1.out HB.out) | (with_reducible refine Kd.C_alloc ?_ _) | (with_reducible refine Kd.C_drewN ?_ _) | (with_reducible refine Kd.C_drew ?_))); (case side2 => exact HC0_1.out); (case side3 => repeat (first | exact (Kd.C_below HR1_1.out HB.out) | (with_reducible refine Kd.C_alloc ?_ _) | (with_reducible refine Kd.C_drewN ?_ _) | (with_reducible refine Kd.C_drew ?_))); (case side4 => exact HC1_1.out); rintro e w13 ⟨rfl, hb⟩; have n0_ := amk (blk_below (g := gb181) (o := .cells #[.string a0_0, .slice A0_1 l0_1.length c0_1, .slice A0_2 l0_2.length c0_2, .slice A0_3 l0_3.length c0_3] 26 (0, 0)) (by (with_reducible repeat (first | refine bkd ?_ _ | refine blk_drew ?_ | refine bka ?_ _)); exact BK181.out) hb); have n1_ := amk (blk_below (g := gb182) (o := .cells #[.string a1_0, .slice A1_1 l1_1.length c1_1, .slice A1_2 l1_2.length c1_2, .slice A1_3 l1_3.length c1_3] 26 (0, 0)) (by (with_reducible repeat (first | refine bkd ?_ _ | refine blk_drew ?_ | refine bka ?_ _)); exact BK182.out) hb); have n2_ := amk (below_step (by repeat (first | (with_reducible first | exact HB.out | apply bal | apply pbd | apply bdr | refine below_set ?_ GE181.out | refine below_set ?_ GE182.out) | exact HB.out)) hb); clear BK181; clear BK182; clear HB; have BK181 := n0_; have BK182 := n1_; have HB := n2_; clear n0_ n1_ n2_; (try clear hb); (try clear hb2); (try clear hk); (try clear hi); have hcz14_0 : w13.cell? ⟨gb181, 0, none⟩ = some (.string a0_0) := (blk_cell BK181.out 0).trans rfl; have hcz14_1 : w13.cell? ⟨gb181, 1, none⟩ = some (.slice A0_1 l0_1.length c0_1) := (blk_cell BK181.out 1).trans rfl; have hcz14_2 : w13.cell? ⟨gb181, 2, none⟩ = some (.slice A0_2 l0_2.length c0_2) := (blk_cell BK181.out 2).trans rfl; have hcz14_3 : w13.cell? ⟨gb181, 3, none⟩ = some (.slice A0_3 l0_3.length c0_3) := (blk_cell BK181.out 3).trans rfl; have hfz14_0 := bkf BK181.out 0; have hfz14_1 := bkf BK181.out 1; have hfz14_2 := bkf BK181.out 2; have hfz14_3 := bkf BK181.out 3; have hcz15_0 : w13.cell? ⟨gb182, 0, none⟩ = some (.string a1_0) := (blk_cell BK182.out 0).trans rfl; have hcz15_1 : w13.cell? ⟨gb182, 1, none⟩ = some (.slice A1_1 l1_1.length c1_1) := (blk_cell BK182.out 1).trans rfl; have hcz15_2 : w13.cell? ⟨gb182, 2, none⟩ = some (.slice A1_2 l1_2.length c1_2) := (blk_cell BK182.out 2).trans rfl; have hcz15_3 : w13.cell? ⟨gb182, 3, none⟩ = some (.slice A1_3 l1_3.length c1_3) := (blk_cell BK182.out 3).trans rfl; have hfz15_0 := bkf BK182.out 0; have hfz15_1 := bkf BK182.out 1; have hfz15_2 := bkf BK182.out 2; have hfz15_3 := bkf BK182.out 3))
          go_meet
          case rel => exact ⟨_, (((l0_3.length : Int) != (l1_3.length : Int))), (by first | rfl | (simp; done) | (simp [*]; done)), H', ⟨by first | omega | exact Nat.le_refl _⟩, ⟨by (with_reducible repeat (first | refine bkd ?_ _ | refine blk_drew ?_ | refine bka ?_ _)); exact BK181.out⟩, ⟨by (with_reducible repeat (first | refine bkd ?_ _ | refine blk_drew ?_ | refine bka ?_ _)); exact BK182.out⟩, ⟨by repeat (first | (with_reducible first | exact HB.out | apply bal | apply pbd | apply bdr | refine below_set ?_ GE181.out | refine below_set ?_ GE182.out) | exact HB.out)⟩⟩
        · rw [if_neg c9] at H
          have c9b0 : ((l0_2.length : Int) == (l1_2.length : Int)) = false := beq_eq_false_iff_ne.mpr c9
          have c9b1 : ((l0_2.length : Int) != (l1_2.length : Int)) = true := bne_iff_ne.mpr c9
          have c9b2 : (l0_2.length == l1_2.length) = false := by first | simpa using c9 | (simp at c9 ⊢; omega)
          have H' := amk H
          clear H
          have hnb16 := NB181_182.out
          have hnc16 := NB182_181.out
          have hcz17_0 : w5.cell? ⟨gb181, 0, none⟩ = some (.string a0_0) := (blk_cell BK181.out 0).trans rfl
          have hcz17_1 : w5.cell? ⟨gb181, 1, none⟩ = some (.slice A0_1 l0_1.length c0_1) := (blk_cell BK181.out 1).trans rfl
          have hcz17_2 : w5.cell? ⟨gb181, 2, none⟩ = some (.slice A0_2 l0_2.length c0_2) := (blk_cell BK181.out 2).trans rfl
          have hcz17_3 : w5.cell? ⟨gb181, 3, none⟩ = some (.slice A0_3 l0_3.length c0_3) := (blk_cell BK181.out 3).trans rfl
          have hfz17_0 := bkf BK181.out 0
          have hfz17_1 := bkf BK181.out 1
          have hfz17_2 := bkf BK181.out 2
          have hfz17_3 := bkf BK181.out 3
          have hcz18_0 : w5.cell? ⟨gb182, 0, none⟩ = some (.string a1_0) := (blk_cell BK182.out 0).trans rfl
          have hcz18_1 : w5.cell? ⟨gb182, 1, none⟩ = some (.slice A1_1 l1_1.length c1_1) := (blk_cell BK182.out 1).trans rfl
          have hcz18_2 : w5.cell? ⟨gb182, 2, none⟩ = some (.slice A1_2 l1_2.length c1_2) := (blk_cell BK182.out 2).trans rfl
          have hcz18_3 : w5.cell? ⟨gb182, 3, none⟩ = some (.slice A1_3 l1_3.length c1_3) := (blk_cell BK182.out 3).trans rfl
          have hfz18_0 := bkf BK182.out 0
          have hfz18_1 := bkf BK182.out 1
          have hfz18_2 := bkf BK182.out 2
          have hfz18_3 := bkf BK182.out 3
          go_wp2_with (first | (go_at_call 35; (with_reducible refine (provisoplain_SameClasses.calls k _ _ l0_1 _ _ l1_1 true _ ?side1 ?side2 ?side3 ?side4 A7.out).mono ?_); (case side1 => repeat (first | exact (Kd.C_below HR0_1.out HB.out) | (with_reducible refine Kd.C_alloc ?_ _) | (with_reducible refine Kd.C_drewN ?_ _) | (with_reducible refine Kd.C_drew ?_))); (case side2 => exact HC0_1.out); (case side3 => repeat (first | exact (Kd.C_below HR1_1.out HB.out) | (with_reducible refine Kd.C_alloc ?_ _) | (with_reducible refine Kd.C_drewN ?_ _) | (with_reducible refine Kd.C_drew ?_))); (case side4 => exact HC1_1.out); rintro e w19 ⟨rfl, hb⟩; have n0_ := amk (blk_below (g := gb181) (o := .cells #[.string a0_0, .slice A0_1 l0_1.length c0_1, .slice A0_2 l0_2.length c0_2, .slice A0_3 l0_3.length c0_3] 26 (0, 0)) (by (with_reducible repeat (first | refine bkd ?_ _ | refine blk_drew ?_ | refine bka ?_ _)); exact BK181.out) hb); have n1_ := amk (blk_below (g := gb182) (o := .cells #[.string a1_0, .slice A1_1 l1_1.length c1_1, .slice A1_2 l1_2.length c1_2, .slice A1_3 l1_3.length c1_3] 26 (0, 0)) (by (with_reducible repeat (first | refine bkd ?_ _ | refine blk_drew ?_ | refine bka ?_ _)); exact BK182.out) hb); have n2_ := amk (below_step (by repeat (first | (with_reducible first | exact HB.out | apply bal | apply pbd | apply bdr | refine below_set ?_ GE181.out | refine below_set ?_ GE182.out) | exact HB.out)) hb); clear BK181; clear BK182; clear HB; have BK181 := n0_; have BK182 := n1_; have HB := n2_; clear n0_ n1_ n2_; (try clear hb); (try clear hb2); (try clear hk); (try clear hi); have hcz20_0 : w19.cell? ⟨gb181, 0, none⟩ = some (.string a0_0) := (blk_cell BK181.out 0).trans rfl; have hcz20_1 : w19.cell? ⟨gb181, 1, none⟩ = some (.slice A0_1 l0_1.length c0_1) := (blk_cell BK181.out 1).trans rfl; have hcz20_2 : w19.cell? ⟨gb181, 2, none⟩ = some (.slice A0_2 l0_2.length c0_2) := (blk_cell BK181.out 2).trans rfl; have hcz20_3 : w19.cell? ⟨gb181, 3, none⟩ = some (.slice A0_3 l0_3.length c0_3) := (blk_cell BK181.out 3).trans rfl; have hfz20_0 := bkf BK181.out 0; have hfz20_1 := bkf BK181.out 1; have hfz20_2 := bkf BK181.out 2; have hfz20_3 := bkf BK181.out 3; have hcz21_0 : w19.cell? ⟨gb182, 0, none⟩ = some (.string a1_0) := (blk_cell BK182.out 0).trans rfl; have hcz21_1 : w19.cell? ⟨gb182, 1, none⟩ = some (.slice A1_1 l1_1.length c1_1) := (blk_cell BK182.out 1).trans rfl; have hcz21_2 : w19.cell? ⟨gb182, 2, none⟩ = some (.slice A1_2 l1_2.length c1_2) := (blk_cell BK182.out 2).trans rfl; have hcz21_3 : w19.cell? ⟨gb182, 3, none⟩ = some (.slice A1_3 l1_3.length c1_3) := (blk_cell BK182.out 3).trans rfl; have hfz21_0 := bkf BK182.out 0; have hfz21_1 := bkf BK182.out 1; have hfz21_2 := bkf BK182.out 2; have hfz21_3 := bkf BK182.out 3))
          go_meet
          case rel => exact ⟨_, (true), (by first | rfl | (simp; done) | (simp [*]; done)), H', ⟨by first | omega | exact Nat.le_refl _⟩, ⟨by (with_reducible repeat (first | refine bkd ?_ _ | refine blk_drew ?_ | refine bka ?_ _)); exact BK181.out⟩, ⟨by (with_reducible repeat (first | refine bkd ?_ _ | refine blk_drew ?_ | refine bka ?_ _)); exact BK182.out⟩, ⟨by repeat (first | (with_reducible first | exact HB.out | apply bal | apply pbd | apply bdr | refine below_set ?_ GE181.out | refine below_set ?_ GE182.out) | exact HB.out)⟩⟩
      · replace c8 := Bool.eq_false_iff.mpr c8
        subst c8
        have H1 : (provisoplain_SameModule.j0 k true a0_0 l0_1 l0_2 l0_3 a1_0 l1_1 l1_2 l1_3) = some r := by rw [if_neg (show ¬ (false = true) by decide)] at H; exact H
        clear H
        have H := H1
        clear H1
        have H' := amk H
        clear H
        have hnb22 := NB181_182.out
        have hnc22 := NB182_181.out
        have hcz23_0 : w5.cell? ⟨gb181, 0, none⟩ = some (.string a0_0) := (blk_cell BK181.out 0).trans rfl
        have hcz23_1 : w5.cell? ⟨gb181, 1, none⟩ = some (.slice A0_1 l0_1.length c0_1) := (blk_cell BK181.out 1).trans rfl
        have hcz23_2 : w5.cell? ⟨gb181, 2, none⟩ = some (.slice A0_2 l0_2.length c0_2) := (blk_cell BK181.out 2).trans rfl
        have hcz23_3 : w5.cell? ⟨gb181, 3, none⟩ = some (.slice A0_3 l0_3.length c0_3) := (blk_cell BK181.out 3).trans rfl
        have hfz23_0 := bkf BK181.out 0
        have hfz23_1 := bkf BK181.out 1
        have hfz23_2 := bkf BK181.out 2
        have hfz23_3 := bkf BK181.out 3
        have hcz24_0 : w5.cell? ⟨gb182, 0, none⟩ = some (.string a1_0) := (blk_cell BK182.out 0).trans rfl
        have hcz24_1 : w5.cell? ⟨gb182, 1, none⟩ = some (.slice A1_1 l1_1.length c1_1) := (blk_cell BK182.out 1).trans rfl
        have hcz24_2 : w5.cell? ⟨gb182, 2, none⟩ = some (.slice A1_2 l1_2.length c1_2) := (blk_cell BK182.out 2).trans rfl
        have hcz24_3 : w5.cell? ⟨gb182, 3, none⟩ = some (.slice A1_3 l1_3.length c1_3) := (blk_cell BK182.out 3).trans rfl
        have hfz24_0 := bkf BK182.out 0
        have hfz24_1 := bkf BK182.out 1
        have hfz24_2 := bkf BK182.out 2
        have hfz24_3 := bkf BK182.out 3
        go_wp2_with (first | (go_at_call 35; (with_reducible refine (provisoplain_SameClasses.calls k _ _ l0_1 _ _ l1_1 false _ ?side1 ?side2 ?side3 ?side4 A7.out).mono ?_); (case side1 => repeat (first | exact (Kd.C_below HR0_1.out HB.out) | (with_reducible refine Kd.C_alloc ?_ _) | (with_reducible refine Kd.C_drewN ?_ _) | (with_reducible refine Kd.C_drew ?_))); (case side2 => exact HC0_1.out); (case side3 => repeat (first | exact (Kd.C_below HR1_1.out HB.out) | (with_reducible refine Kd.C_alloc ?_ _) | (with_reducible refine Kd.C_drewN ?_ _) | (with_reducible refine Kd.C_drew ?_))); (case side4 => exact HC1_1.out); rintro e w25 ⟨rfl, hb⟩; have n0_ := amk (blk_below (g := gb181) (o := .cells #[.string a0_0, .slice A0_1 l0_1.length c0_1, .slice A0_2 l0_2.length c0_2, .slice A0_3 l0_3.length c0_3] 26 (0, 0)) (by (with_reducible repeat (first | refine bkd ?_ _ | refine blk_drew ?_ | refine bka ?_ _)); exact BK181.out) hb); have n1_ := amk (blk_below (g := gb182) (o := .cells #[.string a1_0, .slice A1_1 l1_1.length c1_1, .slice A1_2 l1_2.length c1_2, .slice A1_3 l1_3.length c1_3] 26 (0, 0)) (by (with_reducible repeat (first | refine bkd ?_ _ | refine blk_drew ?_ | refine bka ?_ _)); exact BK182.out) hb); have n2_ := amk (below_step (by repeat (first | (with_reducible first | exact HB.out | apply bal | apply pbd | apply bdr | refine below_set ?_ GE181.out | refine below_set ?_ GE182.out) | exact HB.out)) hb); clear BK181; clear BK182; clear HB; have BK181 := n0_; have BK182 := n1_; have HB := n2_; clear n0_ n1_ n2_; (try clear hb); (try clear hb2); (try clear hk); (try clear hi)))
        go_meet
        case rel => exact ⟨_, (true), (by first | rfl | (simp; done) | (simp [*]; done)), H', ⟨by first | omega | exact Nat.le_refl _⟩, ⟨by (with_reducible repeat (first | refine bkd ?_ _ | refine blk_drew ?_ | refine bka ?_ _)); exact BK181.out⟩, ⟨by (with_reducible repeat (first | refine bkd ?_ _ | refine blk_drew ?_ | refine bka ?_ _)); exact BK182.out⟩, ⟨by repeat (first | (with_reducible first | exact HB.out | apply bal | apply pbd | apply bdr | refine below_set ?_ GE181.out | refine below_set ?_ GE182.out) | exact HB.out)⟩⟩
    · rw [if_neg c6] at H
      have c6b0 : (a0_0.toList == a1_0.toList) = false := beq_eq_false_iff_ne.mpr c6
      have c6b1 : (a0_0.toList != a1_0.toList) = true := bne_iff_ne.mpr c6
      (first | rw [c6b0] | (simp only [i64_w, i32_w]; rw [c6b0]) | skip)
      have H' := amk H
      clear H
      have hnb26 := NB181_182.out
      have hnc26 := NB182_181.out
      have hcz27_0 : w5.cell? ⟨gb181, 0, none⟩ = some (.string a0_0) := (blk_cell BK181.out 0).trans rfl
      have hcz27_1 : w5.cell? ⟨gb181, 1, none⟩ = some (.slice A0_1 l0_1.length c0_1) := (blk_cell BK181.out 1).trans rfl
      have hcz27_2 : w5.cell? ⟨gb181, 2, none⟩ = some (.slice A0_2 l0_2.length c0_2) := (blk_cell BK181.out 2).trans rfl
      have hcz27_3 : w5.cell? ⟨gb181, 3, none⟩ = some (.slice A0_3 l0_3.length c0_3) := (blk_cell BK181.out 3).trans rfl
      have hfz27_0 := bkf BK181.out 0
      have hfz27_1 := bkf BK181.out 1
      have hfz27_2 := bkf BK181.out 2
      have hfz27_3 := bkf BK181.out 3
      have hcz28_0 : w5.cell? ⟨gb182, 0, none⟩ = some (.string a1_0) := (blk_cell BK182.out 0).trans rfl
      have hcz28_1 : w5.cell? ⟨gb182, 1, none⟩ = some (.slice A1_1 l1_1.length c1_1) := (blk_cell BK182.out 1).trans rfl
      have hcz28_2 : w5.cell? ⟨gb182, 2, none⟩ = some (.slice A1_2 l1_2.length c1_2) := (blk_cell BK182.out 2).trans rfl
      have hcz28_3 : w5.cell? ⟨gb182, 3, none⟩ = some (.slice A1_3 l1_3.length c1_3) := (blk_cell BK182.out 3).trans rfl
      have hfz28_0 := bkf BK182.out 0
      have hfz28_1 := bkf BK182.out 1
      have hfz28_2 := bkf BK182.out 2
      have hfz28_3 := bkf BK182.out 3
      go_wp2
      go_meet
      case rel => exact ⟨_, (true), (by first | rfl | (simp; done) | (simp [*]; done)), H', ⟨by first | omega | exact Nat.le_refl _⟩, ⟨by (with_reducible repeat (first | refine bkd ?_ _ | refine blk_drew ?_ | refine bka ?_ _)); exact BK181.out⟩, ⟨by (with_reducible repeat (first | refine bkd ?_ _ | refine blk_drew ?_ | refine bka ?_ _)); exact BK182.out⟩, ⟨by repeat (first | (with_reducible first | exact HB.out | apply bal | apply pbd | apply bdr | refine below_set ?_ GE181.out | refine below_set ?_ GE182.out) | exact HB.out)⟩⟩
  case rest =>
    clear HC3
    try clear c1
    try clear c2
    try clear p2
    try clear c6
    try clear c6b0
    try clear c6b1
    try clear c8
    try clear c9
    try clear c9b0
    try clear c9b1
    try clear c9b2
    try clear c10
    try clear c14
    try clear c16
    try clear c22
    try clear c26
    try clear hcz11_0
    try clear hcz11_1
    try clear hcz11_2
    try clear hcz11_3
    try clear hcz12_0
    try clear hcz12_1
    try clear hcz12_2
    try clear hcz12_3
    try clear hcz14_0
    try clear hcz14_1
    try clear hcz14_2
    try clear hcz14_3
    try clear hcz15_0
    try clear hcz15_1
    try clear hcz15_2
    try clear hcz15_3
    try clear hcz17_0
    try clear hcz17_1
    try clear hcz17_2
    try clear hcz17_3
    try clear hcz18_0
    try clear hcz18_1
    try clear hcz18_2
    try clear hcz18_3
    try clear hcz20_0
    try clear hcz20_1
    try clear hcz20_2
    try clear hcz20_3
    try clear hcz21_0
    try clear hcz21_1
    try clear hcz21_2
    try clear hcz21_3
    try clear hcz23_0
    try clear hcz23_1
    try clear hcz23_2
    try clear hcz23_3
    try clear hcz24_0
    try clear hcz24_1
    try clear hcz24_2
    try clear hcz24_3
    try clear hcz27_0
    try clear hcz27_1
    try clear hcz27_2
    try clear hcz27_3
    try clear hcz28_0
    try clear hcz28_1
    try clear hcz28_2
    try clear hcz28_3
    try clear hfz11_0
    try clear hfz11_1
    try clear hfz11_2
    try clear hfz11_3
    try clear hfz12_0
    try clear hfz12_1
    try clear hfz12_2
    try clear hfz12_3
    try clear hfz14_0
    try clear hfz14_1
    try clear hfz14_2
    try clear hfz14_3
    try clear hfz15_0
    try clear hfz15_1
    try clear hfz15_2
    try clear hfz15_3
    try clear hfz17_0
    try clear hfz17_1
    try clear hfz17_2
    try clear hfz17_3
    try clear hfz18_0
    try clear hfz18_1
    try clear hfz18_2
    try clear hfz18_3
    try clear hfz20_0
    try clear hfz20_1
    try clear hfz20_2
    try clear hfz20_3
    try clear hfz21_0
    try clear hfz21_1
    try clear hfz21_2
    try clear hfz21_3
    try clear hfz23_0
    try clear hfz23_1
    try clear hfz23_2
    try clear hfz23_3
    try clear hfz24_0
    try clear hfz24_1
    try clear hfz24_2
    try clear hfz24_3
    try clear hfz27_0
    try clear hfz27_1
    try clear hfz27_2
    try clear hfz27_3
    try clear hfz28_0
    try clear hfz28_1
    try clear hfz28_2
    try clear hfz28_3
    obtain ⟨kq, x37_2, rfl, HA, HJ2, BK181, BK182, HB⟩ := hcut
    cases kq with
    | zero => exact absurd HA.out (by simp [provisoplain_SameModule.j0])
    | succ kj2 =>
      have H := HA.out
      clear HA
      simp only [provisoplain_SameModule.j0] at H
      by_cases c29 : x37_2 = true
      · subst c29
        have H1 : (some false) = some r := by rw [if_pos rfl] at H; exact H
        clear H
        have H := H1
        clear H1
        obtain rfl := Option.some.inj H
        go_wp2
        go_ret
        exact ⟨by first | rfl | (simp [errW_none, errW_some] <;> rfl) | (simp [*, errW_none, errW_some] <;> rfl), by repeat (first | (with_reducible first | exact HB.out | apply bal | apply pbd | apply bdr | refine below_set ?_ GE181.out | refine below_set ?_ GE182.out) | exact HB.out)⟩
      · replace c29 := Bool.eq_false_iff.mpr c29
        subst c29
        have H1 : (provisoplain_SameModule.l0 kj2 (l0_2.length : Int) 0 a0_0 l0_1 l0_2 l0_3 a1_0 l1_1 l1_2 l1_3) = some r := by rw [if_neg (show ¬ (false = true) by decide)] at H; exact H
        clear H
        have H := H1
        clear H1
        have H' := amk H
        clear H
        have hnb30 := NB181_182.out
        have hnc30 := NB182_181.out
        have hcz31_0 : wc.cell? ⟨gb181, 0, none⟩ = some (.string a0_0) := (blk_cell BK181.out 0).trans rfl
        have hcz31_1 : wc.cell? ⟨gb181, 1, none⟩ = some (.slice A0_1 l0_1.length c0_1) := (blk_cell BK181.out 1).trans rfl
        have hcz31_2 : wc.cell? ⟨gb181, 2, none⟩ = some (.slice A0_2 l0_2.length c0_2) := (blk_cell BK181.out 2).trans rfl
        have hcz31_3 : wc.cell? ⟨gb181, 3, none⟩ = some (.slice A0_3 l0_3.length c0_3) := (blk_cell BK181.out 3).trans rfl
        have hfz31_0 := bkf BK181.out 0
        have hfz31_1 := bkf BK181.out 1
        have hfz31_2 := bkf BK181.out 2
        have hfz31_3 := bkf BK181.out 3
        go_wp2
        go_loopg [41] kj2 (fun kq v41 w' => ∃ (x41_2 : Int), v41 = .int .i64 x41_2 ∧ Aside0 (provisoplain_SameModule.l0 kq (l0_2.length : Int) x41_2 a0_0 l0_1 l0_2 l0_3 a1_0 l1_1 l1_2 l1_3 = some r) ∧ Aside0 (kq ≤ kj2) ∧ Aside0 (w'.heap[gb181]? = some (.cells #[.string a0_0, (.slice A0_1 l0_1.length c0_1), (.slice A0_2 l0_2.length c0_2), (.slice A0_3 l0_3.length c0_3)] 26 (0, 0))) ∧ Aside0 (w'.heap[gb182]? = some (.cells #[.string a1_0, (.slice A1_1 l1_1.length c1_1), (.slice A1_2 l1_2.length c1_2), (.slice A1_3 l1_3.length c1_3)] 26 (0, 0))) ∧ Aside0 (Below w.heap.size w w'))
        case atStart => exact ⟨(0), (by first | rfl | (simp; done) | (simp [*]; done)), H', ⟨Nat.le_refl _⟩, ⟨by (with_reducible repeat (first | refine bkd ?_ _ | refine blk_drew ?_ | refine bka ?_ _)); exact BK181.out⟩, ⟨by (with_reducible repeat (first | refine bkd ?_ _ | refine blk_drew ?_ | refine bka ?_ _)); exact BK182.out⟩, ⟨by repeat (first | (with_reducible first | exact HB.out | apply bal | apply pbd | apply bdr | refine below_set ?_ GE181.out | refine below_set ?_ GE182.out) | exact HB.out)⟩⟩
        case round =>
          clear H'
          try clear c1
          try clear c2
          try clear p2
          try clear c3
          try clear c6
          try clear c6b0
          try clear c6b1
          try clear c8
          try clear c9
          try clear c9b0
          try clear c9b1
          try clear c9b2
          try clear c10
          try clear c14
          try clear c16
          try clear c22
          try clear c26
          try clear c29
          try clear c30
          try clear hcz11_0
          try clear hcz11_1
          try clear hcz11_2
          try clear hcz11_3
          try clear hcz12_0
          try clear hcz12_1
          try clear hcz12_2
          try clear hcz12_3
          try clear hcz14_0
          try clear hcz14_1
          try clear hcz14_2
          try clear hcz14_3
          try clear hcz15_0
          try clear hcz15_1
          try clear hcz15_2
          try clear hcz15_3
          try clear hcz17_0
          try clear hcz17_1
          try clear hcz17_2
          try clear hcz17_3
          try clear hcz18_0
          try clear hcz18_1
          try clear hcz18_2
          try clear hcz18_3
          try clear hcz20_0
          try clear hcz20_1
          try clear hcz20_2
          try clear hcz20_3
          try clear hcz21_0
          try clear hcz21_1
          try clear hcz21_2
          try clear hcz21_3
          try clear hcz23_0
          try clear hcz23_1
          try clear hcz23_2
          try clear hcz23_3
          try clear hcz24_0
          try clear hcz24_1
          try clear hcz24_2
          try clear hcz24_3
          try clear hcz27_0
          try clear hcz27_1
          try clear hcz27_2
          try clear hcz27_3
          try clear hcz28_0
          try clear hcz28_1
          try clear hcz28_2
          try clear hcz28_3
          try clear hcz31_0
          try clear hcz31_1
          try clear hcz31_2
          try clear hcz31_3
          try clear hfz11_0
          try clear hfz11_1
          try clear hfz11_2
          try clear hfz11_3
          try clear hfz12_0
          try clear hfz12_1
          try clear hfz12_2
          try clear hfz12_3
          try clear hfz14_0
          try clear hfz14_1
          try clear hfz14_2
          try clear hfz14_3
          try clear hfz15_0
          try clear hfz15_1
          try clear hfz15_2
          try clear hfz15_3
          try clear hfz17_0
          try clear hfz17_1
          try clear hfz17_2
          try clear hfz17_3
          try clear hfz18_0
          try clear hfz18_1
          try clear hfz18_2
          try clear hfz18_3
          try clear hfz20_0
          try clear hfz20_1
          try clear hfz20_2
          try clear hfz20_3
          try clear hfz21_0
          try clear hfz21_1
          try clear hfz21_2
          try clear hfz21_3
          try clear hfz23_0
          try clear hfz23_1
          try clear hfz23_2
          try clear hfz23_3
          try clear hfz24_0
          try clear hfz24_1
          try clear hfz24_2
          try clear hfz24_3
          try clear hfz27_0
          try clear hfz27_1
          try clear hfz27_2
          try clear hfz27_3
          try clear hfz28_0
          try clear hfz28_1
          try clear hfz28_2
          try clear hfz28_3
          try clear hfz31_0
          try clear hfz31_1
          try clear hfz31_2
          try clear hfz31_3
          try clear p2
          obtain ⟨x41_2, rfl, HA, HK2, BK181, BK182, HB⟩ := hrel
          cases gk with
          | zero => exact absurd HA.out (by simp [provisoplain_SameModule.l0])
          | succ k2 =>
            have H := HA.out
            clear HA
            simp only [provisoplain_SameModule.l0] at H
            by_cases c32 : x41_2 < (l0_2.length : Int)
            · rw [if_pos c32] at H
              have c32b0 : decide (x41_2 < (l0_2.length : Int)) = true := decide_eq_true c32
              clear c32
              by_cases c33 : 0 ≤ x41_2
              · rw [if_pos c33] at H
                have c33b0 : decide (0 ≤ x41_2) = true := decide_eq_true c33
                clear c33
                by_cases c34 : x41_2 < (l0_2.length : Int)
                · rw [if_pos c34] at H
                  have c34b0 : decide (x41_2 < (l0_2.length : Int)) = true := decide_eq_true c34
                  clear c34
                  by_cases c35 : x41_2 < (l1_2.length : Int)
                  · rw [if_pos c35] at H
                    have c35b0 : decide (x41_2 < (l1_2.length : Int)) = true := decide_eq_true c35
                    clear c35
                    replace H := Option.bind_eq_some_iff.mp H
                    obtain ⟨t186, A360, H⟩ := H
                    replace H : (if t186 = true then (provisoplain_SameModule.l0 k2 (l0_2.length : Int) (wrap64 (x41_2 + 1)) a0_0 l0_1 l0_2 l0_3 a1_0 l1_1 l1_2 l1_3) else (some false)) = some r := H
                    have A36 := amk A360
                    clear A360
                    by_cases c37 : t186 = true
                    · subst c37
                      have H1 : (provisoplain_SameModule.l0 k2 (l0_2.length : Int) (wrap64 (x41_2 + 1)) a0_0 l0_1 l0_2 l0_3 a1_0 l1_1 l1_2 l1_3) = some r := by rw [if_pos rfl] at H; exact H
                      clear H
                      have H := H1
                      clear H1
                      have H' := amk H
                      clear H
                      try go_wp2
                      have n0_ := amk (blk_drew BK181.out)
                      have n1_ := amk (blk_drew BK182.out)
                      have n2_ := amk (bdr HB.out)
                      clear BK181
                      clear BK182
                      clear HB
                      have BK181 := n0_
                      have BK182 := n1_
                      have HB := n2_
                      clear n0_ n1_ n2_
                      have p184 : 0 ≤ (x41_2 : Int) := of_decide_eq_true (by first | (with_reducible assumption) | assumption)
                      have q184 : x41_2 < (l0_2.length : Int) := of_decide_eq_true (by first | (with_reducible assumption) | assumption)
                      obtain ⟨ad184, A184_1, c184_1, A184_4, c184_4, e184, hx184_0, hx184_1, hx184_2, hx184_3, hx184_4, hl184_1, hi184_1, hl184_4, hi184_4⟩ := at_T49 HR0_2.out x41_2 p184 q184
                      have hw184_4 := hx184_4
                      have hw184_3 := hx184_3
                      have hw184_2 := hx184_2
                      have hw184_1 := hx184_1
                      have hw184_0 := hx184_0
                      cases e184
                      replace hx184_0 := (HB.out.cell (blc w _ hx184_0)).trans hx184_0
                      replace hx184_1 := (HB.out.cell (blc w _ hx184_1)).trans hx184_1
                      replace hx184_2 := (HB.out.cell (blc w _ hx184_2)).trans hx184_2
                      replace hx184_3 := (HB.out.cell (blc w _ hx184_3)).trans hx184_3
                      replace hx184_4 := (HB.out.cell (blc w _ hx184_4)).trans hx184_4
                      have HR184_1 := amk hi184_1
                      have HC184_1 := amk hl184_1
                      clear hi184_1 hl184_1
                      have HR184_4 := amk hi184_4
                      have HC184_4 := amk hl184_4
                      clear hi184_4 hl184_4
                      replace p184 := eq_true p184
                      replace q184 := eq_true q184
                      have p185 : 0 ≤ (x41_2 : Int) := of_decide_eq_true (by first | (with_reducible assumption) | assumption)
                      have q185 : x41_2 < (l1_2.length : Int) := of_decide_eq_true (by first | (with_reducible assumption) | assumption)
                      obtain ⟨ad185, A185_1, c185_1, A185_4, c185_4, e185, hx185_0, hx185_1, hx185_2, hx185_3, hx185_4, hl185_1, hi185_1, hl185_4, hi185_4⟩ := at_T49 HR1_2.out x41_2 p185 q185
                      have hw185_4 := hx185_4
                      have hw185_3 := hx185_3
                      have hw185_2 := hx185_2
                      have hw185_1 := hx185_1
                      have hw185_0 := hx185_0
                      cases e185
                      replace hx185_0 := (HB.out.cell (blc w _ hx185_0)).trans hx185_0
                      replace hx185_1 := (HB.out.cell (blc w _ hx185_1)).trans hx185_1
                      replace hx185_2 := (HB.out.cell (blc w _ hx185_2)).trans hx185_2
                      replace hx185_3 := (HB.out.cell (blc w _ hx185_3)).trans hx185_3
                      replace hx185_4 := (HB.out.cell (blc w _ hx185_4)).trans hx185_4
                      have HR185_1 := amk hi185_1
                      have HC185_1 := amk hl185_1
                      clear hi185_1 hl185_1
                      have HR185_4 := amk hi185_4
                      have HC185_4 := amk hl185_4
                      clear hi185_4 hl185_4
                      replace p185 := eq_true p185
                      replace q185 := eq_true q185
                      refine start_ (n := 12) (S := fun w' => w'.cell? ⟨gb181, 0, none⟩ = some (.string a0_0) ∧ w'.cell? ⟨gb181, 1, none⟩ = some (.slice A0_1 l0_1.length c0_1) ∧ w'.cell? ⟨gb181, 2, none⟩ = some (.slice (some ad184) l0_2.length c0_2) ∧ w'.cell? ⟨gb181, 3, none⟩ = some (.slice A0_3 l0_3.length c0_3) ∧ w'.cell? ⟨gb182, 0, none⟩ = some (.string a1_0) ∧ w'.cell? ⟨gb182, 1, none⟩ = some (.slice A1_1 l1_1.length c1_1) ∧ w'.cell? ⟨gb182, 2, none⟩ = some (.slice (some ad185) l1_2.length c1_2) ∧ w'.cell? ⟨gb182, 3, none⟩ = some (.slice A1_3 l1_3.length c1_3) ∧ w'.cell? (ad184.add ((x41_2).toNat * 5)) = some (.string ((rd_T49 l0_2 x41_2).f0)) ∧ w'.cell? ⟨(ad184.add ((x41_2).toNat * 5)).block, (ad184.add ((x41_2).toNat * 5)).off + 1, none⟩ = some (.slice A184_1 ((rd_T49 l0_2 x41_2).f1.f0).length c184_1) ∧ w'.cell? ⟨(ad184.add ((x41_2).toNat * 5)).block, (ad184.add ((x41_2).toNat * 5)).off + 2, none⟩ = some (.int .u8 ((rd_T49 l0_2 x41_2).f1.f1)) ∧ w'.cell? ⟨(ad184.add ((x41_2).toNat * 5)).block, (ad184.add ((x41_2).toNat * 5)).off + 3, none⟩ = some (.int .i64 ((rd_T49 l0_2 x41_2).f2)) ∧ w'.cell? ⟨(ad184.add ((x41_2).toNat * 5)).block, (ad184.add ((x41_2).toNat * 5)).off + 4, none⟩ = some (.slice A184_4 ((rd_T49 l0_2 x41_2).f3).length c184_4) ∧ w'.cell? (ad185.add ((x41_2).toNat * 5)) = some (.string ((rd_T49 l1_2 x41_2).f0)) ∧ w'.cell? ⟨(ad185.add ((x41_2).toNat * 5)).block, (ad185.add ((x41_2).toNat * 5)).off + 1, none⟩ = some (.slice A185_1 ((rd_T49 l1_2 x41_2).f1.f0).length c185_1) ∧ w'.cell? ⟨(ad185.add ((x41_2).toNat * 5)).block, (ad185.add ((x41_2).toNat * 5)).off + 2, none⟩ = some (.int .u8 ((rd_T49 l1_2 x41_2).f1.f1)) ∧ w'.cell? ⟨(ad185.add ((x41_2).toNat * 5)).block, (ad185.add ((x41_2).toNat * 5)).off + 3, none⟩ = some (.int .i64 ((rd_T49 l1_2 x41_2).f2)) ∧ w'.cell? ⟨(ad185.add ((x41_2).toNat * 5)).block, (ad185.add ((x41_2).toNat * 5)).off + 4, none⟩ = some (.slice A185_4 ((rd_T49 l1_2 x41_2).f3).length c185_4)) (ds := []) #[false, false, false, false, false, false, false, false, false, false, false, false] (by kernel_rfl) rfl rfl ⟨(blk_cell BK181.out 0).trans rfl, (blk_cell BK181.out 1).trans rfl, (blk_cell BK181.out 2).trans rfl, (blk_cell BK181.out 3).trans rfl, (blk_cell BK182.out 0).trans rfl, (blk_cell BK182.out 1).trans rfl, (blk_cell BK182.out 2).trans rfl, (blk_cell BK182.out 3).trans rfl, ((HB.out.cell (blc w _ hw184_0)).trans hw184_0), ((HB.out.cell (blc w _ hw184_1)).trans hw184_1), ((HB.out.cell (blc w _ hw184_2)).trans hw184_2), ((HB.out.cell (blc w _ hw184_3)).trans hw184_3), ((HB.out.cell (blc w _ hw184_4)).trans hw184_4), ((HB.out.cell (blc w _ hw185_0)).trans hw185_0), ((HB.out.cell (blc w _ hw185_1)).trans hw185_1), ((HB.out.cell (blc w _ hw185_2)).trans hw185_2), ((HB.out.cell (blc w _ hw185_3)).trans hw185_3), ((HB.out.cell (blc w _ hw185_4)).trans hw185_4)⟩ (fun hHeld => ?_); refine with_tabW provisoplain_SameModule.tab6 provisoplain_SameModule.bits6 (fun HT_ HW_ => ?_)
                      generalize wr.drew = w38 at BK181 BK182 HB HR184_1 HR184_4 HR185_1 HR185_4 hx184_0 hx184_1 hx184_2 hx184_3 hx184_4 hx185_0 hx185_1 hx185_2 hx185_3 hx185_4 hHeld ⊢
                      refine pure_ (i := 0) (N := some 44) (v := ?_) (a' := ?_) #[true, false, false, false, false, false, false, false, false, false, false, false] rfl rfl (any_of HT_.out (by kernel_rfl)) (fun _ _ _ h => h) (Or.inl ⟨by rfl, ?_⟩) ?_ ?_
                      rotate_left
                      · intro w'
                        go_simp
                        with_reducible rfl
                      rotate_left
                      · simp only [Act.put, sia, scz, scs, i64_w, i32_w]
                        rfl
                      refine pure_ (i := 2) (N := some 46) (v := ?_) (a' := ?_) #[true, false, true, false, false, false, false, false, false, false, false, false] rfl rfl (any_of HT_.out (by kernel_rfl)) (fun _ _ _ h => h) (Or.inl ⟨by rfl, ?_⟩) ?_ ?_
                      rotate_left
                      · intro w'
                        go_simp
                        with_reducible rfl
                      rotate_left
                      · simp only [Act.put, sia, scz, scs, i64_w, i32_w]
                        rfl
                      refine pure_ (i := 5) (N := some 49) (v := ?_) (a' := ?_) #[true, false, true, false, false, true, false, false, false, false, false, false] rfl rfl (any_of HT_.out (by kernel_rfl)) (fun _ _ _ h => h) (Or.inl ⟨by rfl, ?_⟩) ?_ ?_
                      rotate_left
                      · intro w'
                        go_simp
                        with_reducible rfl
                      rotate_left
                      · simp only [Act.put, sia, scz, scs, i64_w, i32_w]
                        rfl
                      refine pure_ (i := 7) (N := some 51) (v := ?_) (a' := ?_) #[true, false, true, false, false, true, false, true, false, false, false, false] rfl rfl (any_of HT_.out (by kernel_rfl)) (fun _ _ _ h => h) (Or.inl ⟨by rfl, ?_⟩) ?_ ?_
                      rotate_left
                      · intro w'
                        go_simp
                        with_reducible rfl
                      rotate_left
                      · simp only [Act.put, sia, scz, scs, i64_w, i32_w]
                        rfl
                      refine take_ (i := 1) (N := some 45) (v := ?_) (a' := ?_) #[true, true, true, false, false, true, false, true, false, false, false, false] rfl rfl (take_ofW HT_.out HW_.out (by kernel_rfl)) (fun _ _ _ h => h) (Or.inl ⟨by rfl, ?_⟩) hHeld ?_ ?_
                      rotate_left
                      · rintro w' ⟨s0, s1, s2, s3, s4, s5, s6, s7, s8, s9, s10, s11, s12, s13, s14, s15, s16, s17⟩
                        go_simp
                        with_reducible rfl
                      rotate_left
                      · simp only [Act.put, sia, scz, scs, i64_w, i32_w]
                        rfl
                      refine pure_ (i := 3) (N := some 47) (v := ?_) (a' := ?_) #[true, true, true, true, false, true, false, true, false, false, false, false] rfl rfl (any_of HT_.out (by kernel_rfl)) (fun _ _ _ h => h) (Or.inl ⟨by rfl, ?_⟩) ?_ ?_
                      rotate_left
                      · intro w'
                        go_simp
                        with_reducible rfl
                      rotate_left
                      · simp only [Act.put, sia, scz, scs, i64_w, i32_w]
                        rfl
                      refine take_ (i := 4) (N := some 48) (v := ?_) (a' := ?_) #[true, true, true, true, true, true, false, true, false, false, false, false] rfl rfl (take_ofW HT_.out HW_.out (by kernel_rfl)) (fun _ _ _ h => h) (Or.inl ⟨by rfl, ?_⟩) hHeld ?_ ?_
                      rotate_left
                      · rintro w' ⟨s0, s1, s2, s3, s4, s5, s6, s7, s8, s9, s10, s11, s12, s13, s14, s15, s16, s17⟩
                        go_simp
                        with_reducible rfl
                      rotate_left
                      · simp only [Act.put, sia, scz, scs, i64_w, i32_w]
                        rfl
                      refine take_ (i := 6) (N := some 50) (v := ?_) (a' := ?_) #[true, true, true, true, true, true, true, true, false, false, false, false] rfl rfl (take_ofW HT_.out HW_.out (by kernel_rfl)) (fun _ _ _ h => h) (Or.inl ⟨by rfl, ?_⟩) hHeld ?_ ?_
                      rotate_left
                      · rintro w' ⟨s0, s1, s2, s3, s4, s5, s6, s7, s8, s9, s10, s11, s12, s13, s14, s15, s16, s17⟩
                        go_simp
                        with_reducible rfl
                      rotate_left
                      · simp only [Act.put, sia, scz, scs, i64_w, i32_w]
                        rfl
                      refine pure_ (i := 8) (N := some 52) (v := ?_) (a' := ?_) #[true, true, true, true, true, true, true, true, true, false, false, false] rfl rfl (any_of HT_.out (by kernel_rfl)) (fun _ _ _ h => h) (Or.inl ⟨by rfl, ?_⟩) ?_ ?_
                      rotate_left
                      · intro w'
                        go_simp
                        with_reducible rfl
                      rotate_left
                      · simp only [Act.put, sia, scz, scs, i64_w, i32_w]
                        rfl
                      refine take_ (i := 9) (N := some 53) (v := ?_) (a' := ?_) #[true, true, true, true, true, true, true, true, true, true, false, false] rfl rfl (take_ofW HT_.out HW_.out (by kernel_rfl)) (fun _ _ _ h => h) (Or.inl ⟨by rfl, ?_⟩) hHeld ?_ ?_
                      rotate_left
                      · rintro w' ⟨s0, s1, s2, s3, s4, s5, s6, s7, s8, s9, s10, s11, s12, s13, s14, s15, s16, s17⟩
                        go_simp
                        with_reducible rfl
                      rotate_left
                      · simp only [Act.put, sia, scz, scs, i64_w, i32_w]
                        rfl
                      refine one_ (i := 10) (N := some 54) #[true, true, true, true, true, true, true, true, true, true, true, false] rfl rfl (one_of HT_.out (by kernel_rfl)) (by decide) (fun K hK => ?_)
                      refine goes_ Try.func36 (by kernel_rfl) rfl #[.agg #[.string ((rd_T49 l0_2 x41_2).f0), .slice A184_1 ((rd_T49 l0_2 x41_2).f1.f0).length c184_1, .int .u8 ((rd_T49 l0_2 x41_2).f1.f1), .int .i64 ((rd_T49 l0_2 x41_2).f2), .slice A184_4 ((rd_T49 l0_2 x41_2).f3).length c184_4], .agg #[.string ((rd_T49 l1_2 x41_2).f0), .slice A185_1 ((rd_T49 l1_2 x41_2).f1.f0).length c185_1, .int .u8 ((rd_T49 l1_2 x41_2).f1.f1), .int .i64 ((rd_T49 l1_2 x41_2).f2), .slice A185_4 ((rd_T49 l1_2 x41_2).f3).length c185_4]] (by rfl) rfl rfl (by (try simp only [List.map_toArray, List.map_cons, List.map_nil]); first | done | rfl | (simp only [List.length_drop, List.length_take]; rfl)) ?_
                      with_reducible refine (provisoplain_SameFunc.calls k2 ((rd_T49 l0_2 x41_2).f0) _ _ ((rd_T49 l0_2 x41_2).f1.f0) ((rd_T49 l0_2 x41_2).f1.f1) ((rd_T49 l0_2 x41_2).f2) _ _ ((rd_T49 l0_2 x41_2).f3) ((rd_T49 l1_2 x41_2).f0) _ _ ((rd_T49 l1_2 x41_2).f1.f0) ((rd_T49 l1_2 x41_2).f1.f1) ((rd_T49 l1_2 x41_2).f2) _ _ ((rd_T49 l1_2 x41_2).f3) true _ ?side1 ?side2 ?side3 ?side4 ?side5 ?side6 ?side7 ?side8 A36.out).mono ?_
                      (case side1 => repeat (first | exact (Kd.C_below HR184_1.out HB.out) | (with_reducible refine Kd.C_alloc ?_ _) | (with_reducible refine Kd.C_drewN ?_ _) | (with_reducible refine Kd.C_drew ?_)))
                      (case side2 => exact HC184_1.out)
                      (case side3 => repeat (first | exact (Kd.C_below HR184_4.out HB.out) | (with_reducible refine Kd.C_alloc ?_ _) | (with_reducible refine Kd.C_drewN ?_ _) | (with_reducible refine Kd.C_drew ?_)))
                      (case side4 => exact HC184_4.out)
                      (case side5 => repeat (first | exact (Kd.C_below HR185_1.out HB.out) | (with_reducible refine Kd.C_alloc ?_ _) | (with_reducible refine Kd.C_drewN ?_ _) | (with_reducible refine Kd.C_drew ?_)))
                      (case side6 => exact HC185_1.out)
                      (case side7 => repeat (first | exact (Kd.C_below HR185_4.out HB.out) | (with_reducible refine Kd.C_alloc ?_ _) | (with_reducible refine Kd.C_drewN ?_ _) | (with_reducible refine Kd.C_drew ?_)))
                      (case side8 => exact HC185_4.out)
                      rintro e w39 ⟨rfl, hb⟩
                      refine ⟨_, rfl, ?_⟩
                      have n0_ := amk (blk_below (g := gb181) (o := .cells #[.string a0_0, .slice A0_1 l0_1.length c0_1, .slice (some ad184) l0_2.length c0_2, .slice A0_3 l0_3.length c0_3] 26 (0, 0)) (by (with_reducible repeat (first | refine bkd ?_ _ | refine blk_drew ?_ | refine bka ?_ _)); exact BK181.out) hb)
                      have n1_ := amk (blk_below (g := gb182) (o := .cells #[.string a1_0, .slice A1_1 l1_1.length c1_1, .slice (some ad185) l1_2.length c1_2, .slice A1_3 l1_3.length c1_3] 26 (0, 0)) (by (with_reducible repeat (first | refine bkd ?_ _ | refine blk_drew ?_ | refine bka ?_ _)); exact BK182.out) hb)
                      have n2_ := amk (below_step (by repeat (first | (with_reducible first | exact HB.out | apply bal | apply pbd | apply bdr | refine below_set ?_ GE181.out | refine below_set ?_ GE182.out) | exact HB.out)) hb)
                      clear BK181
                      clear BK182
                      clear HB
                      have BK181 := n0_
                      have BK182 := n1_
                      have HB := n2_
                      clear n0_ n1_ n2_
                      (try clear hb)
                      (try clear hb2)
                      (try clear hk)
                      (try clear hi)
                      refine hK.out _ _ ⟨(blk_cell BK181.out 0).trans rfl, (blk_cell BK181.out 1).trans rfl, (blk_cell BK181.out 2).trans rfl, (blk_cell BK181.out 3).trans rfl, (blk_cell BK182.out 0).trans rfl, (blk_cell BK182.out 1).trans rfl, (blk_cell BK182.out 2).trans rfl, (blk_cell BK182.out 3).trans rfl, ((HB.out.cell (blc w _ hw184_0)).trans hw184_0), ((HB.out.cell (blc w _ hw184_1)).trans hw184_1), ((HB.out.cell (blc w _ hw184_2)).trans hw184_2), ((HB.out.cell (blc w _ hw184_3)).trans hw184_3), ((HB.out.cell (blc w _ hw184_4)).trans hw184_4), ((HB.out.cell (blc w _ hw185_0)).trans hw185_0), ((HB.out.cell (blc w _ hw185_1)).trans hw185_1), ((HB.out.cell (blc w _ hw185_2)).trans hw185_2), ((HB.out.cell (blc w _ hw185_3)).trans hw185_3), ((HB.out.cell (blc w _ hw185_4)).trans hw185_4)⟩ (fun hHeld => ?_)
                      clear hK K
                      refine norm_ (a' := ?_) ?_ ?_
                      rotate_left
                      · show Act.put _ (some 54) _ = _
                        simp only [Act.put, sia, scz, scs, i64_w, i32_w]
                        rfl
                      refine pure_ (i := 11) (N := some 55) (v := ?_) (a' := ?_) #[true, true, true, true, true, true, true, true, true, true, true, true] rfl rfl (any_of HT_.out (by kernel_rfl)) (fun _ _ _ h => h) (Or.inl ⟨by rfl, ?_⟩) ?_ ?_
                      rotate_left
                      · intro w'
                        go_simp
                        with_reducible rfl
                      rotate_left
                      · simp only [Act.put, sia, scz, scs, i64_w, i32_w]
                        rfl
                      refine done_ (done_of HT_.out (by kernel_rfl)) ?_
                      try go_wp2
                      go_roundg k2
                      case measure => have := HJ2.out; have := HK2.out; omega
                      case rel => exact ⟨(wrap64 (x41_2 + 1)), (by first | rfl | (simp; done) | (simp [*]; done)), H', ⟨by have := HJ2.out; have := HK2.out; omega⟩, ⟨by (with_reducible repeat (first | refine bkd ?_ _ | refine blk_drew ?_ | refine bka ?_ _)); exact BK181.out⟩, ⟨by (with_reducible repeat (first | refine bkd ?_ _ | refine blk_drew ?_ | refine bka ?_ _)); exact BK182.out⟩, ⟨by repeat (first | (with_reducible first | exact HB.out | apply bal | apply pbd | apply bdr | refine below_set ?_ GE181.out | refine below_set ?_ GE182.out) | exact HB.out)⟩⟩
                    · replace c37 := Bool.eq_false_iff.mpr c37
                      subst c37
                      have H1 : (some false) = some r := by rw [if_neg (show ¬ (false = true) by decide)] at H; exact H
                      clear H
                      have H := H1
                      clear H1
                      obtain rfl := Option.some.inj H
                      try go_wp2
                      have n0_ := amk (blk_drew BK181.out)
                      have n1_ := amk (blk_drew BK182.out)
                      have n2_ := amk (bdr HB.out)
                      clear BK181
                      clear BK182
                      clear HB
                      have BK181 := n0_
                      have BK182 := n1_
                      have HB := n2_
                      clear n0_ n1_ n2_
                      have p184 : 0 ≤ (x41_2 : Int) := of_decide_eq_true (by first | (with_reducible assumption) | assumption)
                      have q184 : x41_2 < (l0_2.length : Int) := of_decide_eq_true (by first | (with_reducible assumption) | assumption)
                      obtain ⟨ad184, A184_1, c184_1, A184_4, c184_4, e184, hx184_0, hx184_1, hx184_2, hx184_3, hx184_4, hl184_1, hi184_1, hl184_4, hi184_4⟩ := at_T49 HR0_2.out x41_2 p184 q184
                      have hw184_4 := hx184_4
                      have hw184_3 := hx184_3
                      have hw184_2 := hx184_2
                      have hw184_1 := hx184_1
                      have hw184_0 := hx184_0
                      cases e184
                      replace hx184_0 := (HB.out.cell (blc w _ hx184_0)).trans hx184_0
                      replace hx184_1 := (HB.out.cell (blc w _ hx184_1)).trans hx184_1
                      replace hx184_2 := (HB.out.cell (blc w _ hx184_2)).trans hx184_2
                      replace hx184_3 := (HB.out.cell (blc w _ hx184_3)).trans hx184_3
                      replace hx184_4 := (HB.out.cell (blc w _ hx184_4)).trans hx184_4
                      have HR184_1 := amk hi184_1
                      have HC184_1 := amk hl184_1
                      clear hi184_1 hl184_1
                      have HR184_4 := amk hi184_4
                      have HC184_4 := amk hl184_4
                      clear hi184_4 hl184_4
                      replace p184 := eq_true p184
                      replace q184 := eq_true q184
                      have p185 : 0 ≤ (x41_2 : Int) := of_decide_eq_true (by first | (with_reducible assumption) | assumption)
                      have q185 : x41_2 < (l1_2.length : Int) := of_decide_eq_true (by first | (with_reducible assumption) | assumption)
                      obtain ⟨ad185, A185_1, c185_1, A185_4, c185_4, e185, hx185_0, hx185_1, hx185_2, hx185_3, hx185_4, hl185_1, hi185_1, hl185_4, hi185_4⟩ := at_T49 HR1_2.out x41_2 p185 q185
                      have hw185_4 := hx185_4
                      have hw185_3 := hx185_3
                      have hw185_2 := hx185_2
                      have hw185_1 := hx185_1
                      have hw185_0 := hx185_0
                      cases e185
                      replace hx185_0 := (HB.out.cell (blc w _ hx185_0)).trans hx185_0
                      replace hx185_1 := (HB.out.cell (blc w _ hx185_1)).trans hx185_1
                      replace hx185_2 := (HB.out.cell (blc w _ hx185_2)).trans hx185_2
                      replace hx185_3 := (HB.out.cell (blc w _ hx185_3)).trans hx185_3
                      replace hx185_4 := (HB.out.cell (blc w _ hx185_4)).trans hx185_4
                      have HR185_1 := amk hi185_1
                      have HC185_1 := amk hl185_1
                      clear hi185_1 hl185_1
                      have HR185_4 := amk hi185_4
                      have HC185_4 := amk hl185_4
                      clear hi185_4 hl185_4
                      replace p185 := eq_true p185
                      replace q185 := eq_true q185
                      refine start_ (n := 12) (S := fun w' => w'.cell? ⟨gb181, 0, none⟩ = some (.string a0_0) ∧ w'.cell? ⟨gb181, 1, none⟩ = some (.slice A0_1 l0_1.length c0_1) ∧ w'.cell? ⟨gb181, 2, none⟩ = some (.slice (some ad184) l0_2.length c0_2) ∧ w'.cell? ⟨gb181, 3, none⟩ = some (.slice A0_3 l0_3.length c0_3) ∧ w'.cell? ⟨gb182, 0, none⟩ = some (.string a1_0) ∧ w'.cell? ⟨gb182, 1, none⟩ = some (.slice A1_1 l1_1.length c1_1) ∧ w'.cell? ⟨gb182, 2, none⟩ = some (.slice (some ad185) l1_2.length c1_2) ∧ w'.cell? ⟨gb182, 3, none⟩ = some (.slice A1_3 l1_3.length c1_3) ∧ w'.cell? (ad184.add ((x41_2).toNat * 5)) = some (.string ((rd_T49 l0_2 x41_2).f0)) ∧ w'.cell? ⟨(ad184.add ((x41_2).toNat * 5)).block, (ad184.add ((x41_2).toNat * 5)).off + 1, none⟩ = some (.slice A184_1 ((rd_T49 l0_2 x41_2).f1.f0).length c184_1) ∧ w'.cell? ⟨(ad184.add ((x41_2).toNat * 5)).block, (ad184.add ((x41_2).toNat * 5)).off + 2, none⟩ = some (.int .u8 ((rd_T49 l0_2 x41_2).f1.f1)) ∧ w'.cell? ⟨(ad184.add ((x41_2).toNat * 5)).block, (ad184.add ((x41_2).toNat * 5)).off + 3, none⟩ = some (.int .i64 ((rd_T49 l0_2 x41_2).f2)) ∧ w'.cell? ⟨(ad184.add ((x41_2).toNat * 5)).block, (ad184.add ((x41_2).toNat * 5)).off + 4, none⟩ = some (.slice A184_4 ((rd_T49 l0_2 x41_2).f3).length c184_4) ∧ w'.cell? (ad185.add ((x41_2).toNat * 5)) = some (.string ((rd_T49 l1_2 x41_2).f0)) ∧ w'.cell? ⟨(ad185.add ((x41_2).toNat * 5)).block, (ad185.add ((x41_2).toNat * 5)).off + 1, none⟩ = some (.slice A185_1 ((rd_T49 l1_2 x41_2).f1.f0).length c185_1) ∧ w'.cell? ⟨(ad185.add ((x41_2).toNat * 5)).block, (ad185.add ((x41_2).toNat * 5)).off + 2, none⟩ = some (.int .u8 ((rd_T49 l1_2 x41_2).f1.f1)) ∧ w'.cell? ⟨(ad185.add ((x41_2).toNat * 5)).block, (ad185.add ((x41_2).toNat * 5)).off + 3, none⟩ = some (.int .i64 ((rd_T49 l1_2 x41_2).f2)) ∧ w'.cell? ⟨(ad185.add ((x41_2).toNat * 5)).block, (ad185.add ((x41_2).toNat * 5)).off + 4, none⟩ = some (.slice A185_4 ((rd_T49 l1_2 x41_2).f3).length c185_4)) (ds := []) #[false, false, false, false, false, false, false, false, false, false, false, false] (by kernel_rfl) rfl rfl ⟨(blk_cell BK181.out 0).trans rfl, (blk_cell BK181.out 1).trans rfl, (blk_cell BK181.out 2).trans rfl, (blk_cell BK181.out 3).trans rfl, (blk_cell BK182.out 0).trans rfl, (blk_cell BK182.out 1).trans rfl, (blk_cell BK182.out 2).trans rfl, (blk_cell BK182.out 3).trans rfl, ((HB.out.cell (blc w _ hw184_0)).trans hw184_0), ((HB.out.cell (blc w _ hw184_1)).trans hw184_1), ((HB.out.cell (blc w _ hw184_2)).trans hw184_2), ((HB.out.cell (blc w _ hw184_3)).trans hw184_3), ((HB.out.cell (blc w _ hw184_4)).trans hw184_4), ((HB.out.cell (blc w _ hw185_0)).trans hw185_0), ((HB.out.cell (blc w _ hw185_1)).trans hw185_1), ((HB.out.cell (blc w _ hw185_2)).trans hw185_2), ((HB.out.cell (blc w _ hw185_3)).trans hw185_3), ((HB.out.cell (blc w _ hw185_4)).trans hw185_4)⟩ (fun hHeld => ?_); refine with_tabW provisoplain_SameModule.tab6 provisoplain_SameModule.bits6 (fun HT_ HW_ => ?_)
                      generalize wr.drew = w40 at BK181 BK182 HB HR184_1 HR184_4 HR185_1 HR185_4 hx184_0 hx184_1 hx184_2 hx184_3 hx184_4 hx185_0 hx185_1 hx185_2 hx185_3 hx185_4 hHeld ⊢
                      refine pure_ (i := 0) (N := some 44) (v := ?_) (a' := ?_) #[true, false, false, false, false, false, false, false, false, false, false, false] rfl rfl (any_of HT_.out (by kernel_rfl)) (fun _ _ _ h => h) (Or.inl ⟨by rfl, ?_⟩) ?_ ?_
                      rotate_left
                      · intro w'
                        go_simp
                        with_reducible rfl
                      rotate_left
                      · simp only [Act.put, sia, scz, scs, i64_w, i32_w]
                        rfl
                      refine pure_ (i := 2) (N := some 46) (v := ?_) (a' := ?_) #[true, false, true, false, false, false, false, false, false, false, false, false] rfl rfl (any_of HT_.out (by kernel_rfl)) (fun _ _ _ h => h) (Or.inl ⟨by rfl, ?_⟩) ?_ ?_
                      rotate_left
                      · intro w'
                        go_simp
                        with_reducible rfl
                      rotate_left
                      · simp only [Act.put, sia, scz, scs, i64_w, i32_w]
                        rfl
                      refine pure_ (i := 5) (N := some 49) (v := ?_) (a' := ?_) #[true, false, true, false, false, true, false, false, false, false, false, false] rfl rfl (any_of HT_.out (by kernel_rfl)) (fun _ _ _ h => h) (Or.inl ⟨by rfl, ?_⟩) ?_ ?_
                      rotate_left
                      · intro w'
                        go_simp
                        with_reducible rfl
                      rotate_left
                      · simp only [Act.put, sia, scz, scs, i64_w, i32_w]
                        rfl
                      refine pure_ (i := 7) (N := some 51) (v := ?_) (a' := ?_) #[true, false, true, false, false, true, false, true, false, false, false, false] rfl rfl (any_of HT_.out (by kernel_rfl)) (fun _ _ _ h => h) (Or.inl ⟨by rfl, ?_⟩) ?_ ?_
                      rotate_left
                      · intro w'
                        go_simp
                        with_reducible rfl
                      rotate_left
                      · simp only [Act.put, sia, scz, scs, i64_w, i32_w]
                        rfl
                      refine take_ (i := 1) (N := some 45) (v := ?_) (a' := ?_) #[true, true, true, false, false, true, false, true, false, false, false, false] rfl rfl (take_ofW HT_.out HW_.out (by kernel_rfl)) (fun _ _ _ h => h) (Or.inl ⟨by rfl, ?_⟩) hHeld ?_ ?_
                      rotate_left
                      · rintro w' ⟨s0, s1, s2, s3, s4, s5, s6, s7, s8, s9, s10, s11, s12, s13, s14, s15, s16, s17⟩
                        go_simp
                        with_reducible rfl
                      rotate_left
                      · simp only [Act.put, sia, scz, scs, i64_w, i32_w]
                        rfl
                      refine pure_ (i := 3) (N := some 47) (v := ?_) (a' := ?_) #[true, true, true, true, false, true, false, true, false, false, false, false] rfl rfl (any_of HT_.out (by kernel_rfl)) (fun _ _ _ h => h) (Or.inl ⟨by rfl, ?_⟩) ?_ ?_
                      rotate_left
                      · intro w'
                        go_simp
                        with_reducible rfl
                      rotate_left
                      · simp only [Act.put, sia, scz, scs, i64_w, i32_w]
                        rfl
                      refine take_ (i := 4) (N := some 48) (v := ?_) (a' := ?_) #[true, true, true, true, true, true, false, true, false, false, false, false] rfl rfl (take_ofW HT_.out HW_.out (by kernel_rfl)) (fun _ _ _ h => h) (Or.inl ⟨by rfl, ?_⟩) hHeld ?_ ?_
                      rotate_left
                      · rintro w' ⟨s0, s1, s2, s3, s4, s5, s6, s7, s8, s9, s10, s11, s12, s13, s14, s15, s16, s17⟩
                        go_simp
                        with_reducible rfl
                      rotate_left
                      · simp only [Act.put, sia, scz, scs, i64_w, i32_w]
                        rfl
                      refine take_ (i := 6) (N := some 50) (v := ?_) (a' := ?_) #[true, true, true, true, true, true, true, true, false, false, false, false] rfl rfl (take_ofW HT_.out HW_.out (by kernel_rfl)) (fun _ _ _ h => h) (Or.inl ⟨by rfl, ?_⟩) hHeld ?_ ?_
                      rotate_left
                      · rintro w' ⟨s0, s1, s2, s3, s4, s5, s6, s7, s8, s9, s10, s11, s12, s13, s14, s15, s16, s17⟩
                        go_simp
                        with_reducible rfl
                      rotate_left
                      · simp only [Act.put, sia, scz, scs, i64_w, i32_w]
                        rfl
                      refine pure_ (i := 8) (N := some 52) (v := ?_) (a' := ?_) #[true, true, true, true, true, true, true, true, true, false, false, false] rfl rfl (any_of HT_.out (by kernel_rfl)) (fun _ _ _ h => h) (Or.inl ⟨by rfl, ?_⟩) ?_ ?_
                      rotate_left
                      · intro w'
                        go_simp
                        with_reducible rfl
                      rotate_left
                      · simp only [Act.put, sia, scz, scs, i64_w, i32_w]
                        rfl
                      refine take_ (i := 9) (N := some 53) (v := ?_) (a' := ?_) #[true, true, true, true, true, true, true, true, true, true, false, false] rfl rfl (take_ofW HT_.out HW_.out (by kernel_rfl)) (fun _ _ _ h => h) (Or.inl ⟨by rfl, ?_⟩) hHeld ?_ ?_
                      rotate_left
                      · rintro w' ⟨s0, s1, s2, s3, s4, s5, s6, s7, s8, s9, s10, s11, s12, s13, s14, s15, s16, s17⟩
                        go_simp
                        with_reducible rfl
                      rotate_left
                      · simp only [Act.put, sia, scz, scs, i64_w, i32_w]
                        rfl
                      refine one_ (i := 10) (N := some 54) #[true, true, true, true, true, true, true, true, true, true, true, false] rfl rfl (one_of HT_.out (by kernel_rfl)) (by decide) (fun K hK => ?_)
                      refine goes_ Try.func36 (by kernel_rfl) rfl #[.agg #[.string ((rd_T49 l0_2 x41_2).f0), .slice A184_1 ((rd_T49 l0_2 x41_2).f1.f0).length c184_1, .int .u8 ((rd_T49 l0_2 x41_2).f1.f1), .int .i64 ((rd_T49 l0_2 x41_2).f2), .slice A184_4 ((rd_T49 l0_2 x41_2).f3).length c184_4], .agg #[.string ((rd_T49 l1_2 x41_2).f0), .slice A185_1 ((rd_T49 l1_2 x41_2).f1.f0).length c185_1, .int .u8 ((rd_T49 l1_2 x41_2).f1.f1), .int .i64 ((rd_T49 l1_2 x41_2).f2), .slice A185_4 ((rd_T49 l1_2 x41_2).f3).length c185_4]] (by rfl) rfl rfl (by (try simp only [List.map_toArray, List.map_cons, List.map_nil]); first | done | rfl | (simp only [List.length_drop, List.length_take]; rfl)) ?_
                      with_reducible refine (provisoplain_SameFunc.calls k2 ((rd_T49 l0_2 x41_2).f0) _ _ ((rd_T49 l0_2 x41_2).f1.f0) ((rd_T49 l0_2 x41_2).f1.f1) ((rd_T49 l0_2 x41_2).f2) _ _ ((rd_T49 l0_2 x41_2).f3) ((rd_T49 l1_2 x41_2).f0) _ _ ((rd_T49 l1_2 x41_2).f1.f0) ((rd_T49 l1_2 x41_2).f1.f1) ((rd_T49 l1_2 x41_2).f2) _ _ ((rd_T49 l1_2 x41_2).f3) false _ ?side1 ?side2 ?side3 ?side4 ?side5 ?side6 ?side7 ?side8 A36.out).mono ?_
                      (case side1 => repeat (first | exact (Kd.C_below HR184_1.out HB.out) | (with_reducible refine Kd.C_alloc ?_ _) | (with_reducible refine Kd.C_drewN ?_ _) | (with_reducible refine Kd.C_drew ?_)))
                      (case side2 => exact HC184_1.out)
                      (case side3 => repeat (first | exact (Kd.C_below HR184_4.out HB.out) | (with_reducible refine Kd.C_alloc ?_ _) | (with_reducible refine Kd.C_drewN ?_ _) | (with_reducible refine Kd.C_drew ?_)))
                      (case side4 => exact HC184_4.out)
                      (case side5 => repeat (first | exact (Kd.C_below HR185_1.out HB.out) | (with_reducible refine Kd.C_alloc ?_ _) | (with_reducible refine Kd.C_drewN ?_ _) | (with_reducible refine Kd.C_drew ?_)))
                      (case side6 => exact HC185_1.out)
                      (case side7 => repeat (first | exact (Kd.C_below HR185_4.out HB.out) | (with_reducible refine Kd.C_alloc ?_ _) | (with_reducible refine Kd.C_drewN ?_ _) | (with_reducible refine Kd.C_drew ?_)))
                      (case side8 => exact HC185_4.out)
                      rintro e w41 ⟨rfl, hb⟩
                      refine ⟨_, rfl, ?_⟩
                      have n0_ := amk (blk_below (g := gb181) (o := .cells #[.string a0_0, .slice A0_1 l0_1.length c0_1, .slice (some ad184) l0_2.length c0_2, .slice A0_3 l0_3.length c0_3] 26 (0, 0)) (by (with_reducible repeat (first | refine bkd ?_ _ | refine blk_drew ?_ | refine bka ?_ _)); exact BK181.out) hb)
                      have n1_ := amk (blk_below (g := gb182) (o := .cells #[.string a1_0, .slice A1_1 l1_1.length c1_1, .slice (some ad185) l1_2.length c1_2, .slice A1_3 l1_3.length c1_3] 26 (0, 0)) (by (with_reducible repeat (first | refine bkd ?_ _ | refine blk_drew ?_ | refine bka ?_ _)); exact BK182.out) hb)
                      have n2_ := amk (below_step (by repeat (first | (with_reducible first | exact HB.out | apply bal | apply pbd | apply bdr | refine below_set ?_ GE181.out | refine below_set ?_ GE182.out) | exact HB.out)) hb)
                      clear BK181
                      clear BK182
                      clear HB
                      have BK181 := n0_
                      have BK182 := n1_
                      have HB := n2_
                      clear n0_ n1_ n2_
                      (try clear hb)
                      (try clear hb2)
                      (try clear hk)
                      (try clear hi)
                      refine hK.out _ _ ⟨(blk_cell BK181.out 0).trans rfl, (blk_cell BK181.out 1).trans rfl, (blk_cell BK181.out 2).trans rfl, (blk_cell BK181.out 3).trans rfl, (blk_cell BK182.out 0).trans rfl, (blk_cell BK182.out 1).trans rfl, (blk_cell BK182.out 2).trans rfl, (blk_cell BK182.out 3).trans rfl, ((HB.out.cell (blc w _ hw184_0)).trans hw184_0), ((HB.out.cell (blc w _ hw184_1)).trans hw184_1), ((HB.out.cell (blc w _ hw184_2)).trans hw184_2), ((HB.out.cell (blc w _ hw184_3)).trans hw184_3), ((HB.out.cell (blc w _ hw184_4)).trans hw184_4), ((HB.out.cell (blc w _ hw185_0)).trans hw185_0), ((HB.out.cell (blc w _ hw185_1)).trans hw185_1), ((HB.out.cell (blc w _ hw185_2)).trans hw185_2), ((HB.out.cell (blc w _ hw185_3)).trans hw185_3), ((HB.out.cell (blc w _ hw185_4)).trans hw185_4)⟩ (fun hHeld => ?_)
                      clear hK K
                      refine norm_ (a' := ?_) ?_ ?_
                      rotate_left
                      · show Act.put _ (some 54) _ = _
                        simp only [Act.put, sia, scz, scs, i64_w, i32_w]
                        rfl
                      refine pure_ (i := 11) (N := some 55) (v := ?_) (a' := ?_) #[true, true, true, true, true, true, true, true, true, true, true, true] rfl rfl (any_of HT_.out (by kernel_rfl)) (fun _ _ _ h => h) (Or.inl ⟨by rfl, ?_⟩) ?_ ?_
                      rotate_left
                      · intro w'
                        go_simp
                        with_reducible rfl
                      rotate_left
                      · simp only [Act.put, sia, scz, scs, i64_w, i32_w]
                        rfl
                      refine done_ (done_of HT_.out (by kernel_rfl)) ?_
                      try go_wp2
                      go_ret
                      exact ⟨by first | rfl | (simp [errW_none, errW_some] <;> rfl) | (simp [*, errW_none, errW_some] <;> rfl), by repeat (first | (with_reducible first | exact HB.out | apply bal | apply pbd | apply bdr | refine below_set ?_ GE181.out | refine below_set ?_ GE182.out) | exact HB.out)⟩
                  · rw [if_neg c35] at H
                    exact absurd H (by simp)
                · rw [if_neg c34] at H
                  exact absurd H (by simp)
              · rw [if_neg c33] at H
                exact absurd H (by simp)
            · rw [if_neg c32] at H
              have c32b0 : decide (x41_2 < (l0_2.length : Int)) = false := decide_eq_false c32
              clear c32
              have H' := amk H
              clear H
              have hnb42 := NB181_182.out
              have hnc42 := NB182_181.out
              have hcz43_0 : wr.cell? ⟨gb181, 0, none⟩ = some (.string a0_0) := (blk_cell BK181.out 0).trans rfl
              have hcz43_1 : wr.cell? ⟨gb181, 1, none⟩ = some (.slice A0_1 l0_1.length c0_1) := (blk_cell BK181.out 1).trans rfl
              have hcz43_2 : wr.cell? ⟨gb181, 2, none⟩ = some (.slice A0_2 l0_2.length c0_2) := (blk_cell BK181.out 2).trans rfl
              have hcz43_3 : wr.cell? ⟨gb181, 3, none⟩ = some (.slice A0_3 l0_3.length c0_3) := (blk_cell BK181.out 3).trans rfl
              have hfz43_0 := bkf BK181.out 0
              have hfz43_1 := bkf BK181.out 1
              have hfz43_2 := bkf BK181.out 2
              have hfz43_3 := bkf BK181.out 3
              go_wp2
              go_loopg [60] k2 (fun kq v60 w' => ∃ (x60_3 : Int), v60 = .int .i64 x60_3 ∧ Aside0 (provisoplain_SameModule.l1 kq (l0_3.length : Int) x60_3 a0_0 l0_1 l0_2 l0_3 a1_0 l1_1 l1_2 l1_3 = some r) ∧ Aside0 (kq ≤ k2) ∧ Aside0 (w'.heap[gb181]? = some (.cells #[.string a0_0, (.slice A0_1 l0_1.length c0_1), (.slice A0_2 l0_2.length c0_2), (.slice A0_3 l0_3.length c0_3)] 26 (0, 0))) ∧ Aside0 (w'.heap[gb182]? = some (.cells #[.string a1_0, (.slice A1_1 l1_1.length c1_1), (.slice A1_2 l1_2.length c1_2), (.slice A1_3 l1_3.length c1_3)] 26 (0, 0))) ∧ Aside0 (Below w.heap.size w w'))
              case atStart => exact ⟨(0), (by first | rfl | (simp; done) | (simp [*]; done)), H', ⟨Nat.le_refl _⟩, ⟨by (with_reducible repeat (first | refine bkd ?_ _ | refine blk_drew ?_ | refine bka ?_ _)); exact BK181.out⟩, ⟨by (with_reducible repeat (first | refine bkd ?_ _ | refine blk_drew ?_ | refine bka ?_ _)); exact BK182.out⟩, ⟨by repeat (first | (with_reducible first | exact HB.out | apply bal | apply pbd | apply bdr | refine below_set ?_ GE181.out | refine below_set ?_ GE182.out) | exact HB.out)⟩⟩
              case round =>
                clear H'
                try clear c1
                try clear p1
                try clear q1
                try clear hx1
                try clear c2
                try clear p2
                try clear c3
                try clear c4
                try clear c6
                try clear c6b0
                try clear c6b1
                try clear p6
                try clear c8
                try clear c9
                try clear c9b0
                try clear c9b1
                try clear c9b2
                try clear c10
                try clear c14
                try clear c16
                try clear c18
                try clear p18
                try clear q18
                try clear hx18
                try clear c22
                try clear c26
                try clear c29
                try clear c30
                try clear c32
                try clear c32b0
                try clear c33
                try clear c33b0
                try clear c34
                try clear c34b0
                try clear c35
                try clear c35b0
                try clear c36
                try clear c37
                try clear c42
                try clear hcz11_0
                try clear hcz11_1
                try clear hcz11_2
                try clear hcz11_3
                try clear hcz12_0
                try clear hcz12_1
                try clear hcz12_2
                try clear hcz12_3
                try clear hcz14_0
                try clear hcz14_1
                try clear hcz14_2
                try clear hcz14_3
                try clear hcz15_0
                try clear hcz15_1
                try clear hcz15_2
                try clear hcz15_3
                try clear hcz17_0
                try clear hcz17_1
                try clear hcz17_2
                try clear hcz17_3
                try clear hcz18_0
                try clear hcz18_1
                try clear hcz18_2
                try clear hcz18_3
                try clear hcz20_0
                try clear hcz20_1
                try clear hcz20_2
                try clear hcz20_3
                try clear hcz21_0
                try clear hcz21_1
                try clear hcz21_2
                try clear hcz21_3
                try clear hcz23_0
                try clear hcz23_1
                try clear hcz23_2
                try clear hcz23_3
                try clear hcz24_0
                try clear hcz24_1
                try clear hcz24_2
                try clear hcz24_3
                try clear hcz27_0
                try clear hcz27_1
                try clear hcz27_2
                try clear hcz27_3
                try clear hcz28_0
                try clear hcz28_1
                try clear hcz28_2
                try clear hcz28_3
                try clear hcz31_0
                try clear hcz31_1
                try clear hcz31_2
                try clear hcz31_3
                try clear hcz43_0
                try clear hcz43_1
                try clear hcz43_2
                try clear hcz43_3
                try clear hfz11_0
                try clear hfz11_1
                try clear hfz11_2
                try clear hfz11_3
                try clear hfz12_0
                try clear hfz12_1
                try clear hfz12_2
                try clear hfz12_3
                try clear hfz14_0
                try clear hfz14_1
                try clear hfz14_2
                try clear hfz14_3
                try clear hfz15_0
                try clear hfz15_1
                try clear hfz15_2
                try clear hfz15_3
                try clear hfz17_0
                try clear hfz17_1
                try clear hfz17_2
                try clear hfz17_3
                try clear hfz18_0
                try clear hfz18_1
                try clear hfz18_2
                try clear hfz18_3
                try clear hfz20_0
                try clear hfz20_1
                try clear hfz20_2
                try clear hfz20_3
                try clear hfz21_0
                try clear hfz21_1
                try clear hfz21_2
                try clear hfz21_3
                try clear hfz23_0
                try clear hfz23_1
                try clear hfz23_2
                try clear hfz23_3
                try clear hfz24_0
                try clear hfz24_1
                try clear hfz24_2
                try clear hfz24_3
                try clear hfz27_0
                try clear hfz27_1
                try clear hfz27_2
                try clear hfz27_3
                try clear hfz28_0
                try clear hfz28_1
                try clear hfz28_2
                try clear hfz28_3
                try clear hfz31_0
                try clear hfz31_1
                try clear hfz31_2
                try clear hfz31_3
                try clear hfz43_0
                try clear hfz43_1
                try clear hfz43_2
                try clear hfz43_3
                try clear hx184_0
                try clear hx184_1
                try clear hx184_2
                try clear hx184_3
                try clear hx184_4
                try clear hx185_0
                try clear hx185_1
                try clear hx185_2
                try clear hx185_3
                try clear hx185_4
                try clear p184
                try clear p185
                try clear p2
                try clear q184
                try clear q185
                obtain ⟨x60_3, rfl, HA, HK3, BK181, BK182, HB⟩ := hrel
                cases gk with
                | zero => exact absurd HA.out (by simp [provisoplain_SameModule.l1])
                | succ k3 =>
                  have H := HA.out
                  clear HA
                  simp only [provisoplain_SameModule.l1] at H
                  by_cases c44 : x60_3 < (l0_3.length : Int)
                  · rw [if_pos c44] at H
                    have c44b0 : decide (x60_3 < (l0_3.length : Int)) = true := decide_eq_true c44
                    clear c44
                    by_cases c45 : 0 ≤ x60_3
                    · rw [if_pos c45] at H
                      have c45b0 : decide (0 ≤ x60_3) = true := decide_eq_true c45
                      clear c45
                      by_cases c46 : x60_3 < (l0_3.length : Int)
                      · rw [if_pos c46] at H
                        have c46b0 : decide (x60_3 < (l0_3.length : Int)) = true := decide_eq_true c46
                        clear c46
                        by_cases c47 : x60_3 < (l1_3.length : Int)
                        · rw [if_pos c47] at H
                          have c47b0 : decide (x60_3 < (l1_3.length : Int)) = true := decide_eq_true c47
                          clear c47
                          replace H := Option.bind_eq_some_iff.mp H
                          obtain ⟨t189, A480, H⟩ := H
                          replace H : (if t189 = true then (provisoplain_SameModule.l1 k3 (l0_3.length : Int) (wrap64 (x60_3 + 1)) a0_0 l0_1 l0_2 l0_3 a1_0 l1_1 l1_2 l1_3) else (some false)) = some r := H
                          have A48 := amk A480
                          clear A480
                          by_cases c49 : t189 = true
                          · subst c49
                            have H1 : (provisoplain_SameModule.l1 k3 (l0_3.length : Int) (wrap64 (x60_3 + 1)) a0_0 l0_1 l0_2 l0_3 a1_0 l1_1 l1_2 l1_3) = some r := by rw [if_pos rfl] at H; exact H
                            clear H
                            have H := H1
                            clear H1
                            have H' := amk H
                            clear H
                            try go_wp2
                            have n0_ := amk (blk_drew BK181.out)
                            have n1_ := amk (blk_drew BK182.out)
                            have n2_ := amk (bdr HB.out)
                            clear BK181
                            clear BK182
                            clear HB
                            have BK181 := n0_
                            have BK182 := n1_
                            have HB := n2_
                            clear n0_ n1_ n2_
                            have p187 : 0 ≤ (x60_3 : Int) := of_decide_eq_true (by first | (with_reducible assumption) | assumption)
                            have q187 : x60_3 < (l0_3.length : Int) := of_decide_eq_true (by first | (with_reducible assumption) | assumption)
                            obtain ⟨ad187, A187_0, c187_0, e187, hx187_0, hl187_0, hi187_0⟩ := at_L8 HR0_3.out x60_3 p187 q187
                            have hw187_0 := hx187_0
                            cases e187
                            replace hx187_0 := (HB.out.cell (blc w _ hx187_0)).trans hx187_0
                            have HR187_0 := amk hi187_0
                            have HC187_0 := amk hl187_0
                            clear hi187_0 hl187_0
                            replace p187 := eq_true p187
                            replace q187 := eq_true q187
                            have p188 : 0 ≤ (x60_3 : Int) := of_decide_eq_true (by first | (with_reducible assumption) | assumption)
                            have q188 : x60_3 < (l1_3.length : Int) := of_decide_eq_true (by first | (with_reducible assumption) | assumption)
                            obtain ⟨ad188, A188_0, c188_0, e188, hx188_0, hl188_0, hi188_0⟩ := at_L8 HR1_3.out x60_3 p188 q188
                            have hw188_0 := hx188_0
                            cases e188
                            replace hx188_0 := (HB.out.cell (blc w _ hx188_0)).trans hx188_0
                            have HR188_0 := amk hi188_0
                            have HC188_0 := amk hl188_0
                            clear hi188_0 hl188_0
                            replace p188 := eq_true p188
                            replace q188 := eq_true q188
                            refine start_ (n := 12) (S := fun w' => w'.cell? ⟨gb181, 0, none⟩ = some (.string a0_0) ∧ w'.cell? ⟨gb181, 1, none⟩ = some (.slice A0_1 l0_1.length c0_1) ∧ w'.cell? ⟨gb181, 2, none⟩ = some (.slice A0_2 l0_2.length c0_2) ∧ w'.cell? ⟨gb181, 3, none⟩ = some (.slice (some ad187) l0_3.length c0_3) ∧ w'.cell? ⟨gb182, 0, none⟩ = some (.string a1_0) ∧ w'.cell? ⟨gb182, 1, none⟩ = some (.slice A1_1 l1_1.length c1_1) ∧ w'.cell? ⟨gb182, 2, none⟩ = some (.slice A1_2 l1_2.length c1_2) ∧ w'.cell? ⟨gb182, 3, none⟩ = some (.slice (some ad188) l1_3.length c1_3) ∧ w'.cell? (ad187.add (x60_3).toNat) = some (.slice A187_0 (rd_L8 l0_3 x60_3).length c187_0) ∧ w'.cell? (ad188.add (x60_3).toNat) = some (.slice A188_0 (rd_L8 l1_3 x60_3).length c188_0)) (ds := []) #[false, false, false, false, false, false, false, false, false, false, false, false] (by kernel_rfl) rfl rfl ⟨(blk_cell BK181.out 0).trans rfl, (blk_cell BK181.out 1).trans rfl, (blk_cell BK181.out 2).trans rfl, (blk_cell BK181.out 3).trans rfl, (blk_cell BK182.out 0).trans rfl, (blk_cell BK182.out 1).trans rfl, (blk_cell BK182.out 2).trans rfl, (blk_cell BK182.out 3).trans rfl, ((HB.out.cell (blc w _ hw187_0)).trans hw187_0), ((HB.out.cell (blc w _ hw188_0)).trans hw188_0)⟩ (fun hHeld => ?_); refine with_tabW provisoplain_SameModule.tab12 provisoplain_SameModule.bits12 (fun HT_ HW_ => ?_)
                            generalize wr.drew = w50 at BK181 BK182 HB HR187_0 HR188_0 hx187_0 hx188_0 hHeld ⊢
                            refine pure_ (i := 0) (N := some 63) (v := ?_) (a' := ?_) #[true, false, false, false, false, false, false, false, false, false, false, false] rfl rfl (any_of HT_.out (by kernel_rfl)) (fun _ _ _ h => h) (Or.inl ⟨by rfl, ?_⟩) ?_ ?_
                            rotate_left
                            · intro w'
                              go_simp
                              with_reducible rfl
                            rotate_left
                            · simp only [Act.put, sia, scz, scs, i64_w, i32_w]
                              rfl
                            refine pure_ (i := 2) (N := some 65) (v := ?_) (a' := ?_) #[true, false, true, false, false, false, false, false, false, false, false, false] rfl rfl (any_of HT_.out (by kernel_rfl)) (fun _ _ _ h => h) (Or.inl ⟨by rfl, ?_⟩) ?_ ?_
                            rotate_left
                            · intro w'
                              go_simp
                              with_reducible rfl
                            rotate_left
                            · simp only [Act.put, sia, scz, scs, i64_w, i32_w]
                              rfl
                            refine pure_ (i := 5) (N := some 68) (v := ?_) (a' := ?_) #[true, false, true, false, false, true, false, false, false, false, false, false] rfl rfl (any_of HT_.out (by kernel_rfl)) (fun _ _ _ h => h) (Or.inl ⟨by rfl, ?_⟩) ?_ ?_
                            rotate_left
                            · intro w'
                              go_simp
                              with_reducible rfl
                            rotate_left
                            · simp only [Act.put, sia, scz, scs, i64_w, i32_w]
                              rfl
                            refine pure_ (i := 7) (N := some 70) (v := ?_) (a' := ?_) #[true, false, true, false, false, true, false, true, false, false, false, false] rfl rfl (any_of HT_.out (by kernel_rfl)) (fun _ _ _ h => h) (Or.inl ⟨by rfl, ?_⟩) ?_ ?_
                            rotate_left
                            · intro w'
                              go_simp
                              with_reducible rfl
                            rotate_left
                            · simp only [Act.put, sia, scz, scs, i64_w, i32_w]
                              rfl
                            refine take_ (i := 1) (N := some 64) (v := ?_) (a' := ?_) #[true, true, true, false, false, true, false, true, false, false, false, false] rfl rfl (take_ofW HT_.out HW_.out (by kernel_rfl)) (fun _ _ _ h => h) (Or.inl ⟨by rfl, ?_⟩) hHeld ?_ ?_
                            rotate_left
                            · rintro w' ⟨s0, s1, s2, s3, s4, s5, s6, s7, s8, s9⟩
                              go_simp
                              with_reducible rfl
                            rotate_left
                            · simp only [Act.put, sia, scz, scs, i64_w, i32_w]
                              rfl
                            refine pure_ (i := 3) (N := some 66) (v := ?_) (a' := ?_) #[true, true, true, true, false, true, false, true, false, false, false, false] rfl rfl (any_of HT_.out (by kernel_rfl)) (fun _ _ _ h => h) (Or.inl ⟨by rfl, ?_⟩) ?_ ?_
                            rotate_left
                            · intro w'
                              go_simp
                              with_reducible rfl
                            rotate_left
                            · simp only [Act.put, sia, scz, scs, i64_w, i32_w]
                              rfl
                            refine take_ (i := 4) (N := some 67) (v := ?_) (a' := ?_) #[true, true, true, true, true, true, false, true, false, false, false, false] rfl rfl (take_ofW HT_.out HW_.out (by kernel_rfl)) (fun _ _ _ h => h) (Or.inl ⟨by rfl, ?_⟩) hHeld ?_ ?_
                            rotate_left
                            · rintro w' ⟨s0, s1, s2, s3, s4, s5, s6, s7, s8, s9⟩
                              go_simp
                              with_reducible rfl
                            rotate_left
                            · simp only [Act.put, sia, scz, scs, i64_w, i32_w]
                              rfl
                            refine take_ (i := 6) (N := some 69) (v := ?_) (a' := ?_) #[true, true, true, true, true, true, true, true, false, false, false, false] rfl rfl (take_ofW HT_.out HW_.out (by kernel_rfl)) (fun _ _ _ h => h) (Or.inl ⟨by rfl, ?_⟩) hHeld ?_ ?_
                            rotate_left
                            · rintro w' ⟨s0, s1, s2, s3, s4, s5, s6, s7, s8, s9⟩
                              go_simp
                              with_reducible rfl
                            rotate_left
                            · simp only [Act.put, sia, scz, scs, i64_w, i32_w]
                              rfl
                            refine pure_ (i := 8) (N := some 71) (v := ?_) (a' := ?_) #[true, true, true, true, true, true, true, true, true, false, false, false] rfl rfl (any_of HT_.out (by kernel_rfl)) (fun _ _ _ h => h) (Or.inl ⟨by rfl, ?_⟩) ?_ ?_
                            rotate_left
                            · intro w'
                              go_simp
                              with_reducible rfl
                            rotate_left
                            · simp only [Act.put, sia, scz, scs, i64_w, i32_w]
                              rfl
                            refine take_ (i := 9) (N := some 72) (v := ?_) (a' := ?_) #[true, true, true, true, true, true, true, true, true, true, false, false] rfl rfl (take_ofW HT_.out HW_.out (by kernel_rfl)) (fun _ _ _ h => h) (Or.inl ⟨by rfl, ?_⟩) hHeld ?_ ?_
                            rotate_left
                            · rintro w' ⟨s0, s1, s2, s3, s4, s5, s6, s7, s8, s9⟩
                              go_simp
                              with_reducible rfl
                            rotate_left
                            · simp only [Act.put, sia, scz, scs, i64_w, i32_w]
                              rfl
                            refine one_ (i := 10) (N := some 73) #[true, true, true, true, true, true, true, true, true, true, true, false] rfl rfl (one_of HT_.out (by kernel_rfl)) (by decide) (fun K hK => ?_)
                            refine goes_ Try.func19 (by kernel_rfl) rfl #[.slice A187_0 (rd_L8 l0_3 x60_3).length c187_0, .slice A188_0 (rd_L8 l1_3 x60_3).length c188_0] (by rfl) rfl rfl (by (try simp only [List.map_toArray, List.map_cons, List.map_nil]); first | done | rfl | (simp only [List.length_drop, List.length_take]; rfl)) ?_
                            with_reducible refine (slices_Equal_byte_byte.calls k3 _ _ (rd_L8 l0_3 x60_3) _ _ (rd_L8 l1_3 x60_3) true _ ?side1 ?side2 ?side3 ?side4 A48.out).mono ?_
                            (case side1 => repeat (first | exact (Kd.C_below HR187_0.out HB.out) | (with_reducible refine Kd.C_alloc ?_ _) | (with_reducible refine Kd.C_drewN ?_ _) | (with_reducible refine Kd.C_drew ?_)))
                            (case side2 => exact HC187_0.out)
                            (case side3 => repeat (first | exact (Kd.C_below HR188_0.out HB.out) | (with_reducible refine Kd.C_alloc ?_ _) | (with_reducible refine Kd.C_drewN ?_ _) | (with_reducible refine Kd.C_drew ?_)))
                            (case side4 => exact HC188_0.out)
                            rintro e w' ⟨rfl, ⟨nd, rfl⟩⟩
                            refine ⟨_, rfl, ?_⟩
                            refine hK.out _ _ ⟨(blk_cell BK181.out 0).trans rfl, (blk_cell BK181.out 1).trans rfl, (blk_cell BK181.out 2).trans rfl, (blk_cell BK181.out 3).trans rfl, (blk_cell BK182.out 0).trans rfl, (blk_cell BK182.out 1).trans rfl, (blk_cell BK182.out 2).trans rfl, (blk_cell BK182.out 3).trans rfl, ((HB.out.cell (blc w _ hw187_0)).trans hw187_0), ((HB.out.cell (blc w _ hw188_0)).trans hw188_0)⟩ (fun hHeld => ?_)
                            clear hK K
                            refine norm_ (a' := ?_) ?_ ?_
                            rotate_left
                            · show Act.put _ (some 73) _ = _
                              simp only [Act.put, sia, scz, scs, i64_w, i32_w]
                              rfl
                            refine pure_ (i := 11) (N := some 74) (v := ?_) (a' := ?_) #[true, true, true, true, true, true, true, true, true, true, true, true] rfl rfl (any_of HT_.out (by kernel_rfl)) (fun _ _ _ h => h) (Or.inl ⟨by rfl, ?_⟩) ?_ ?_
                            rotate_left
                            · intro w'
                              go_simp
                              with_reducible rfl
                            rotate_left
                            · simp only [Act.put, sia, scz, scs, i64_w, i32_w]
                              rfl
                            refine done_ (done_of HT_.out (by kernel_rfl)) ?_
                            try go_wp2
                            go_roundg k3
                            case measure => have := HJ2.out; have := HK2.out; have := HK3.out; omega
                            case rel => exact ⟨(wrap64 (x60_3 + 1)), (by first | rfl | (simp; done) | (simp [*]; done)), H', ⟨by have := HJ2.out; have := HK2.out; have := HK3.out; omega⟩, ⟨by (with_reducible repeat (first | refine bkd ?_ _ | refine blk_drew ?_ | refine bka ?_ _)); exact BK181.out⟩, ⟨by (with_reducible repeat (first | refine bkd ?_ _ | refine blk_drew ?_ | refine bka ?_ _)); exact BK182.out⟩, ⟨by repeat (first | (with_reducible first | exact HB.out | apply bal | apply pbd | apply bdr | refine below_set ?_ GE181.out | refine below_set ?_ GE182.out) | exact HB.out)⟩⟩
                          · replace c49 := Bool.eq_false_iff.mpr c49
                            subst c49
                            have H1 : (some false) = some r := by rw [if_neg (show ¬ (false = true) by decide)] at H; exact H
                            clear H
                            have H := H1
                            clear H1
                            obtain rfl := Option.some.inj H
                            try go_wp2
                            have n0_ := amk (blk_drew BK181.out)
                            have n1_ := amk (blk_drew BK182.out)
                            have n2_ := amk (bdr HB.out)
                            clear BK181
                            clear BK182
                            clear HB
                            have BK181 := n0_
                            have BK182 := n1_
                            have HB := n2_
                            clear n0_ n1_ n2_
                            have p187 : 0 ≤ (x60_3 : Int) := of_decide_eq_true (by first | (with_reducible assumption) | assumption)
                            have q187 : x60_3 < (l0_3.length : Int) := of_decide_eq_true (by first | (with_reducible assumption) | assumption)
                            obtain ⟨ad187, A187_0, c187_0, e187, hx187_0, hl187_0, hi187_0⟩ := at_L8 HR0_3.out x60_3 p187 q187
                            have hw187_0 := hx187_0
                            cases e187
                            replace hx187_0 := (HB.out.cell (blc w _ hx187_0)).trans hx187_0
                            have HR187_0 := amk hi187_0
                            have HC187_0 := amk hl187_0
                            clear hi187_0 hl187_0
                            replace p187 := eq_true p187
                            replace q187 := eq_true q187
                            have p188 : 0 ≤ (x60_3 : Int) := of_decide_eq_true (by first | (with_reducible assumption) | assumption)
                            have q188 : x60_3 < (l1_3.length : Int) := of_decide_eq_true (by first | (with_reducible assumption) | assumption)
                            obtain ⟨ad188, A188_0, c188_0, e188, hx188_0, hl188_0, hi188_0⟩ := at_L8 HR1_3.out x60_3 p188 q188
                            have hw188_0 := hx188_0
                            cases e188
                            replace hx188_0 := (HB.out.cell (blc w _ hx188_0)).trans hx188_0
                            have HR188_0 := amk hi188_0
                            have HC188_0 := amk hl188_0
                            clear hi188_0 hl188_0
                            replace p188 := eq_true p188
                            replace q188 := eq_true q188
                            refine start_ (n := 12) (S := fun w' => w'.cell? ⟨gb181, 0, none⟩ = some (.string a0_0) ∧ w'.cell? ⟨gb181, 1, none⟩ = some (.slice A0_1 l0_1.length c0_1) ∧ w'.cell? ⟨gb181, 2, none⟩ = some (.slice A0_2 l0_2.length c0_2) ∧ w'.cell? ⟨gb181, 3, none⟩ = some (.slice (some ad187) l0_3.length c0_3) ∧ w'.cell? ⟨gb182, 0, none⟩ = some (.string a1_0) ∧ w'.cell? ⟨gb182, 1, none⟩ = some (.slice A1_1 l1_1.length c1_1) ∧ w'.cell? ⟨gb182, 2, none⟩ = some (.slice A1_2 l1_2.length c1_2) ∧ w'.cell? ⟨gb182, 3, none⟩ = some (.slice (some ad188) l1_3.length c1_3) ∧ w'.cell? (ad187.add (x60_3).toNat) = some (.slice A187_0 (rd_L8 l0_3 x60_3).length c187_0) ∧ w'.cell? (ad188.add (x60_3).toNat) = some (.slice A188_0 (rd_L8 l1_3 x60_3).length c188_0)) (ds := []) #[false, false, false, false, false, false, false, false, false, false, false, false] (by kernel_rfl) rfl rfl ⟨(blk_cell BK181.out 0).trans rfl, (blk_cell BK181.out 1).trans rfl, (blk_cell BK181.out 2).trans rfl, (blk_cell BK181.out 3).trans rfl, (blk_cell BK182.out 0).trans rfl, (blk_cell BK182.out 1).trans rfl, (blk_cell BK182.out 2).trans rfl, (blk_cell BK182.out 3).trans rfl, ((HB.out.cell (blc w _ hw187_0)).trans hw187_0), ((HB.out.cell (blc w _ hw188_0)).trans hw188_0)⟩ (fun hHeld => ?_); refine with_tabW provisoplain_SameModule.tab12 provisoplain_SameModule.bits12 (fun HT_ HW_ => ?_)
                            generalize wr.drew = w51 at BK181 BK182 HB HR187_0 HR188_0 hx187_0 hx188_0 hHeld ⊢
                            refine pure_ (i := 0) (N := some 63) (v := ?_) (a' := ?_) #[true, false, false, false, false, false, false, false, false, false, false, false] rfl rfl (any_of HT_.out (by kernel_rfl)) (fun _ _ _ h => h) (Or.inl ⟨by rfl, ?_⟩) ?_ ?_
                            rotate_left
                            · intro w'
                              go_simp
                              with_reducible rfl
                            rotate_left
                            · simp only [Act.put, sia, scz, scs, i64_w, i32_w]
                              rfl
                            refine pure_ (i := 2) (N := some 65) (v := ?_) (a' := ?_) #[true, false, true, false, false, false, false, false, false, false, false, false] rfl rfl (any_of HT_.out (by kernel_rfl)) (fun _ _ _ h => h) (Or.inl ⟨by rfl, ?_⟩) ?_ ?_
                            rotate_left
                            · intro w'
                              go_simp
                              with_reducible rfl
                            rotate_left
                            · simp only [Act.put, sia, scz, scs, i64_w, i32_w]
                              rfl
                            refine pure_ (i := 5) (N := some 68) (v := ?_) (a' := ?_) #[true, false, true, false, false, true, false, false, false, false, false, false] rfl rfl (any_of HT_.out (by kernel_rfl)) (fun _ _ _ h => h) (Or.inl ⟨by rfl, ?_⟩) ?_ ?_
                            rotate_left
                            · intro w'
                              go_simp
                              with_reducible rfl
                            rotate_left
                            · simp only [Act.put, sia, scz, scs, i64_w, i32_w]
                              rfl
                            refine pure_ (i := 7) (N := some 70) (v := ?_) (a' := ?_) #[true, false, true, false, false, true, false, true, false, false, false, false] rfl rfl (any_of HT_.out (by kernel_rfl)) (fun _ _ _ h => h) (Or.inl ⟨by rfl, ?_⟩) ?_ ?_
                            rotate_left
                            · intro w'
                              go_simp
                              with_reducible rfl
                            rotate_left
                            · simp only [Act.put, sia, scz, scs, i64_w, i32_w]
                              rfl
                            refine take_ (i := 1) (N := some 64) (v := ?_) (a' := ?_) #[true, true, true, false, false, true, false, true, false, false, false, false] rfl rfl (take_ofW HT_.out HW_.out (by kernel_rfl)) (fun _ _ _ h => h) (Or.inl ⟨by rfl, ?_⟩) hHeld ?_ ?_
                            rotate_left
                            · rintro w' ⟨s0, s1, s2, s3, s4, s5, s6, s7, s8, s9⟩
                              go_simp
                              with_reducible rfl
                            rotate_left
                            · simp only [Act.put, sia, scz, scs, i64_w, i32_w]
                              rfl
                            refine pure_ (i := 3) (N := some 66) (v := ?_) (a' := ?_) #[true, true, true, true, false, true, false, true, false, false, false, false] rfl rfl (any_of HT_.out (by kernel_rfl)) (fun _ _ _ h => h) (Or.inl ⟨by rfl, ?_⟩) ?_ ?_
                            rotate_left
                            · intro w'
                              go_simp
                              with_reducible rfl
                            rotate_left
                            · simp only [Act.put, sia, scz, scs, i64_w, i32_w]
                              rfl
                            refine take_ (i := 4) (N := some 67) (v := ?_) (a' := ?_) #[true, true, true, true, true, true, false, true, false, false, false, false] rfl rfl (take_ofW HT_.out HW_.out (by kernel_rfl)) (fun _ _ _ h => h) (Or.inl ⟨by rfl, ?_⟩) hHeld ?_ ?_
                            rotate_left
                            · rintro w' ⟨s0, s1, s2, s3, s4, s5, s6, s7, s8, s9⟩
                              go_simp
                              with_reducible rfl
                            rotate_left
                            · simp only [Act.put, sia, scz, scs, i64_w, i32_w]
                              rfl
                            refine take_ (i := 6) (N := some 69) (v := ?_) (a' := ?_) #[true, true, true, true, true, true, true, true, false, false, false, false] rfl rfl (take_ofW HT_.out HW_.out (by kernel_rfl)) (fun _ _ _ h => h) (Or.inl ⟨by rfl, ?_⟩) hHeld ?_ ?_
                            rotate_left
                            · rintro w' ⟨s0, s1, s2, s3, s4, s5, s6, s7, s8, s9⟩
                              go_simp
                              with_reducible rfl
                            rotate_left
                            · simp only [Act.put, sia, scz, scs, i64_w, i32_w]
                              rfl
                            refine pure_ (i := 8) (N := some 71) (v := ?_) (a' := ?_) #[true, true, true, true, true, true, true, true, true, false, false, false] rfl rfl (any_of HT_.out (by kernel_rfl)) (fun _ _ _ h => h) (Or.inl ⟨by rfl, ?_⟩) ?_ ?_
                            rotate_left
                            · intro w'
                              go_simp
                              with_reducible rfl
                            rotate_left
                            · simp only [Act.put, sia, scz, scs, i64_w, i32_w]
                              rfl
                            refine take_ (i := 9) (N := some 72) (v := ?_) (a' := ?_) #[true, true, true, true, true, true, true, true, true, true, false, false] rfl rfl (take_ofW HT_.out HW_.out (by kernel_rfl)) (fun _ _ _ h => h) (Or.inl ⟨by rfl, ?_⟩) hHeld ?_ ?_
                            rotate_left
                            · rintro w' ⟨s0, s1, s2, s3, s4, s5, s6, s7, s8, s9⟩
                              go_simp
                              with_reducible rfl
                            rotate_left
                            · simp only [Act.put, sia, scz, scs, i64_w, i32_w]
                              rfl
                            refine one_ (i := 10) (N := some 73) #[true, true, true, true, true, true, true, true, true, true, true, false] rfl rfl (one_of HT_.out (by kernel_rfl)) (by decide) (fun K hK => ?_)
                            refine goes_ Try.func19 (by kernel_rfl) rfl #[.slice A187_0 (rd_L8 l0_3 x60_3).length c187_0, .slice A188_0 (rd_L8 l1_3 x60_3).length c188_0] (by rfl) rfl rfl (by (try simp only [List.map_toArray, List.map_cons, List.map_nil]); first | done | rfl | (simp only [List.length_drop, List.length_take]; rfl)) ?_
                            with_reducible refine (slices_Equal_byte_byte.calls k3 _ _ (rd_L8 l0_3 x60_3) _ _ (rd_L8 l1_3 x60_3) false _ ?side1 ?side2 ?side3 ?side4 A48.out).mono ?_
                            (case side1 => repeat (first | exact (Kd.C_below HR187_0.out HB.out) | (with_reducible refine Kd.C_alloc ?_ _) | (with_reducible refine Kd.C_drewN ?_ _) | (with_reducible refine Kd.C_drew ?_)))
                            (case side2 => exact HC187_0.out)
                            (case side3 => repeat (first | exact (Kd.C_below HR188_0.out HB.out) | (with_reducible refine Kd.C_alloc ?_ _) | (with_reducible refine Kd.C_drewN ?_ _) | (with_reducible refine Kd.C_drew ?_)))
                            (case side4 => exact HC188_0.out)
                            rintro e w' ⟨rfl, ⟨nd, rfl⟩⟩
                            refine ⟨_, rfl, ?_⟩
                            refine hK.out _ _ ⟨(blk_cell BK181.out 0).trans rfl, (blk_cell BK181.out 1).trans rfl, (blk_cell BK181.out 2).trans rfl, (blk_cell BK181.out 3).trans rfl, (blk_cell BK182.out 0).trans rfl, (blk_cell BK182.out 1).trans rfl, (blk_cell BK182.out 2).trans rfl, (blk_cell BK182.out 3).trans rfl, ((HB.out.cell (blc w _ hw187_0)).trans hw187_0), ((HB.out.cell (blc w _ hw188_0)).trans hw188_0)⟩ (fun hHeld => ?_)
                            clear hK K
                            refine norm_ (a' := ?_) ?_ ?_
                            rotate_left
                            · show Act.put _ (some 73) _ = _
                              simp only [Act.put, sia, scz, scs, i64_w, i32_w]
                              rfl
                            refine pure_ (i := 11) (N := some 74) (v := ?_) (a' := ?_) #[true, true, true, true, true, true, true, true, true, true, true, true] rfl rfl (any_of HT_.out (by kernel_rfl)) (fun _ _ _ h => h) (Or.inl ⟨by rfl, ?_⟩) ?_ ?_
                            rotate_left
                            · intro w'
                              go_simp
                              with_reducible rfl
                            rotate_left
                            · simp only [Act.put, sia, scz, scs, i64_w, i32_w]
                              rfl
                            refine done_ (done_of HT_.out (by kernel_rfl)) ?_
                            try go_wp2
                            go_ret
                            exact ⟨by first | rfl | (simp [errW_none, errW_some] <;> rfl) | (simp [*, errW_none, errW_some] <;> rfl), by repeat (first | (with_reducible first | exact HB.out | apply bal | apply pbd | apply bdr | refine below_set ?_ GE181.out | refine below_set ?_ GE182.out) | exact HB.out)⟩
                        · rw [if_neg c47] at H
                          exact absurd H (by simp)
                      · rw [if_neg c46] at H
                        exact absurd H (by simp)
                    · rw [if_neg c45] at H
                      exact absurd H (by simp)
                  · rw [if_neg c44] at H
                    have c44b0 : decide (x60_3 < (l0_3.length : Int)) = false := decide_eq_false c44
                    clear c44
                    obtain rfl := Option.some.inj H
                    go_wp2
                    go_ret
                    exact ⟨by first | rfl | (simp [errW_none, errW_some] <;> rfl) | (simp [*, errW_none, errW_some] <;> rfl), by repeat (first | (with_reducible first | exact HB.out | apply bal | apply pbd | apply bdr | refine below_set ?_ GE181.out | refine below_set ?_ GE182.out) | exact HB.out)⟩

end Go.Proofs.Ytdlmcjchnoeebaa.P

end

section
namespace Go.Proofs.Ytdlmcjchnoeebaa.P
open Go.RowKit Go.Proofs.YtdlmcjchnoeebaaW.PrintWords Go.Proofs.YtdlmcjchnoeebaaW.PrintLast Go.Proofs.YtdlmcjchnoeebaaW.PrintMore
attribute [local go_sem] max2_int min2_int max_two min_two max_three min_three max_four min_four   -- for this text's walks alone
set_option linter.unusedVariables false
set_option linter.unusedSimpArgs false

mutual
def wire_IsName.j0 : Nat → ByteArray → Bool → Option (Bool)
  | 0, _, _ => none
  | k + 1, x0, x12 => if x12 = true then (some false) else (wire_IsName.l0 k x0 (x0.size : Int) 0)
def wire_IsName.l0 : Nat → ByteArray → Int → Int → Option (Bool)
  | 0, _, _, _ => none
  | k + 1, x0, x14, x15 => if x15 < x14 then (if 0 ≤ x15 then (if x15 < (x0.size : Int) then (if (bt x0 x15) ≥ 97 then (wire_IsName.j2 k x0 x15 (bt x0 x15) x14 x15 (decide ((bt x0 x15) ≤ 122))) else (wire_IsName.j2 k x0 x15 (bt x0 x15) x14 x15 false)) else (none)) else (none)) else (some true)
def wire_IsName.j2 : Nat → ByteArray → Int → Int → Int → Int → Bool → Option (Bool)
  | 0, _, _, _, _, _, _ => none
  | k + 1, x0, x3, x4, x14, x15, x21 => if x21 = true then (wire_IsName.j3 k x0 x3 x4 x14 x15 x21) else (if x4 ≥ 65 then (wire_IsName.j3 k x0 x3 x4 x14 x15 (decide (x4 ≤ 90))) else (wire_IsName.j3 k x0 x3 x4 x14 x15 false))
def wire_IsName.j3 : Nat → ByteArray → Int → Int → Int → Int → Bool → Option (Bool)
  | 0, _, _, _, _, _, _ => none
  | k + 1, x0, x3, x4, x14, x15, x21 => if x21 = true then (wire_IsName.l0 k x0 x14 (wrap64 (x15 + 1))) else (if x3 > 0 then (if x4 ≥ 48 then (if x4 ≤ 57 then (wire_IsName.l0 k x0 x14 (wrap64 (x15 + 1))) else (if x4 = 95 then (wire_IsName.l0 k x0 x14 (wrap64 (x15 + 1))) else (some false))) else (if x4 = 95 then (wire_IsName.l0 k x0 x14 (wrap64 (x15 + 1))) else (some false))) else (some false))
end
def wire_IsName.f (k : Nat) (a0 : ByteArray) : Option (Bool) := if (a0.size : Int) = 0 then (wire_IsName.j0 k a0 true) else (wire_IsName.j0 k a0 (decide ((a0.size : Int) > 24)))
theorem wire_IsName.mono_l : ∀ k, (∀ y0 y1, LeO (wire_IsName.j0 k y0 y1) (wire_IsName.j0 (k + 1) y0 y1)) ∧ (∀ y0 y1 y2, LeO (wire_IsName.l0 k y0 y1 y2) (wire_IsName.l0 (k + 1) y0 y1 y2)) ∧ (∀ y0 y1 y2 y3 y4 y5, LeO (wire_IsName.j2 k y0 y1 y2 y3 y4 y5) (wire_IsName.j2 (k + 1) y0 y1 y2 y3 y4 y5)) ∧ (∀ y0 y1 y2 y3 y4 y5, LeO (wire_IsName.j3 k y0 y1 y2 y3 y4 y5) (wire_IsName.j3 (k + 1) y0 y1 y2 y3 y4 y5))
  | 0 => ⟨fun _ _ r h => by simp [wire_IsName.j0] at h, fun _ _ _ r h => by simp [wire_IsName.l0] at h, fun _ _ _ _ _ _ r h => by simp [wire_IsName.j2] at h, fun _ _ _ _ _ _ r h => by simp [wire_IsName.j3] at h⟩
  | k + 1 => by
    obtain ⟨ih0, ih1, ih2, ih3⟩ := wire_IsName.mono_l k
    refine ⟨?_, ?_, ?_, ?_⟩
    · intro y0 y1
      unfold wire_IsName.j0
      repeat' first
      | (with_reducible exact ih0 _ _)
      | (with_reducible exact ih1 _ _ _)
      | (with_reducible exact ih2 _ _ _ _ _ _)
      | (with_reducible exact ih3 _ _ _ _ _ _)
      | (with_reducible exact LeO.refl _)
      | (with_reducible exact LeO.none _)
      | (with_reducible refine LeO.ite ?_ ?_)
      | (with_reducible refine LeO.bind ?_ (fun _ => ?_))
      | exact ih0 _ _
      | exact ih1 _ _ _
      | exact ih2 _ _ _ _ _ _
      | exact ih3 _ _ _ _ _ _
      | exact LeO.none _
      | refine LeO.ite ?_ ?_
      | refine LeO.bind ?_ (fun _ => ?_)
    · intro y0 y1 y2
      unfold wire_IsName.l0
      repeat' first
      | (with_reducible exact ih0 _ _)
      | (with_reducible exact ih1 _ _ _)
      | (with_reducible exact ih2 _ _ _ _ _ _)
      | (with_reducible exact ih3 _ _ _ _ _ _)
      | (with_reducible exact LeO.refl _)
      | (with_reducible exact LeO.none _)
      | (with_reducible refine LeO.ite ?_ ?_)
      | (with_reducible refine LeO.bind ?_ (fun _ => ?_))
      | exact ih0 _ _
      | exact ih1 _ _ _
      | exact ih2 _ _ _ _ _ _
      | exact ih3 _ _ _ _ _ _
      | exact LeO.none _
      | refine LeO.ite ?_ ?_
      | refine LeO.bind ?_ (fun _ => ?_)
    · intro y0 y1 y2 y3 y4 y5
      unfold wire_IsName.j2
      repeat' first
      | (with_reducible exact ih0 _ _)
      | (with_reducible exact ih1 _ _ _)
      | (with_reducible exact ih2 _ _ _ _ _ _)
      | (with_reducible exact ih3 _ _ _ _ _ _)
      | (with_reducible exact LeO.refl _)
      | (with_reducible exact LeO.none _)
      | (with_reducible refine LeO.ite ?_ ?_)
      | (with_reducible refine LeO.bind ?_ (fun _ => ?_))
      | exact ih0 _ _
      | exact ih1 _ _ _
      | exact ih2 _ _ _ _ _ _
      | exact ih3 _ _ _ _ _ _
      | exact LeO.none _
      | refine LeO.ite ?_ ?_
      | refine LeO.bind ?_ (fun _ => ?_)
    · intro y0 y1 y2 y3 y4 y5
      unfold wire_IsName.j3
      repeat' first
      | (with_reducible exact ih0 _ _)
      | (with_reducible exact ih1 _ _ _)
      | (with_reducible exact ih2 _ _ _ _ _ _)
      | (with_reducible exact ih3 _ _ _ _ _ _)
      | (with_reducible exact LeO.refl _)
      | (with_reducible exact LeO.none _)
      | (with_reducible refine LeO.ite ?_ ?_)
      | (with_reducible refine LeO.bind ?_ (fun _ => ?_))
      | exact ih0 _ _
      | exact ih1 _ _ _
      | exact ih2 _ _ _ _ _ _
      | exact ih3 _ _ _ _ _ _
      | exact LeO.none _
      | refine LeO.ite ?_ ?_
      | refine LeO.bind ?_ (fun _ => ?_)
theorem wire_IsName.mono : ∀ a0 k, LeO (wire_IsName.f k a0) (wire_IsName.f (k + 1) a0) := by
  intro a0 k
  obtain ⟨ih0, ih1, ih2, ih3⟩ := wire_IsName.mono_l k
  unfold wire_IsName.f
  repeat' first
      | (with_reducible exact ih0 _ _)
      | (with_reducible exact ih1 _ _ _)
      | (with_reducible exact ih2 _ _ _ _ _ _)
      | (with_reducible exact ih3 _ _ _ _ _ _)
      | (with_reducible exact LeO.refl _)
      | (with_reducible exact LeO.none _)
      | (with_reducible refine LeO.ite ?_ ?_)
      | (with_reducible refine LeO.bind ?_ (fun _ => ?_))
      | exact ih0 _ _
      | exact ih1 _ _ _
      | exact ih2 _ _ _ _ _ _
      | exact ih3 _ _ _ _ _ _
      | exact LeO.none _
      | refine LeO.ite ?_ ?_
      | refine LeO.bind ?_ (fun _ => ?_)
set_option maxHeartbeats 8000000 in
set_option maxRecDepth 100000 in
theorem wire_IsName.calls (k : Nat) (a0 : ByteArray) (r : Bool) (w : World) (h : wire_IsName.f k a0 = some r) :
    Calls Try.prog 37 #[.string a0] w fun e w' => e = .returned (.bool r) ∧ Drawn0 w w' := by
  have H : (if (a0.size : Int) = 0 then (wire_IsName.j0 k a0 true) else (wire_IsName.j0 k a0 (decide ((a0.size : Int) > 24)))) = some r := h
  clear h
  have HC2 := amk H
  clear H
  go_enter Try.func37, Try.ntmps37
  go_upto_region 1 with (fail)
  go_cut [12] (fun v12 wc => ∃ (kq : Nat) (x12_1 : Bool), v12 = .bool x12_1 ∧ Aside0 (wire_IsName.j0 kq a0 x12_1 = some r) ∧ Aside0 (kq ≤ k) ∧ Drawn0 w wc)
  case first =>
    have H := HC2.out
    clear HC2
    by_cases c3 : (a0.size : Int) = 0
    · rw [if_pos c3] at H
      have c3b0 : ((a0.size : Int) == 0) = true := beq_iff_eq.mpr c3
      have c3b1 : ((a0.size : Int) != 0) = false := bne_eq_false_iff_eq.mpr c3
      clear c3
      (first | rw [c3b0] | (simp only [i64_w, i32_w]; rw [c3b0]) | skip)
      have H' := amk H
      clear H
      go_wp2
      go_meet
      case rel => exact ⟨_, (true), (by first | rfl | (simp; done) | (simp [*]; done)), H', ⟨by first | omega | exact Nat.le_refl _⟩, by repeat (first | exact Drawn0.refl _ | apply Drawn0.step)⟩
    · rw [if_neg c3] at H
      have c3b0 : ((a0.size : Int) == 0) = false := beq_eq_false_iff_ne.mpr c3
      have c3b1 : ((a0.size : Int) != 0) = true := bne_iff_ne.mpr c3
      (first | rw [c3b0] | (simp only [i64_w, i32_w]; rw [c3b0]) | skip)
      have H' := amk H
      clear H
      go_wp2
      go_meet
      case rel => exact ⟨_, (decide ((a0.size : Int) > 24)), (by first | rfl | (simp; done) | (simp [*]; done)), H', ⟨by first | omega | exact Nat.le_refl _⟩, by repeat (first | exact Drawn0.refl _ | apply Drawn0.step)⟩
  case rest =>
    clear HC2
    try clear p2
    try clear c3
    try clear c3b0
    try clear c3b1
    obtain ⟨kq, x12_1, rfl, HA, HJ1, ⟨mc1, rfl⟩⟩ := hcut
    cases kq with
    | zero => exact absurd HA.out (by simp [wire_IsName.j0])
    | succ kj1 =>
      have H := HA.out
      clear HA
      simp only [wire_IsName.j0] at H
      by_cases c4 : x12_1 = true
      · subst c4
        have H1 : (some false) = some r := by rw [if_pos rfl] at H; exact H
        clear H
        have H := H1
        clear H1
        obtain rfl := Option.some.inj H
        go_wp2
        go_ret
        exact ⟨by first | rfl | (simp; done) | (simp [*]; done), by repeat (first | exact Drawn0.refl _ | apply Drawn0.step)⟩
      · replace c4 := Bool.eq_false_iff.mpr c4
        subst c4
        have H1 : (wire_IsName.l0 kj1 a0 (a0.size : Int) 0) = some r := by rw [if_neg (show ¬ (false = true) by decide)] at H; exact H
        clear H
        have H := H1
        clear H1
        have H' := amk H
        clear H
        go_wp2
        go_loopg [15] kj1 (fun kq v15 w' => ∃ (x15_2 : Int), v15 = .int .i64 x15_2 ∧ Aside0 (wire_IsName.l0 kq a0 (a0.size : Int) x15_2 = some r) ∧ Aside0 (kq ≤ kj1) ∧ Drawn0 w w')
        case atStart => exact ⟨(0), (by first | rfl | (simp; done) | (simp [*]; done)), H', ⟨Nat.le_refl _⟩, by repeat (first | exact Drawn0.refl _ | apply Drawn0.step)⟩
        case round =>
          clear H'
          try clear c1
          try clear p2
          try clear c3
          try clear c3b0
          try clear c3b1
          try clear c4
          try clear p2
          obtain ⟨x15_2, rfl, HA, HK2, ⟨m2, rfl⟩⟩ := hrel
          cases gk with
          | zero => exact absurd HA.out (by simp [wire_IsName.l0])
          | succ k2 =>
            have H := HA.out
            clear HA
            simp only [wire_IsName.l0] at H
            by_cases c5 : x15_2 < (a0.size : Int)
            · rw [if_pos c5] at H
              have c5b0 : decide (x15_2 < (a0.size : Int)) = true := decide_eq_true c5
              clear c5
              by_cases c6 : 0 ≤ x15_2
              · rw [if_pos c6] at H
                have c6b0 : decide (0 ≤ x15_2) = true := decide_eq_true c6
                clear c6
                by_cases c7 : x15_2 < (a0.size : Int)
                · rw [if_pos c7] at H
                  have c7b0 : decide (x15_2 < (a0.size : Int)) = true := decide_eq_true c7
                  clear c7
                  have HC9 := amk H
                  clear H
                  have p8 : 0 ≤ (x15_2 : Int) := of_decide_eq_true (by first | (with_reducible assumption) | assumption)
                  have q8 : x15_2 < (a0.size : Int) := of_decide_eq_true (by first | (with_reducible assumption) | assumption)
                  have hx8 := bt_at a0 x15_2
                  replace p8 := eq_true p8
                  replace q8 := eq_true q8
                  go_upto_region 8 with (fail)
                  go_cut [21] (fun v21 wc => ∃ (kq : Nat) (x21_8 : Bool), v21 = .bool x21_8 ∧ Aside0 (wire_IsName.j2 kq a0 x15_2 (bt a0 x15_2) (a0.size : Int) x15_2 x21_8 = some r) ∧ Aside0 (kq ≤ k2) ∧ Drawn0 w wc)
                  case first =>
                    have H := HC9.out
                    clear HC9
                    by_cases c10 : (bt a0 x15_2) ≥ 97
                    · rw [if_pos c10] at H
                      have c10b0 : decide (97 ≤ (bt a0 x15_2)) = true := decide_eq_true c10
                      clear c10
                      (first | rw [c10b0] | (simp only [i64_w, i32_w]; rw [c10b0]) | skip)
                      have H' := amk H
                      clear H
                      go_wp2
                      go_meet
                      case rel => exact ⟨_, (decide ((bt a0 x15_2) ≤ 122)), (by first | rfl | (simp; done) | (simp [*]; done)), H', ⟨by have := HJ1.out; have := HK2.out; first | omega | exact Nat.le_refl _⟩, by repeat (first | exact Drawn0.refl _ | apply Drawn0.step)⟩
                    · rw [if_neg c10] at H
                      have c10b0 : decide (97 ≤ (bt a0 x15_2)) = false := decide_eq_false c10
                      clear c10
                      (first | rw [c10b0] | (simp only [i64_w, i32_w]; rw [c10b0]) | skip)
                      have H' := amk H
                      clear H
                      go_wp2
                      go_meet
                      case rel => exact ⟨_, (false), (by first | rfl | (simp; done) | (simp [*]; done)), H', ⟨by have := HJ1.out; have := HK2.out; first | omega | exact Nat.le_refl _⟩, by repeat (first | exact Drawn0.refl _ | apply Drawn0.step)⟩
                  case rest =>
                    clear HC9
                    try clear c1
                    try clear p2
                    try clear c3
                    try clear c3b0
                    try clear c3b1
                    try clear c4
                    try clear c5
                    try clear c5b0
                    try clear c6
                    try clear c6b0
                    try clear c7
                    try clear c7b0
                    try clear p8
                    try clear q8
                    try clear hx8
                    try clear c10
                    try clear c10b0
                    try clear p2
                    try clear p8
                    try clear q8
                    obtain ⟨kq, x21_8, rfl, HA, HJ8, ⟨mc8, rfl⟩⟩ := hcut
                    cases kq with
                    | zero => exact absurd HA.out (by simp [wire_IsName.j2])
                    | succ kj8 =>
                      have H := HA.out
                      clear HA
                      simp only [wire_IsName.j2] at H
                      have HC11 := amk H
                      clear H
                      go_upto_if 21 with (fail)
                      go_cut [21] (fun v21 wc => ∃ (kq : Nat) (x21_10 : Bool), v21 = .bool x21_10 ∧ Aside0 (wire_IsName.j3 kq a0 x15_2 (bt a0 x15_2) (a0.size : Int) x15_2 x21_10 = some r) ∧ Aside0 (kq ≤ kj8) ∧ Drawn0 w wc)
                      case first =>
                        have H := HC11.out
                        clear HC11
                        by_cases c12 : x21_8 = true
                        · subst c12
                          have H1 : (wire_IsName.j3 kj8 a0 x15_2 (bt a0 x15_2) (a0.size : Int) x15_2 true) = some r := by rw [if_pos rfl] at H; exact H
                          clear H
                          have H := H1
                          clear H1
                          have H' := amk H
                          clear H
                          go_wp2
                          go_meet
                          case rel => exact ⟨_, (true), (by first | rfl | (simp; done) | (simp [*]; done)), H', ⟨by have := HJ1.out; have := HK2.out; have := HJ8.out; first | omega | exact Nat.le_refl _⟩, by repeat (first | exact Drawn0.refl _ | apply Drawn0.step)⟩
                        · replace c12 := Bool.eq_false_iff.mpr c12
                          subst c12
                          have H1 : (if (bt a0 x15_2) ≥ 65 then (wire_IsName.j3 kj8 a0 x15_2 (bt a0 x15_2) (a0.size : Int) x15_2 (decide ((bt a0 x15_2) ≤ 90))) else (wire_IsName.j3 kj8 a0 x15_2 (bt a0 x15_2) (a0.size : Int) x15_2 false)) = some r := by rw [if_neg (show ¬ (false = true) by decide)] at H; exact H
                          clear H
                          have H := H1
                          clear H1
                          by_cases c13 : (bt a0 x15_2) ≥ 65
                          · rw [if_pos c13] at H
                            have c13b0 : decide (65 ≤ (bt a0 x15_2)) = true := decide_eq_true c13
                            clear c13
                            (first | rw [c13b0] | (simp only [i64_w, i32_w]; rw [c13b0]) | skip)
                            have H' := amk H
                            clear H
                            go_wp2
                            go_meet
                            case rel => exact ⟨_, (decide ((bt a0 x15_2) ≤ 90)), (by first | rfl | (simp; done) | (simp [*]; done)), H', ⟨by have := HJ1.out; have := HK2.out; have := HJ8.out; first | omega | exact Nat.le_refl _⟩, by repeat (first | exact Drawn0.refl _ | apply Drawn0.step)⟩
                          · rw [if_neg c13] at H
                            have c13b0 : decide (65 ≤ (bt a0 x15_2)) = false := decide_eq_false c13
                            clear c13
                            (first | rw [c13b0] | (simp only [i64_w, i32_w]; rw [c13b0]) | skip)
                            have H' := amk H
                            clear H
                            go_wp2
                            go_meet
                            case rel => exact ⟨_, (false), (by first | rfl | (simp; done) | (simp [*]; done)), H', ⟨by have := HJ1.out; have := HK2.out; have := HJ8.out; first | omega | exact Nat.le_refl _⟩, by repeat (first | exact Drawn0.refl _ | apply Drawn0.step)⟩
                      case rest =>
                        clear HC11
                        try clear c1
                        try clear p2
                        try clear c3
                        try clear c3b0
                        try clear c3b1
                        try clear c4
                        try clear c5
                        try clear c5b0
                        try clear c6
                        try clear c6b0
                        try clear c7
                        try clear c7b0
                        try clear c8
                        try clear p8
                        try clear q8
                        try clear hx8
                        try clear c10
                        try clear c10b0
                        try clear c12
                        try clear c13
                        try clear c13b0
                        try clear p2
                        try clear p8
                        try clear q8
                        obtain ⟨kq, x21_10, rfl, HA, HJ10, ⟨mc10, rfl⟩⟩ := hcut
                        cases kq with
                        | zero => exact absurd HA.out (by simp [wire_IsName.j3])
                        | succ kj10 =>
                          have H := HA.out
                          clear HA
                          simp only [wire_IsName.j3] at H
                          by_cases c14 : x21_10 = true
                          · subst c14
                            have H1 : (wire_IsName.l0 kj10 a0 (a0.size : Int) (wrap64 (x15_2 + 1))) = some r := by rw [if_pos rfl] at H; exact H
                            clear H
                            have H := H1
                            clear H1
                            have H' := amk H
                            clear H
                            go_wp2
                            go_roundg kj10
                            case measure => have := HJ1.out; have := HK2.out; have := HJ8.out; have := HJ10.out; omega
                            case rel => exact ⟨(wrap64 (x15_2 + 1)), (by first | rfl | (simp; done) | (simp [*]; done)), H', ⟨by have := HJ1.out; have := HK2.out; have := HJ8.out; have := HJ10.out; omega⟩, by repeat (first | exact Drawn0.refl _ | apply Drawn0.step)⟩
                          · replace c14 := Bool.eq_false_iff.mpr c14
                            subst c14
                            have H1 : (if x15_2 > 0 then (if (bt a0 x15_2) ≥ 48 then (if (bt a0 x15_2) ≤ 57 then (wire_IsName.l0 kj10 a0 (a0.size : Int) (wrap64 (x15_2 + 1))) else (if (bt a0 x15_2) = 95 then (wire_IsName.l0 kj10 a0 (a0.size : Int) (wrap64 (x15_2 + 1))) else (some false))) else (if (bt a0 x15_2) = 95 then (wire_IsName.l0 kj10 a0 (a0.size : Int) (wrap64 (x15_2 + 1))) else (some false))) else (some false)) = some r := by rw [if_neg (show ¬ (false = true) by decide)] at H; exact H
                            clear H
                            have H := H1
                            clear H1
                            by_cases c15 : x15_2 > 0
                            · rw [if_pos c15] at H
                              have c15b0 : decide (0 < x15_2) = true := decide_eq_true c15
                              clear c15
                              by_cases c16 : (bt a0 x15_2) ≥ 48
                              · rw [if_pos c16] at H
                                have c16b0 : decide (48 ≤ (bt a0 x15_2)) = true := decide_eq_true c16
                                clear c16
                                by_cases c17 : (bt a0 x15_2) ≤ 57
                                · rw [if_pos c17] at H
                                  have c17b0 : decide ((bt a0 x15_2) ≤ 57) = true := decide_eq_true c17
                                  clear c17
                                  have H' := amk H
                                  clear H
                                  go_wp2
                                  go_roundg kj10
                                  case measure => have := HJ1.out; have := HK2.out; have := HJ8.out; have := HJ10.out; omega
                                  case rel => exact ⟨(wrap64 (x15_2 + 1)), (by first | rfl | (simp; done) | (simp [*]; done)), H', ⟨by have := HJ1.out; have := HK2.out; have := HJ8.out; have := HJ10.out; omega⟩, by repeat (first | exact Drawn0.refl _ | apply Drawn0.step)⟩
                                · rw [if_neg c17] at H
                                  have c17b0 : decide ((bt a0 x15_2) ≤ 57) = false := decide_eq_false c17
                                  clear c17
                                  by_cases c18 : (bt a0 x15_2) = 95
                                  · rw [if_pos c18] at H
                                    have c18b0 : ((bt a0 x15_2) == 95) = true := beq_iff_eq.mpr c18
                                    have c18b1 : ((bt a0 x15_2) != 95) = false := bne_eq_false_iff_eq.mpr c18
                                    clear c18
                                    have H' := amk H
                                    clear H
                                    go_wp2
                                    go_roundg kj10
                                    case measure => have := HJ1.out; have := HK2.out; have := HJ8.out; have := HJ10.out; omega
                                    case rel => exact ⟨(wrap64 (x15_2 + 1)), (by first | rfl | (simp; done) | (simp [*]; done)), H', ⟨by have := HJ1.out; have := HK2.out; have := HJ8.out; have := HJ10.out; omega⟩, by repeat (first | exact Drawn0.refl _ | apply Drawn0.step)⟩
                                  · rw [if_neg c18] at H
                                    have c18b0 : ((bt a0 x15_2) == 95) = false := beq_eq_false_iff_ne.mpr c18
                                    have c18b1 : ((bt a0 x15_2) != 95) = true := bne_iff_ne.mpr c18
                                    obtain rfl := Option.some.inj H
                                    go_wp2
                                    go_ret
                                    exact ⟨by first | rfl | (simp; done) | (simp [*]; done), by repeat (first | exact Drawn0.refl _ | apply Drawn0.step)⟩
                              · rw [if_neg c16] at H
                                have c16b0 : decide (48 ≤ (bt a0 x15_2)) = false := decide_eq_false c16
                                clear c16
                                by_cases c19 : (bt a0 x15_2) = 95
                                · rw [if_pos c19] at H
                                  have c19b0 : ((bt a0 x15_2) == 95) = true := beq_iff_eq.mpr c19
                                  have c19b1 : ((bt a0 x15_2) != 95) = false := bne_eq_false_iff_eq.mpr c19
                                  clear c19
                                  have H' := amk H
                                  clear H
                                  go_wp2
                                  go_roundg kj10
                                  case measure => have := HJ1.out; have := HK2.out; have := HJ8.out; have := HJ10.out; omega
                                  case rel => exact ⟨(wrap64 (x15_2 + 1)), (by first | rfl | (simp; done) | (simp [*]; done)), H', ⟨by have := HJ1.out; have := HK2.out; have := HJ8.out; have := HJ10.out; omega⟩, by repeat (first | exact Drawn0.refl _ | apply Drawn0.step)⟩
                                · rw [if_neg c19] at H
                                  have c19b0 : ((bt a0 x15_2) == 95) = false := beq_eq_false_iff_ne.mpr c19
                                  have c19b1 : ((bt a0 x15_2) != 95) = true := bne_iff_ne.mpr c19
                                  obtain rfl := Option.some.inj H
                                  go_wp2
                                  go_ret
                                  exact ⟨by first | rfl | (simp; done) | (simp [*]; done), by repeat (first | exact Drawn0.refl _ | apply Drawn0.step)⟩
                            · rw [if_neg c15] at H
                              have c15b0 : decide (0 < x15_2) = false := decide_eq_false c15
                              clear c15
                              obtain rfl := Option.some.inj H
                              go_wp2
                              go_ret
                              exact ⟨by first | rfl | (simp; done) | (simp [*]; done), by repeat (first | exact Drawn0.refl _ | apply Drawn0.step)⟩
                · rw [if_neg c7] at H
                  exact absurd H (by simp)
              · rw [if_neg c6] at H
                exact absurd H (by simp)
            · rw [if_neg c5] at H
              have c5b0 : decide (x15_2 < (a0.size : Int)) = false := decide_eq_false c5
              clear c5
              obtain rfl := Option.some.inj H
              go_wp2
              go_ret
              exact ⟨by first | rfl | (simp; done) | (simp [*]; done), by repeat (first | exact Drawn0.refl _ | apply Drawn0.step)⟩

def slices_Index_string_string.l0 : Nat → List ByteArray → ByteArray → Int → Int → Option (Int)
  | 0, _, _, _, _ => none
  | k + 1, x0, x1, x7, x8 => if x8 < x7 then (if 0 ≤ x8 then (if x8 < (x0.length : Int) then (if x1.toList = (rdOf ByteArray.empty x0 x8).toList then (some x8) else (slices_Index_string_string.l0 k x0 x1 x7 (wrap64 (x8 + 1)))) else (none)) else (none)) else (some (-1))
def slices_Index_string_string.f (k : Nat) (l0 : List ByteArray) (a1 : ByteArray) : Option (Int) := slices_Index_string_string.l0 k l0 a1 (l0.length : Int) 0
set_option maxHeartbeats 8000000 in
set_option maxRecDepth 100000 in
theorem slices_Index_string_string.calls (k : Nat) (A0 : Option Addr) (c0 : Nat) (l0 : List ByteArray) (a1 : ByteArray) (r : Int) (w : World) (hr0 : Kd.C Kd.string w A0 l0.length l0) (hc0 : l0.length ≤ c0) (h : slices_Index_string_string.f k l0 a1 = some r) :
    Calls Try.prog 105 #[.slice A0 l0.length c0, .string a1] w fun e w' => e = .returned (.int .i64 r) ∧ Drawn0 w w' := by
  have HR0 := amk hr0
  have HC0 := amk hc0
  clear hr0 hc0
  have H : (slices_Index_string_string.l0 k l0 a1 (l0.length : Int) 0) = some r := h
  clear h
  have H' := amk H
  clear H
  go_enter Try.func105, Try.ntmps105
  go_wp2
  go_loopg [8] k (fun kq v8 w' => ∃ (x8_1 : Int), v8 = .int .i64 x8_1 ∧ Aside0 (slices_Index_string_string.l0 kq l0 a1 (l0.length : Int) x8_1 = some r) ∧ Aside0 (kq ≤ k) ∧ Drawn0 w w')
  case atStart => exact ⟨(0), (by first | rfl | (simp; done) | (simp [*]; done)), H', ⟨Nat.le_refl _⟩, by repeat (first | exact Drawn0.refl _ | apply Drawn0.step)⟩
  case round =>
    clear H'
    try clear c1
    try clear p2
    obtain ⟨x8_1, rfl, HA, HK1, ⟨m1, rfl⟩⟩ := hrel
    cases gk with
    | zero => exact absurd HA.out (by simp [slices_Index_string_string.l0])
    | succ k1 =>
      have H := HA.out
      clear HA
      simp only [slices_Index_string_string.l0] at H
      by_cases c3 : x8_1 < (l0.length : Int)
      · rw [if_pos c3] at H
        have c3b0 : decide (x8_1 < (l0.length : Int)) = true := decide_eq_true c3
        clear c3
        by_cases c4 : 0 ≤ x8_1
        · rw [if_pos c4] at H
          have c4b0 : decide (0 ≤ x8_1) = true := decide_eq_true c4
          clear c4
          by_cases c5 : x8_1 < (l0.length : Int)
          · rw [if_pos c5] at H
            have c5b0 : decide (x8_1 < (l0.length : Int)) = true := decide_eq_true c5
            clear c5
            by_cases c6 : a1.toList = (rdOf ByteArray.empty l0 x8_1).toList
            · rw [if_pos c6] at H
              have c6b0 : (a1.toList == (rdOf ByteArray.empty l0 x8_1).toList) = true := beq_iff_eq.mpr c6
              have c6b1 : (a1.toList != (rdOf ByteArray.empty l0 x8_1).toList) = false := bne_eq_false_iff_eq.mpr c6
              clear c6
              obtain rfl := Option.some.inj H
              have p190 : 0 ≤ (x8_1 : Int) := of_decide_eq_true (by first | (with_reducible assumption) | assumption)
              have q190 : x8_1 < (l0.length : Int) := of_decide_eq_true (by first | (with_reducible assumption) | assumption)
              obtain ⟨ad190, e190, hx190_0⟩ := Kd.at_string HR0.out x8_1 p190 q190
              cases e190
              replace p190 := eq_true p190
              replace q190 := eq_true q190
              go_wp2
              go_ret
              exact ⟨by first | rfl | (simp; done) | (simp [*]; done), by repeat (first | exact Drawn0.refl _ | apply Drawn0.step)⟩
            · rw [if_neg c6] at H
              have c6b0 : (a1.toList == (rdOf ByteArray.empty l0 x8_1).toList) = false := beq_eq_false_iff_ne.mpr c6
              have c6b1 : (a1.toList != (rdOf ByteArray.empty l0 x8_1).toList) = true := bne_iff_ne.mpr c6
              have H' := amk H
              clear H
              have p190 : 0 ≤ (x8_1 : Int) := of_decide_eq_true (by first | (with_reducible assumption) | assumption)
              have q190 : x8_1 < (l0.length : Int) := of_decide_eq_true (by first | (with_reducible assumption) | assumption)
              obtain ⟨ad190, e190, hx190_0⟩ := Kd.at_string HR0.out x8_1 p190 q190
              cases e190
              replace p190 := eq_true p190
              replace q190 := eq_true q190
              go_wp2
              go_roundg k1
              case measure => have := HK1.out; omega
              case rel => exact ⟨(wrap64 (x8_1 + 1)), (by first | rfl | (simp; done) | (simp [*]; done)), H', ⟨by have := HK1.out; omega⟩, by repeat (first | exact Drawn0.refl _ | apply Drawn0.step)⟩
          · rw [if_neg c5] at H
            exact absurd H (by simp)
        · rw [if_neg c4] at H
          exact absurd H (by simp)
      · rw [if_neg c3] at H
        have c3b0 : decide (x8_1 < (l0.length : Int)) = false := decide_eq_false c3
        clear c3
        obtain rfl := Option.some.inj H
        go_wp2
        go_ret
        exact ⟨by first | rfl | (simp; done) | (simp [*]; done), by repeat (first | exact Drawn0.refl _ | apply Drawn0.step)⟩

def slices_Contains_string_string.f (k : Nat) (l0 : List ByteArray) (a1 : ByteArray) : Option (Bool) := (slices_Index_string_string.f k l0 a1).bind fun t191 => (some (decide (t191 ≥ 0)))
set_option maxHeartbeats 8000000 in
set_option maxRecDepth 100000 in
theorem slices_Contains_string_string.calls (k : Nat) (A0 : Option Addr) (c0 : Nat) (l0 : List ByteArray) (a1 : ByteArray) (r : Bool) (w : World) (hr0 : Kd.C Kd.string w A0 l0.length l0) (hc0 : l0.length ≤ c0) (h : slices_Contains_string_string.f k l0 a1 = some r) :
    Calls Try.prog 64 #[.slice A0 l0.length c0, .string a1] w fun e w' => e = .returned (.bool r) ∧ Drawn0 w w' := by
  have HR0 := amk hr0
  have HC0 := amk hc0
  clear hr0 hc0
  have H : ((slices_Index_string_string.f k l0 a1).bind fun t191 => (some (decide (t191 ≥ 0)))) = some r := h
  clear h
  replace H := Option.bind_eq_some_iff.mp H
  obtain ⟨t191, A30, H⟩ := H
  replace H : (some (decide (t191 ≥ 0))) = some r := H
  have A3 := amk A30
  clear A30
  obtain rfl := Option.some.inj H
  go_enter Try.func64, Try.ntmps64
  go_wp2_with (first | ((with_reducible refine gate_callee (f := 105) rfl ?_); refine goesL_ (some 7) rfl rfl Try.func105 (by kernel_rfl) rfl #[.slice A0 l0.length c0, .string a1] rfl (by (try simp only [List.map_toArray, List.map_cons, List.map_nil]); first | done | rfl | (simp only [List.length_drop, List.length_take]; rfl)) ?_; (with_reducible refine (slices_Index_string_string.calls k _ _ l0 a1 t191 _ ?side1 ?side2 A3.out).mono ?_); (case side1 => repeat (first | exact HR0.out | (with_reducible refine Kd.C_alloc ?_ _) | (with_reducible refine Kd.C_drewN ?_ _) | (with_reducible refine Kd.C_drew ?_))); (case side2 => exact HC0.out); rintro e w' ⟨rfl, ⟨nd, rfl⟩⟩; refine ⟨_, rfl, ?_⟩))
  go_ret
  exact ⟨by first | rfl | (simp; done) | (simp [*]; done), by repeat (first | exact Drawn0.refl _ | apply Drawn0.step)⟩

def types_words.f  : Option (List ByteArray) := some (([(⟨#[116, 111, 112]⟩ : ByteArray), (⟨#[105, 110, 116]⟩ : ByteArray), (⟨#[98, 111, 111, 108]⟩ : ByteArray), (⟨#[110, 117, 108, 108]⟩ : ByteArray), (⟨#[105, 110, 116, 115]⟩ : ByteArray), (⟨#[97, 110, 121]⟩ : ByteArray)] : List ByteArray))
set_option maxHeartbeats 8000000 in
set_option maxRecDepth 100000 in
theorem types_words.calls  (r : List ByteArray) (w : World) (h : types_words.f  = some r) :
    Calls Try.prog 65 #[] w fun e w' => ∃ v0_ : Value, e = .returned (v0_) ∧ Kd.R Kd.string 9 w' w.heap.size (fun _ => True) v0_ r ∧ Below w.heap.size w w' := by
  have HB := amk (Below.refl w.heap.size w)
  have H : (some (([(⟨#[116, 111, 112]⟩ : ByteArray), (⟨#[105, 110, 116]⟩ : ByteArray), (⟨#[98, 111, 111, 108]⟩ : ByteArray), (⟨#[110, 117, 108, 108]⟩ : ByteArray), (⟨#[105, 110, 116, 115]⟩ : ByteArray), (⟨#[97, 110, 121]⟩ : ByteArray)] : List ByteArray))) = some r := h
  clear h
  obtain ⟨y192, hy192⟩ : ∃ y_ : List ByteArray, y_ = (([(⟨#[116, 111, 112]⟩ : ByteArray), (⟨#[105, 110, 116]⟩ : ByteArray), (⟨#[98, 111, 111, 108]⟩ : ByteArray), (⟨#[110, 117, 108, 108]⟩ : ByteArray), (⟨#[105, 110, 116, 115]⟩ : ByteArray), (⟨#[97, 110, 121]⟩ : ByteArray)] : List ByteArray)) := ⟨_, rfl⟩
  replace H : (some y192) = some r := by first | (rw [hy192]; with_reducible exact H) | (have H2_ := (Option.bind_some _ _).symm.trans H; rw [hy192]; with_reducible exact H2_) | (have H2_ := (Option.bind_some _ _).symm.trans H; with_reducible exact H2_) | with_reducible exact H | (rw [hy192]; exact H) | exact H
  have Ny192 := amk hy192
  clear hy192
  obtain rfl := Option.some.inj H
  go_enter Try.func65, Try.ntmps65
  go_wp2_with (first | ((with_reducible refine gate_dst (N := 1) rfl ?_); refine Kd.R_lit Kd.string _ 9 ?hg (N := 1) ?hd (xs := ([(⟨#[116, 111, 112]⟩ : ByteArray), (⟨#[105, 110, 116]⟩ : ByteArray), (⟨#[98, 111, 111, 108]⟩ : ByteArray), (⟨#[110, 117, 108, 108]⟩ : ByteArray), (⟨#[105, 110, 116, 115]⟩ : ByteArray), (⟨#[97, 110, 121]⟩ : ByteArray)] : List ByteArray)) (inner := [.string (⟨#[116, 111, 112]⟩ : ByteArray), .string (⟨#[105, 110, 116]⟩ : ByteArray), .string (⟨#[98, 111, 111, 108]⟩ : ByteArray), .string (⟨#[110, 117, 108, 108]⟩ : ByteArray), .string (⟨#[105, 110, 116, 115]⟩ : ByteArray), .string (⟨#[97, 110, 121]⟩ : ByteArray)]) (ok := fun _ => True) (okp := fun _ => True) ?hr ?hp (fun _ hk => hk) trivial (Below.refl _ _) (Nat.le_refl _) (by simp) ?_; (case hd => rfl); (case hg => rfl); (case hr => first | (go_simp; done) | (go_simp; rfl)); (case hp => exact (Reps.one (show Kd.M Kd.string _ _ _ (⟨#[116, 111, 112]⟩ : ByteArray) [.string (⟨#[116, 111, 112]⟩ : ByteArray)] from rfl) (Reps.one (show Kd.M Kd.string _ _ _ (⟨#[105, 110, 116]⟩ : ByteArray) [.string (⟨#[105, 110, 116]⟩ : ByteArray)] from rfl) (Reps.one (show Kd.M Kd.string _ _ _ (⟨#[98, 111, 111, 108]⟩ : ByteArray) [.string (⟨#[98, 111, 111, 108]⟩ : ByteArray)] from rfl) (Reps.one (show Kd.M Kd.string _ _ _ (⟨#[110, 117, 108, 108]⟩ : ByteArray) [.string (⟨#[110, 117, 108, 108]⟩ : ByteArray)] from rfl) (Reps.one (show Kd.M Kd.string _ _ _ (⟨#[105, 110, 116, 115]⟩ : ByteArray) [.string (⟨#[105, 110, 116, 115]⟩ : ByteArray)] from rfl) (Reps.one (show Kd.M Kd.string _ _ _ (⟨#[97, 110, 121]⟩ : ByteArray) [.string (⟨#[97, 110, 121]⟩ : ByteArray)] from rfl) (Reps.none _ _)))))))); intro v193 w1 ho2 hb hg_ hnew_; clear hg_ hnew_; (first | rw [← Ny192.out] at ho2 | (simp only [Int.reduceToNat] at ho2; rw [← Ny192.out] at ho2)); have n0_ := amk (Kd.R_lower ho2 (below_size (by repeat (first | (with_reducible first | exact HB.out | apply bal | apply pbd | apply bdr) | exact HB.out)))); have n1_ := amk (below_step (by repeat (first | (with_reducible first | exact HB.out | apply bal | apply pbd | apply bdr) | exact HB.out)) hb); clear HB; have HO194 := n0_; have HB := n1_; clear n0_ n1_; clear hb ho2))
  go_ret
  exact ⟨_, by first | rfl | (simp [errW_none, errW_some] <;> rfl) | (simp [*, errW_none, errW_some] <;> rfl), by (with_reducible repeat (first | apply Kd.R_alloc | apply Kd.R_drewN | apply Kd.R_drew)); exact HO194.out, by repeat (first | (with_reducible first | exact HB.out | apply bal | apply pbd | apply bdr) | exact HB.out)⟩

def firstFrom (p : S64 → Bool) (l : List S64) : Nat → Nat → Int
  | 0, _ => -1
  | d + 1, i => if p (rd_T64 l i) = true then (i : Int) else firstFrom p l d (i + 1)
set_option maxHeartbeats 1600000 in
set_option maxRecDepth 100000 in
theorem index_class (fid : Nat) (caps : Array Value) (A0 : Option Addr) (c0 : Nat) (l : List S64) (W0 : World) (hr : Kd.C k64 W0 A0 l.length l) (Inv : World → Prop) (p : S64 → Bool)
    (hB : ∀ W, Inv W → Below W0.heap.size W0 W)
    (hstep : ∀ (x : S64) (A2 : Option Addr) (c2 : Nat) (W : World), Inv W → Calls Try.prog fid (#[.agg #[.string x.f0, .int .i64 x.f1, .slice A2 x.f2.length c2]] ++ caps) W fun e W' => e = .returned (.bool (p x)) ∧ Inv W')
    (hcf : ∀ (vs : Array Value) (w : World), Sem.run Try.prog (callFunc fid vs) w = .ok (.enter fid vs) w)
    (W : World) (h0 : Inv W) :
    Calls Try.prog 106 #[.slice A0 l.length c0, .func (.func fid) #[] caps] W fun e W' => e = .returned (.int .i64 (firstFrom p l l.length 0)) ∧ Inv W' := by
  have HI := amk h0
  have HS := amk hstep
  have HB := amk hB
  have HR := amk hr
  have hlen : l.length ≤ 9223372036854775807 := hr.2.1
  clear h0 hstep hB hr
  go_enter Try.func106, Try.ntmps106
  go_wp2
  go_loopw [8] (fun v8 wr => ∃ i : Nat, v8 = .int .i64 (i : Int) ∧ i ≤ l.length ∧ Aside0 (firstFrom p l l.length 0 = firstFrom p l (l.length - i) i) ∧ Aside0 (Inv wr)) (fun v8 _ => ((l.length : Int) - intOf v8).toNat)
  case atStart => exact ⟨0, rfl, Nat.zero_le _, ⟨rfl⟩, HI⟩
  case round =>
    obtain ⟨i, rfl, hi, HF, HI⟩ := hrel
    by_cases c1 : i < l.length
    · have c1b : decide ((i : Int) < (l.length : Int)) = true := decide_eq_true (by omega)
      obtain ⟨ad, A2, c2, e1, hx0, hx1, hx2, _, _⟩ := at_T64 HR.out (i : Int) (by omega) (by omega)
      cases e1
      have hb := HB.out _ HI.out
      replace hx0 := (hb.cell (blc W0 _ hx0)).trans hx0
      replace hx1 := (hb.cell (blc W0 _ hx1)).trans hx1
      replace hx2 := (hb.cell (blc W0 _ hx2)).trans hx2
      simp only [Int.toNat_natCast] at hx0 hx1 hx2
      have p5 : (0 ≤ (i : Int)) = True := eq_true (by omega)
      have p6 : ((i : Int) < (l.length : Int)) = True := eq_true (by omega)
      have HN : Aside0 (firstFrom p l (l.length - i) i = if p (rd_T64 l i) = true then (i : Int) else firstFrom p l (l.length - (i + 1)) (i + 1)) := ⟨by
        obtain ⟨d, hd⟩ : ∃ d, l.length - i = d + 1 := ⟨l.length - i - 1, by omega⟩
        rw [hd, show l.length - (i + 1) = d by omega]
        rfl⟩
      clear hb
      go_wp2_with fail
      refine (HS.out (rd_T64 l i) A2 c2 _ HI.out).mono ?_
      rintro e w2 ⟨rfl, hI⟩
      clear HI
      have HI := amk hI
      clear hI hx0 hx1 hx2
      by_cases hp : p (rd_T64 l i) = true
      · rw [hp]
        have HP := amk hp
        clear hp
        go_wp2
        go_ret
        exact ⟨by rw [HF.out, HN.out, if_pos HP.out]; rfl, HI.out⟩
      · have HP := amk hp
        rw [Bool.eq_false_iff.mpr hp]
        clear hp
        go_wp2
        go_roundw
        case rel => exact ⟨i + 1, rfl, by omega, ⟨by rw [HF.out, HN.out, if_neg HP.out]⟩, HI⟩
        case measure => simp [intOf]; omega
    · have c1b : decide ((i : Int) < (l.length : Int)) = false := decide_eq_false (by omega)
      have HZ : Aside0 (l.length - i = 0) := ⟨by omega⟩
      go_wp2
      go_ret
      exact ⟨by rw [HF.out, HZ.out]; rfl, HI.out⟩
theorem first_any (p : S64 → Bool) (l : List S64) : ∀ (d i : Nat), i + d = l.length → (decide (0 ≤ firstFrom p l d i)) = (l.drop i).any p
  | 0, i, h => by
    rw [List.drop_of_length_le (by omega)]
    rfl
  | d + 1, i, h => by
    have hi : i < l.length := by omega
    have hr : rd_T64 l (i : Int) = l[i] := by simp [rd_T64, List.getD_eq_getElem?_getD, hi]
    rw [List.drop_eq_getElem_cons hi, List.any_cons, ← hr, ← first_any p l d (i + 1) (by omega)]
    show decide (0 ≤ (if p (rd_T64 l (i : Int)) = true then (i : Int) else firstFrom p l d (i + 1))) = _
    by_cases e : p (rd_T64 l i) = true
    · rw [if_pos e, e]
      simp
    · rw [if_neg e, Bool.eq_false_iff.mpr e]
      simp

set_option maxHeartbeats 800000 in
set_option maxRecDepth 100000 in
theorem contains_class (fid : Nat) (caps : Array Value) (A0 : Option Addr) (c0 : Nat) (l : List S64) (W0 : World) (hr : Kd.C k64 W0 A0 l.length l) (Inv : World → Prop) (p : S64 → Bool)
    (hB : ∀ W, Inv W → Below W0.heap.size W0 W)
    (hstep : ∀ (x : S64) (A2 : Option Addr) (c2 : Nat) (W : World), Inv W → Calls Try.prog fid (#[.agg #[.string x.f0, .int .i64 x.f1, .slice A2 x.f2.length c2]] ++ caps) W fun e W' => e = .returned (.bool (p x)) ∧ Inv W')
    (hcf : ∀ (vs : Array Value) (w : World), Sem.run Try.prog (callFunc fid vs) w = .ok (.enter fid vs) w)
    (W : World) (h0 : Inv W) :
    Calls Try.prog 66 #[.slice A0 l.length c0, .func (.func fid) #[] caps] W fun e W' => e = .returned (.bool (l.any p)) ∧ Inv W' := by
  have HC := amk (index_class fid caps A0 c0 l W0 hr Inv p hB hstep hcf W h0)
  have HA := amk (first_any p l l.length 0 (by omega))
  clear hr hB hstep hcf h0
  go_enter Try.func66, Try.ntmps66
  go_wp2_with fail
  refine HC.out.mono ?_
  rintro e w2 ⟨rfl, hI⟩
  have HI := amk hI
  have ha := HA.out
  rw [List.drop_zero] at ha
  clear hI HC HA
  generalize firstFrom p l l.length 0 = n at ha ⊢
  generalize hb : l.any p = b at ha ⊢
  have HB := amk hb
  clear hb
  go_wp2
  go_ret
  exact ⟨by rw [HB.out]; rfl, HI.out⟩

def climbF (l : List S64) : Nat → Int → List Int
  | 0, _ => []
  | f + 1, c => if 0 ≤ c ∧ c < (l.length : Int) then c :: (if (rd_T64 l c).f1 ≥ c then [] else climbF l f (rd_T64 l c).f1) else []
def climbL (l : List S64) (c : Int) : List Int := climbF l (c.toNat + 1) c
theorem climbF_le (l : List S64) : ∀ (f g : Nat) (c : Int), c.toNat < f → f ≤ g → climbF l g c = climbF l f c
  | 0, _, _, h, _ => by omega
  | f + 1, 0, _, _, h => by omega
  | f + 1, g + 1, c, h, hg => by
    simp only [climbF]
    split
    · split
      · rfl
      · rename_i h1 h2
        by_cases h3 : 0 ≤ (rd_T64 l c).f1
        · rw [climbF_le l f g _ (by omega) (by omega)]
        · have e : ∀ k, climbF l k (rd_T64 l c).f1 = [] := by
            intro k
            cases k with
            | zero => rfl
            | succ k => simp only [climbF]; rw [if_neg (by omega)]
          rw [e, e]
    · rfl
theorem climbL_in (l : List S64) (c : Int) (h0 : 0 ≤ c) (h1 : c < (l.length : Int)) (h2 : (rd_T64 l c).f1 < c) : climbL l c = c :: climbL l (rd_T64 l c).f1 := by
  unfold climbL
  rw [climbF, if_pos ⟨h0, h1⟩, if_neg (by omega)]
  by_cases h3 : 0 ≤ (rd_T64 l c).f1
  · rw [climbF_le l _ c.toNat _ (Nat.lt_succ_self _) (by omega)]
  · have e : ∀ k, climbF l k (rd_T64 l c).f1 = [] := by
      intro k
      cases k with
      | zero => rfl
      | succ k => simp only [climbF]; rw [if_neg (by omega)]
    rw [e, e]
theorem climbL_last (l : List S64) (c : Int) (h0 : 0 ≤ c) (h1 : c < (l.length : Int)) (h2 : ¬ (rd_T64 l c).f1 < c) : climbL l c = [c] := by
  unfold climbL
  rw [climbF, if_pos ⟨h0, h1⟩, if_pos (by omega)]
theorem climbL_out (l : List S64) (c : Int) (h : ¬ (0 ≤ c ∧ c < (l.length : Int))) : climbL l c = [] := by
  unfold climbL
  rw [climbF, if_neg h]

set_option maxHeartbeats 800000 in
set_option maxRecDepth 100000 in
theorem climb_any (fid : Nat) (caps : Array Value) (A0 : Option Addr) (c0 : Nat) (l : List S64) (W0 : World) (hr : Kd.C k64 W0 A0 l.length l) (Inv : List Int → World → Prop) (Fin : World → Prop)
    (hB : ∀ xs W, Inv xs W → Below W0.heap.size W0 W) (hnil : ∀ W, Inv [] W → Fin W)
    (hstep : ∀ x xs W, Inv (x :: xs) W → Calls Try.prog fid (#[.int .i64 x] ++ caps) W fun e W' => (e = .returned (.bool true) ∧ Inv xs W') ∨ (e = .returned (.bool false) ∧ Fin W'))
    (hcf : ∀ (vs : Array Value) (w : World), Sem.run Try.prog (callFunc fid vs) w = .ok (.enter fid vs) w)
    (x0 : Int) (W : World) (h0 : Inv (climbL l x0) W) :
    Calls Try.prog 107 #[.slice A0 l.length c0, .int .i64 x0, .func (.func fid) #[] caps] W fun e W' => e = .returned (.tuple #[]) ∧ Fin W' := by
  have H0 := amk h0
  have HN := amk hnil
  have HS := amk hstep
  have HB := amk hB
  have HR := amk hr
  clear h0 hnil hstep hB hr
  go_enter Try.func107, Try.ntmps107
  go_wp2
  go_loopw [1] (fun v wr => ∃ y : Int, v = .int .i64 y ∧ Aside0 (Inv (climbL l y) wr)) (fun v _ => (intOf v + 1).toNat)
  case atStart => exact ⟨x0, rfl, H0⟩
  case round =>
    obtain ⟨y, rfl, HI⟩ := hrel
    by_cases c1 : 0 ≤ y
    · have c1b : decide (0 ≤ y) = true := decide_eq_true c1
      by_cases c2 : y < (l.length : Int)
      · have c2b : decide (y < (l.length : Int)) = true := decide_eq_true c2
        obtain ⟨ad, A2, c3, e0, _, hx1, _, _, _⟩ := at_T64 HR.out y c1 c2
        subst e0
        have HX := amk hx1
        clear hx1
        by_cases c3 : (rd_T64 l y).f1 < y
        · have HI2 := HI.out
          rw [climbL_in l y c1 c2 c3] at HI2
          have HC := amk (HS.out _ _ _ HI2)
          have c3b : decide (y ≤ (rd_T64 l y).f1) = false := decide_eq_false (by omega)
          clear HI2
          go_wp2_with fail
          refine HC.out.mono ?_
          rintro e w1 (⟨rfl, h1⟩ | ⟨rfl, h1⟩)
          · have hB1 := HB.out _ _ h1
            have H1 := amk h1
            have hx := (hB1.cell (blc W0 _ HX.out)).trans HX.out
            clear hB1 h1
            go_wp2
            go_roundw
            case rel => exact ⟨_, rfl, H1⟩
            case measure => simp [intOf]; omega
          · have H1 := amk h1
            clear h1
            go_wp2
            go_end0
            exact ⟨rfl, H1.out⟩
        · have HI2 := HI.out
          rw [climbL_last l y c1 c2 c3] at HI2
          have HC := amk (HS.out _ _ _ HI2)
          have c3b : decide (y ≤ (rd_T64 l y).f1) = true := decide_eq_true (by omega)
          clear HI2
          go_wp2_with fail
          refine HC.out.mono ?_
          rintro e w1 (⟨rfl, h1⟩ | ⟨rfl, h1⟩)
          · have hB1 := HB.out _ _ h1
            have H1 := amk (HN.out _ h1)
            have hx := (hB1.cell (blc W0 _ HX.out)).trans HX.out
            clear hB1 h1
            go_wp2
            (try simp only [Exit.inBlock, Exit.then])
            refine bodyPost_ret (results_none rfl _ _ _) rfl ?_
            exact ⟨rfl, H1.out⟩
          · have H1 := amk h1
            clear h1
            go_wp2
            go_end0
            exact ⟨rfl, H1.out⟩
      · have c2b : decide (y < (l.length : Int)) = false := decide_eq_false c2
        have HI2 := HI.out
        rw [climbL_out l y (by omega)] at HI2
        have H1 := amk (HN.out _ HI2)
        clear HI2
        go_wp2
        go_end0
        exact ⟨rfl, H1.out⟩
    · have c1b : decide (0 ≤ y) = false := decide_eq_false c1
      have HI2 := HI.out
      rw [climbL_out l y (by omega)] at HI2
      have H1 := amk (HN.out _ HI2)
      clear HI2
      go_wp2
      go_end0
      exact ⟨rfl, H1.out⟩
theorem callFunc_run {f : Nat} {fn : Func} (hf : Try.prog.funcs[f]? = some fn) (hname : (fn.name == "runtime.NumGoroutine") = false) (hb : fn.body.isSome = true) (vs : Array Value) (w : World) : Sem.run Try.prog (callFunc f vs) w = .ok (.enter f vs) w := enters_ hf hname hb vs w

theorem climbF_length (l : List S64) : ∀ (f : Nat) (c : Int), (climbF l f c).length ≤ f
  | 0, _ => Nat.le_refl _
  | f + 1, c => by
    simp only [climbF]
    split
    · split
      · simp
      · simpa using climbF_length l f _
    · simp
theorem climbL_length (l : List S64) (c : Int) : (climbL l c).length ≤ l.length := by
  by_cases h : 0 ≤ c ∧ c < (l.length : Int)
  · exact Nat.le_trans (climbF_length l _ c) (by omega)
  · rw [climbL_out l c h]; simp
theorem climbL_mem (l : List S64) (c : Int) : ∀ x ∈ climbL l c, 0 ≤ x ∧ x < (l.length : Int) := by
  have h : ∀ (f : Nat) (c : Int), ∀ x ∈ climbF l f c, 0 ≤ x ∧ x < (l.length : Int) := by
    intro f
    induction f with
    | zero => intro c x hx; cases hx
    | succ f ih =>
      intro c x hx
      simp only [climbF] at hx
      split at hx
      · rename_i h1
        rcases List.mem_cons.1 hx with rfl | h2
        · exact h1
        · split at h2
          · cases h2
          · exact ih _ x h2
      · cases hx
  exact h _ c

end Go.Proofs.Ytdlmcjchnoeebaa.P

end

section
namespace Go.Proofs.Ytdlmcjchnoeebaa.P
open Go.RowKit Go.Proofs.YtdlmcjchnoeebaaW.PrintWords Go.Proofs.YtdlmcjchnoeebaaW.PrintLast Go.Proofs.YtdlmcjchnoeebaaW.PrintMore
attribute [local go_sem] max2_int min2_int max_two min_two max_three min_three max_four min_four   -- for this text's walks alone
set_option linter.unusedVariables false
set_option linter.unusedSimpArgs false

def types_stored.f (l0 : List (S64)) (a1 : Int) : Option (Bool) := if a1 = 1 then (some true) else (if a1 = 2 then (some true) else (if a1 = 4 then (some true) else (if a1 = 5 then (some true) else ((types_class.f l0 a1).bind fun t195 => (some (decide (t195 ≥ 0)))))))
set_option maxHeartbeats 8000000 in
set_option maxRecDepth 100000 in
theorem types_stored.calls (A0 : Option Addr) (c0 : Nat) (l0 : List (S64)) (a1 : Int) (r : Bool) (w : World) (hr0 : Kd.C k64 w A0 l0.length l0) (hc0 : l0.length ≤ c0) (h : types_stored.f l0 a1 = some r) :
    Calls Try.prog 109 #[.slice A0 l0.length c0, .int .u8 a1] w fun e w' => e = .returned (.bool r) ∧ Drawn0 w w' := by
  have HR0 := amk hr0
  have HC0 := amk hc0
  clear hr0 hc0
  have H : (if a1 = 1 then (some true) else (if a1 = 2 then (some true) else (if a1 = 4 then (some true) else (if a1 = 5 then (some true) else ((types_class.f l0 a1).bind fun t195 => (some (decide (t195 ≥ 0)))))))) = some r := h
  clear h
  by_cases c3 : a1 = 1
  · rw [if_pos c3] at H
    have c3b0 : (a1 == 1) = true := beq_iff_eq.mpr c3
    have c3b1 : (a1 != 1) = false := bne_eq_false_iff_eq.mpr c3
    clear c3
    obtain rfl := Option.some.inj H
    go_enter Try.func109, Try.ntmps109
    go_wp2
    go_ret
    exact ⟨by first | rfl | (simp; done) | (simp [*]; done), by repeat (first | exact Drawn0.refl _ | apply Drawn0.step)⟩
  · rw [if_neg c3] at H
    have c3b0 : (a1 == 1) = false := beq_eq_false_iff_ne.mpr c3
    have c3b1 : (a1 != 1) = true := bne_iff_ne.mpr c3
    by_cases c4 : a1 = 2
    · rw [if_pos c4] at H
      have c4b0 : (a1 == 2) = true := beq_iff_eq.mpr c4
      have c4b1 : (a1 != 2) = false := bne_eq_false_iff_eq.mpr c4
      clear c4
      obtain rfl := Option.some.inj H
      go_enter Try.func109, Try.ntmps109
      go_wp2
      go_ret
      exact ⟨by first | rfl | (simp; done) | (simp [*]; done), by repeat (first | exact Drawn0.refl _ | apply Drawn0.step)⟩
    · rw [if_neg c4] at H
      have c4b0 : (a1 == 2) = false := beq_eq_false_iff_ne.mpr c4
      have c4b1 : (a1 != 2) = true := bne_iff_ne.mpr c4
      by_cases c5 : a1 = 4
      · rw [if_pos c5] at H
        have c5b0 : (a1 == 4) = true := beq_iff_eq.mpr c5
        have c5b1 : (a1 != 4) = false := bne_eq_false_iff_eq.mpr c5
        clear c5
        obtain rfl := Option.some.inj H
        go_enter Try.func109, Try.ntmps109
        go_wp2
        go_ret
        exact ⟨by first | rfl | (simp; done) | (simp [*]; done), by repeat (first | exact Drawn0.refl _ | apply Drawn0.step)⟩
      · rw [if_neg c5] at H
        have c5b0 : (a1 == 4) = false := beq_eq_false_iff_ne.mpr c5
        have c5b1 : (a1 != 4) = true := bne_iff_ne.mpr c5
        by_cases c6 : a1 = 5
        · rw [if_pos c6] at H
          have c6b0 : (a1 == 5) = true := beq_iff_eq.mpr c6
          have c6b1 : (a1 != 5) = false := bne_eq_false_iff_eq.mpr c6
          clear c6
          obtain rfl := Option.some.inj H
          go_enter Try.func109, Try.ntmps109
          go_wp2
          go_ret
          exact ⟨by first | rfl | (simp; done) | (simp [*]; done), by repeat (first | exact Drawn0.refl _ | apply Drawn0.step)⟩
        · rw [if_neg c6] at H
          have c6b0 : (a1 == 5) = false := beq_eq_false_iff_ne.mpr c6
          have c6b1 : (a1 != 5) = true := bne_iff_ne.mpr c6
          replace H := Option.bind_eq_some_iff.mp H
          obtain ⟨t195, A70, H⟩ := H
          replace H : (some (decide (t195 ≥ 0))) = some r := H
          have A7 := amk A70
          clear A70
          obtain rfl := Option.some.inj H
          go_enter Try.func109, Try.ntmps109
          go_wp2_with (first | (go_at_call 128; (with_reducible refine (types_class.calls _ _ l0 a1 t195 _ ?side1 ?side2 A7.out).mono ?_); (case side1 => repeat (first | exact HR0.out | (with_reducible refine Kd.C_alloc ?_ _) | (with_reducible refine Kd.C_drewN ?_ _) | (with_reducible refine Kd.C_drew ?_))); (case side2 => exact HC0.out); rintro e w' ⟨rfl, ⟨nd, rfl⟩⟩))
          go_ret
          exact ⟨by first | rfl | (simp; done) | (simp [*]; done), by repeat (first | exact Drawn0.refl _ | apply Drawn0.step)⟩

def namesOf (fs : List S99) : List ByteArray := fs.map (·.f0)
theorem names_next (fs : List S99) (i : Nat) (h : i < fs.length) : namesOf (fs.take (i + 1)) = namesOf (fs.take i) ++ [(rd_T99 fs i).f0] := by
  unfold namesOf
  rw [List.take_succ_eq_append_getElem h, List.map_append]
  simp [rd_T99, List.getD_eq_getElem?_getD, h]
theorem names_len (fs : List S99) (i : Nat) (h : i ≤ fs.length) : (namesOf (fs.take i)).length = i := by
  unfold namesOf
  rw [List.length_map, List.length_take]
  omega
set_option maxHeartbeats 1600000 in
set_option maxRecDepth 100000 in
theorem types_fields_step (w : World) (A0 : Option Addr) (c0 : Nat) (l : List S64) (hr : Kd.C k64 w A0 l.length l) (g0 g1 : Nat) (hg0 : w.heap.size ≤ g0) (hg1 : w.heap.size ≤ g1) (hne : g0 ≠ g1) (up : Int) (h0 : 0 ≤ up) (h1 : up < (l.length : Int)) (ys : List ByteArray) (v : Value) (W : World) (hB : Below w.heap.size w W)
    (hL : W.heap[g0]? = some (.cells #[.slice A0 l.length c0] 22 (0, 0))) (hM : W.heap[g1]? = some (.cells #[v] 105 (0, 0))) (hv : Kd.R Kd.string 9 W w.heap.size (fun _ => True) v ys) (hl : ys.length + (rd_T64 l up).f2.length < 8796093022208) :
    Calls Try.prog 108 #[.int .i64 up, .pointer (some ⟨g0, 0, none⟩), .pointer (some ⟨g1, 0, none⟩)] W fun e W' => e = .returned (.bool true) ∧ Below w.heap.size w W' ∧ W'.heap[g0]? = some (.cells #[.slice A0 l.length c0] 22 (0, 0)) ∧ ∃ v1 : Value, W'.heap[g1]? = some (.cells #[v1] 105 (0, 0)) ∧ Kd.R Kd.string 9 W' w.heap.size (fun _ => True) v1 (ys ++ namesOf (rd_T64 l up).f2) := by
  have hcL := blk_cell hL 0
  obtain ⟨ad2, A2, c2, e1, _, _, hx2, hl2, hi2⟩ := at_T64 hr up h0 h1
  cases e1
  replace hx2 := (hB.cell (blc w _ hx2)).trans hx2
  obtain ⟨fs, hfs⟩ : ∃ fs, fs = (rd_T64 l up).f2 := ⟨_, rfl⟩
  rw [← hfs] at hx2 hl2 hi2 hl ⊢
  have hlen : fs.length ≤ 9223372036854775807 := hi2.2.1
  have HL := amk hL
  have HM := amk hM
  have HV := amk hv
  have HLIM := amk hl
  have HF := amk hi2
  have HB := amk hB
  have HG0 := amk hg0
  have HG1 := amk hg1
  have p3 := eq_true h0
  have p4 := eq_true h1
  clear hL hM hv hl hi2 hB hg0 hg1 hfs h0 h1 hr
  go_enter Try.func108, Try.ntmps108
  go_wp2
  go_loopw [13] (fun v13 wr => ∃ i : Nat, v13 = .int .i64 (i : Int) ∧ i ≤ fs.length ∧ Aside0 (Below w.heap.size w wr) ∧ Aside0 (wr.heap[g0]? = some (.cells #[.slice (some ad2) l.length c0] 22 (0, 0))) ∧ ∃ v1 : Value, Aside0 (wr.heap[g1]? = some (.cells #[v1] 105 (0, 0))) ∧ Aside0 (Kd.R Kd.string 9 wr w.heap.size (fun _ => True) v1 (ys ++ namesOf (fs.take i)))) (fun v13 _ => ((fs.length : Int) - intOf v13).toNat)
  case atStart => exact ⟨0, rfl, Nat.zero_le _, HB, HL, v, HM, ⟨by simpa [namesOf] using HV.out⟩⟩
  case round =>
    obtain ⟨i, rfl, hi, HB, HL, v1, HM, HV⟩ := hrel
    by_cases c1 : (i : Int) < (fs.length : Int)
    · have c1b : decide ((i : Int) < (fs.length : Int)) = true := decide_eq_true c1
      have hi2 : i < fs.length := by omega
      obtain ⟨ad3, e3, hx0, hx1⟩ := at_T99 HF.out (i : Int) (by omega) c1
      cases e3
      replace hx0 := (HB.out.cell (blc w _ hx0)).trans hx0
      replace hx1 := (HB.out.cell (blc w _ hx1)).trans hx1
      simp only [Int.toNat_natCast] at hx0 hx1
      have p5 : (0 ≤ (i : Int)) = True := eq_true (by omega)
      have p6 := eq_true c1
      have HX := amk (names_next fs i hi2)
      have HN := amk (names_len fs i hi)
      go_upto_region 4 with (first | ((with_reducible refine gate_dst (N := 6) rfl ?_); refine box_event ?hg (N := 6) ?hd (cs := #[.string (⟨#[]⟩ : ByteArray), .int .u8 0]) (t := 99) ?hr ?_; (case hd => rfl); (case hg => rfl); (case hr => first | (go_simp; done) | (go_simp; rfl)); intro gb hg w5 hbox hb; have n1 := amk hbox; have n2 := amk hb; have n3 := amk hg; have hcz0 := blk_cell hbox 0; have hcz1 := blk_cell hbox 1; have hfz0 := bkf hbox 0; have hfz1 := bkf hbox 1; clear hbox hb hg))
      have hlt0 := blk_lt HL.out
      have hlt1 := blk_lt HM.out
      have hgb := n3.out
      have hs := HB.out.size
      have m1 := amk (blk_far (blk_far (blk_below HL.out n2.out) (p := ⟨gb, 0, none⟩) (by simp; omega) (.string (rd_T99 fs i).f0)) (p := ⟨gb, 1, none⟩) (by simp; omega) (.int .u8 (rd_T99 fs i).f1))
      have m2 := amk (blk_far (blk_far (blk_below HM.out n2.out) (p := ⟨gb, 0, none⟩) (by simp; omega) (.string (rd_T99 fs i).f0)) (p := ⟨gb, 1, none⟩) (by simp; omega) (.int .u8 (rd_T99 fs i).f1))
      have m3 := amk (((below_step HB.out n2.out).setCell (p := ⟨gb, 0, none⟩) (by simp; omega) (.string (rd_T99 fs i).f0)).setCell (p := ⟨gb, 1, none⟩) (by simp; omega) (.int .u8 (rd_T99 fs i).f1))
      have m4 := amk (Kd.R_mono (Kd.R_far (p := ⟨gb, 1, none⟩) (Kd.R_far (p := ⟨gb, 0, none⟩) (Kd.R_below (Kd.R_elderB HV.out gb (Nat.le_of_eq n3.out.symm)) n2.out) (fun _ hk => hk.2) (.string (rd_T99 fs i).f0)) (fun _ hk => hk.2) (.int .u8 (rd_T99 fs i).f1)) (fun _ _ => trivial : ∀ k, _ → True))
      have m5 := amk (blk_set (blk_set n1.out 0 (.string (rd_T99 fs i).f0)) 1 (.int .u8 (rd_T99 fs i).f1))
      generalize (w5.setCell ⟨gb, 0, none⟩ (.string (rd_T99 fs i).f0)).setCell ⟨gb, 1, none⟩ (.int .u8 (rd_T99 fs i).f1) = w6 at m1 m2 m3 m4 m5 ⊢
      clear n1 n2 n3 hcz0 hcz1 hfz0 hfz1 HL HM HB HV hlt0 hlt1 hgb hs
      have hzl : (ys ++ namesOf (fs.take i)).length = ys.length + i := by rw [List.length_append, HN.out]
      have HZL := amk hzl
      clear hzl
      obtain ⟨zs, hzs⟩ : ∃ zs, zs = ys ++ namesOf (fs.take i) := ⟨_, rfl⟩
      rw [← hzs] at m4 HZL
      have HZ := amk hzs
      clear hzs
      obtain ⟨Av, cv, e2⟩ := Kd.R_slice m4.out
      subst e2
      have hcb := blk_cell m5.out 0
      have hcm := blk_cell m2.out 0
      go_wp2_with (first | ((with_reducible refine gate_builtin (b := .append) (xs := #[.tmp 17, .tmp 20]) rfl ?_); at_builtin; refine Kd.R_append Kd.string (w0 := w) w.heap.size rfl (.tmp 17) (.tmp 20) 105 9 (.string ⟨#[]⟩) 16 rfl Try.underlying105 info9 rfl (by decide) (by omega) (.slice Av zs.length cv) zs ((rd_T99 fs i).f0) [.string ((rd_T99 fs i).f0)] (fun _ => True) (fun _ => False) rfl rfl ?aP (fun _ hk => hk.elim) ?aF ?aO ?aB ?aS ?aL ?_; (case aP => exact rfl); (case aB => exact m3.out); (case aF => exact (fun _ _ => trivial)); (case aO => exact m4.out); (case aS => exact m3.out.size); (case aL => have := HLIM.out; have h8 := HZL.out; omega); intro v1 w1 ho hb hg hat; obtain ⟨Aw, cw, e7⟩ := Kd.R_slice ho; subst e7; rw [List.length_append, List.length_singleton] at ho; have hI1 := blk_grown m2.out hg (Kd.R_ne m4.out m2.out (by decide)); have hI0 := blk_grown m1.out hg (Kd.R_ne m4.out m1.out (by decide)); have hc1 := blk_cell hI1 0; have hf1 := bkf hI1 0; have HI1 := amk hI1; have HI0 := amk hI0; have HO := amk ho; have HB := amk hb; clear hI1 hI0 ho hb hg hat))
      go_roundw
      case rel => exact ⟨i + 1, rfl, by omega, ⟨HB.out.setCell HG1.out _⟩, ⟨blk_far HI0.out (by simpa using hne) _⟩, _, ⟨blk_set HI1.out 0 _⟩, ⟨by rw [HX.out, ← List.append_assoc, ← HZ.out]; exact Kd.R_set HO.out HI1.out (by decide) _ _⟩⟩
      case measure => simp [intOf]; omega
    · have c1b : decide ((i : Int) < (fs.length : Int)) = false := decide_eq_false c1
      have e9 : fs.take i = fs := List.take_of_length_le (by omega)
      rw [e9] at HV
      go_wp2
      go_ret
      exact ⟨rfl, HB.out, HL.out, v1, HM.out, HV.out⟩

def metOf (l : List S64) (line : List Int) : List ByteArray := line.flatMap fun u => namesOf (rd_T64 l u).f2
def types_fields.l0 : Nat → List S64 → List S99 → Nat → List ByteArray → Option Int
  | 0, _, _, _, _ => none
  | k + 1, l, fs, i, met => if i < fs.length then ((wire_IsName.f k (rd_T99 fs i).f0).bind fun a => if a = true then ((slices_Contains_string_string.f k met (rd_T99 fs i).f0).bind fun b => if b = true then some 20 else ((types_stored.f l (rd_T99 fs i).f1).bind fun c => if c = true then (if met.length < 8796093022208 then types_fields.l0 k l fs (i + 1) (met ++ [(rd_T99 fs i).f0]) else none) else some 22)) else some 6) else some (if (met.length : Int) > 32 then 4 else 0)
def types_fields.f (k : Nat) (l : List S64) (c : Int) : Option Int :=
  if 0 ≤ c ∧ c < (l.length : Int) ∧ (metOf l (climbL l (rd_T64 l c).f1)).length < 8796093022208 then types_fields.l0 k l (rd_T64 l c).f2 0 (metOf l (climbL l (rd_T64 l c).f1)) else none
structure FieldsMet (w : World) (A0 : Option Addr) (c0 : Nat) (l : List S64) (r : List ByteArray) (xs : List Int) (W : World) : Prop where
  below : Below w.heap.size w W
  lies : W.heap[w.heap.size]? = some (.cells #[.slice A0 l.length c0] 22 (0, 0))
  met : ∃ (v : Value) (ys : List ByteArray), W.heap[w.heap.size + 1]? = some (.cells #[v] 105 (0, 0)) ∧ Kd.R Kd.string 9 W w.heap.size (fun _ => True) v ys ∧ ys ++ metOf l xs = r
theorem FieldsMet.drew {w : World} {A0 : Option Addr} {c0 : Nat} {l : List S64} {r : List ByteArray} {xs : List Int} {W : World} (h : FieldsMet w A0 c0 l r xs W) : FieldsMet w A0 c0 l r xs W.drew :=
  ⟨bdr h.below, blk_drew h.lies, by obtain ⟨v, ys, h1, h2, h3⟩ := h.met; exact ⟨v, ys, blk_drew h1, Kd.R_drew h2, h3⟩⟩
theorem FieldsMet.drewN {w : World} {A0 : Option Addr} {c0 : Nat} {l : List S64} {r : List ByteArray} {xs : List Int} {W : World} (h : FieldsMet w A0 c0 l r xs W) (m : Nat) : FieldsMet w A0 c0 l r xs (W.drewN m) :=
  ⟨pbd h.below m, bkd h.lies m, by obtain ⟨v, ys, h1, h2, h3⟩ := h.met; exact ⟨v, ys, bkd h1 m, Kd.R_drewN h2 m, h3⟩⟩
theorem FieldsMet.both {w : World} {A0 : Option Addr} {c0 : Nat} {l : List S64} {r : List ByteArray} {W : World} {p : Addr} {u : Value} (hp : w.cell? p = some u) (h : ∃ xs, FieldsMet w A0 c0 l r xs W) : W.cell? ⟨w.heap.size, 0, none⟩ = some (.slice A0 l.length c0) ∧ W.cell? p = some u ∧ ∃ xs, FieldsMet w A0 c0 l r xs W := by
  obtain ⟨xs, h⟩ := h
  exact ⟨blk_cell h.lies 0, (h.below.cell (blc w _ hp)).trans hp, xs, h⟩
structure FieldsAt (w : World) (A0 : Option Addr) (c0 : Nat) (l : List S64) (v : Value) (zs : List ByteArray) (W : World) : Prop where
  below : Below w.heap.size w W
  lies : W.heap[w.heap.size]? = some (.cells #[.slice A0 l.length c0] 22 (0, 0))
  met : W.heap[w.heap.size + 1]? = some (.cells #[v] 105 (0, 0))
  row : Kd.R Kd.string 9 W w.heap.size (fun _ => True) v zs
theorem FieldsAt.drewN {w : World} {A0 : Option Addr} {c0 : Nat} {l : List S64} {v : Value} {zs : List ByteArray} {W : World} (h : FieldsAt w A0 c0 l v zs W) (m : Nat) : FieldsAt w A0 c0 l v zs (W.drewN m) :=
  ⟨pbd h.below m, bkd h.lies m, bkd h.met m, Kd.R_drewN h.row m⟩
theorem FieldsAt.box {w : World} {A0 : Option Addr} {c0 : Nat} {l : List S64} {v : Value} {zs : List ByteArray} {W W5 : World} (h : FieldsAt w A0 c0 l v zs W) {gb : Nat} (hg : gb = W.heap.size) (hb : Below W.heap.size W W5) (s t : Value) : FieldsAt w A0 c0 l v zs ((W5.setCell ⟨gb, 0, none⟩ s).setCell ⟨gb, 1, none⟩ t) := by
  have hlt0 := blk_lt h.lies
  have hlt1 := blk_lt h.met
  have hs := h.below.size
  exact ⟨((below_step h.below hb).setCell (p := ⟨gb, 0, none⟩) (by simp; omega) s).setCell (p := ⟨gb, 1, none⟩) (by simp; omega) t,
    blk_far (blk_far (blk_below h.lies hb) (p := ⟨gb, 0, none⟩) (by simp; omega) s) (p := ⟨gb, 1, none⟩) (by simp; omega) t,
    blk_far (blk_far (blk_below h.met hb) (p := ⟨gb, 0, none⟩) (by simp; omega) s) (p := ⟨gb, 1, none⟩) (by simp; omega) t,
    Kd.R_mono (Kd.R_far (p := ⟨gb, 1, none⟩) (Kd.R_far (p := ⟨gb, 0, none⟩) (Kd.R_below (Kd.R_elderB h.row gb (Nat.le_of_eq hg.symm)) hb) (fun _ hk => hk.2) s) (fun _ hk => hk.2) t) (fun _ _ => trivial : ∀ k, _ → True)⟩
set_option maxHeartbeats 3200000 in
set_option maxRecDepth 100000 in
theorem types_fields.calls (k : Nat) (A0 : Option Addr) (c0 : Nat) (l0 : List S64) (a1 : Int) (r : Int) (w : World) (hr0 : Kd.C k64 w A0 l0.length l0) (hc0 : l0.length ≤ c0) (h : types_fields.f k l0 a1 = some r) :
    Calls Try.prog 68 #[.slice A0 l0.length c0, .int .i64 a1] w fun e w' => e = .returned (.int .i64 r) ∧ Below w.heap.size w w' := by
  have hmf : ∀ (fn : Fn) (first cap : Array Value) (w : World), (Instr.makeFunc fn first cap).run Try.prog w = .ok (.func fn first cap) w := fun _ _ _ _ => rfl
  obtain ⟨h0, h1, hlim, hres⟩ : 0 ≤ a1 ∧ a1 < (l0.length : Int) ∧ (metOf l0 (climbL l0 (rd_T64 l0 a1).f1)).length < 8796093022208 ∧ types_fields.l0 k l0 (rd_T64 l0 a1).f2 0 (metOf l0 (climbL l0 (rd_T64 l0 a1).f1)) = some r := by
    unfold types_fields.f at h
    split at h
    · rename_i h9
      exact ⟨h9.1, h9.2.1, h9.2.2, h⟩
    · cases h
  have HR := amk hr0
  have HC := amk hc0
  have HRES := amk hres
  have HLIM := amk hlim
  obtain ⟨ad2, A2, c2, e1, _, hy2, hx2, hl2, hi2⟩ := at_T64 hr0 a1 h0 h1
  cases e1
  have HY := amk hy2
  have HX := amk hx2
  have HF := amk hi2
  have HFC := amk hl2
  have p1 := eq_true h0
  have p2 := eq_true h1
  clear hr0 hc0 h hlim hres hy2 hx2 hl2 hi2
  go_enter Try.func68, Try.ntmps68
  go_wp2_with fail
  obtain ⟨line, hline⟩ : ∃ line, line = climbL l0 (rd_T64 l0 a1).f1 := ⟨_, rfl⟩
  have hM0 : FieldsMet w (some ad2) c0 l0 (metOf l0 line) line ((w.alloc (.cells #[.slice (some ad2) l0.length c0] 22)).alloc (.cells #[.slice none 0 0] 105)) :=
    ⟨bal (bal (Below.refl _ _) _) _, bka (blk_new _ _) _, .slice none 0 0, [], by
      have := blk_new (w.alloc (.cells #[.slice (some ad2) l0.length c0] 22)) (.cells #[.slice none 0 0] 105)
      simpa using this, Kd.R_nil _ _ _ _ _, rfl⟩
  rw [← hline] at HLIM HRES
  generalize (w.alloc (.cells #[.slice (some ad2) l0.length c0] 22)).alloc (.cells #[.slice none 0 0] 105) = w2 at hM0 ⊢
  have hcall : ∀ W, FieldsMet w (some ad2) c0 l0 (metOf l0 line) line W → Calls Try.prog 107 #[.slice (some ad2) l0.length c0, .int .i64 (rd_T64 l0 a1).f1, .func (.func 108) #[] #[.pointer (some ⟨w.heap.size, 0, none⟩), .pointer (some ⟨w.heap.size + 1, 0, none⟩)]] W fun e W' => e = .returned (.tuple #[]) ∧ FieldsMet w (some ad2) c0 l0 (metOf l0 line) [] W' := fun W hW => by
    have hmem := climbL_mem l0 (rd_T64 l0 a1).f1
    rw [← hline] at hmem
    refine (climb_any 108 _ (some ad2) c0 l0 w HR.out (fun xs W => FieldsMet w (some ad2) c0 l0 (metOf l0 line) xs W ∧ ∀ x ∈ xs, 0 ≤ x ∧ x < (l0.length : Int)) (FieldsMet w (some ad2) c0 l0 (metOf l0 line) []) (fun _ _ h => h.1.below) (fun _ h => h.1) ?_ (callFunc_run Try.func108 (by kernel_rfl) (by kernel_rfl)) _ W (by rw [← hline]; exact ⟨hW, hmem⟩))
    rintro x xs W ⟨⟨g1, g2, v, ys, g3, g4, g5⟩, g6⟩
    have hx := g6 x List.mem_cons_self
    have hcons : metOf l0 (x :: xs) = namesOf (rd_T64 l0 x).f2 ++ metOf l0 xs := rfl
    rw [hcons, ← List.append_assoc] at g5
    have hlen := congrArg List.length g5
    rw [List.length_append, List.length_append] at hlen
    have hnl : (namesOf (rd_T64 l0 x).f2).length = (rd_T64 l0 x).f2.length := by unfold namesOf; rw [List.length_map]
    have := HLIM.out
    refine (types_fields_step w (some ad2) c0 l0 HR.out w.heap.size (w.heap.size + 1) (Nat.le_refl _) (Nat.le_succ _) (by omega) x hx.1 hx.2 ys v W g1 g2 g3 g4 (by omega)).mono ?_
    rintro e W' ⟨rfl, k1, k2, v1, k3, k4⟩
    exact .inl ⟨rfl, ⟨k1, k2, v1, _, k3, k4, g5⟩, fun y hy => g6 y (List.mem_cons_of_mem _ hy)⟩
  have HCALL := amk hcall
  clear hcall
  have hS1 := blk_cell hM0.lies 0
  have hY2 := (hM0.below.cell (blc w _ HY.out)).trans HY.out
  go_region_held3 (fun w' => w'.cell? ⟨w.heap.size, 0, none⟩ = some (.slice (some ad2) l0.length c0) ∧ w'.cell? ⟨(ad2.add (a1.toNat * 3)).block, (ad2.add (a1.toNat * 3)).off + 1, none⟩ = some (.int .i64 (rd_T64 l0 a1).f1) ∧ ∃ xs, FieldsMet w (some ad2) c0 l0 (metOf l0 line) xs w')
    (first | (refine FieldsMet.both HY.out ?_; (first | exact ⟨_, hfin⟩ | (refine ⟨line, ?_⟩; (repeat (first | exact hM0 | refine FieldsMet.drew ?_ | refine FieldsMet.drewN ?_ _))))))
    (first | (go_at_call 107; (with_reducible refine (HCALL.out _ ?hr1).mono ?_); (case hr1 => (repeat (first | exact hM0 | refine FieldsMet.drew ?_ | refine FieldsMet.drewN ?_ _))); rintro e w9 ⟨rfl, hfin⟩))
  obtain ⟨g1, g2, v0, zs0, g3, g4, g5⟩ := hfin
  have g6 : zs0 = metOf l0 line := by rw [← g5]; exact (List.append_nil _).symm
  subst g6
  have hAt : FieldsAt w (some ad2) c0 l0 v0 (metOf l0 line) w9 := ⟨g1, g2, g3, g4⟩
  have HAT := amk hAt
  have hcL := blk_cell g2 0
  obtain ⟨fs, hfs⟩ : ∃ fs, fs = (rd_T64 l0 a1).f2 := ⟨_, rfl⟩
  rw [← hfs] at HX HF HFC HRES
  have hX2 := (g1.cell (blc w _ HX.out)).trans HX.out
  have hlen : fs.length ≤ 9223372036854775807 := HF.out.2.1
  clear hfs hline hS1 hY2 g1 g2 g3 g4 g5 hM0 HCALL HLIM hAt
  go_wp2
  go_loopw [22] (fun v22 wr => ∃ (i kq : Nat) (zs : List ByteArray) (v : Value), v22 = .int .i64 (i : Int) ∧ i ≤ fs.length ∧ Aside0 (types_fields.l0 kq l0 fs i zs = some r) ∧ Aside0 (FieldsAt w (some ad2) c0 l0 v zs wr)) (fun v22 _ => ((fs.length : Int) - intOf v22).toNat)
  case atStart => exact ⟨0, k, _, _, rfl, Nat.zero_le _, HRES, HAT⟩
  case round =>
    obtain ⟨i, kq, zs, v, rfl, hi, HH, HAT⟩ := hrel
    cases kq with
    | zero => exact absurd HH.out (by simp [types_fields.l0])
    | succ kq =>
    have H := HH.out
    clear HH
    unfold types_fields.l0 at H
    obtain ⟨Av, cv, e5⟩ := Kd.R_slice HAT.out.row
    subst e5
    by_cases c1 : i < fs.length
    · rw [if_pos c1] at H
      have c1b : decide ((i : Int) < (fs.length : Int)) = true := decide_eq_true (by omega)
      obtain ⟨b1, B1, H⟩ := Option.bind_eq_some_iff.mp H
      have HB1 := amk B1
      have HH := amk H
      clear B1 H
      obtain ⟨ad3, e3, hx0, hx1⟩ := at_T99 HF.out (i : Int) (by omega) (by omega)
      cases e3
      replace hx0 := (HAT.out.below.cell (blc w _ hx0)).trans hx0
      replace hx1 := (HAT.out.below.cell (blc w _ hx1)).trans hx1
      simp only [Int.toNat_natCast] at hx0 hx1
      have p5 : (0 ≤ (i : Int)) = True := eq_true (by omega)
      have p6 : ((i : Int) < (fs.length : Int)) = True := eq_true (by omega)
      go_upto_region 6 with (first | ((with_reducible refine gate_dst (N := 7) rfl ?_); refine box_event ?hg (N := 7) ?hd (cs := #[.string (⟨#[]⟩ : ByteArray), .int .u8 0]) (t := 99) ?hr ?_; (case hd => rfl); (case hg => rfl); (case hr => first | (go_simp; done) | (go_simp; rfl)); intro gb hg w5 hbox hb; have n1 := amk hbox; have n2 := amk hb; have n3 := amk hg; have hcz0 := blk_cell hbox 0; have hcz1 := blk_cell hbox 1; have hfz0 := bkf hbox 0; have hfz1 := bkf hbox 1; clear hbox hb hg))
      have hA := HAT.out.box n3.out n2.out (.string (rd_T99 fs i).f0) (.int .u8 (rd_T99 fs i).f1)
      have m5 := blk_set (blk_set n1.out 0 (.string (rd_T99 fs i).f0)) 1 (.int .u8 (rd_T99 fs i).f1)
      generalize (w5.setCell ⟨gb, 0, none⟩ (.string (rd_T99 fs i).f0)).setCell ⟨gb, 1, none⟩ (.int .u8 (rd_T99 fs i).f1) = w6 at hA m5 ⊢
      clear n1 n2 n3 hcz0 hcz1 hfz0 hfz1 hx0 hx1 HAT
      have HAT := amk hA
      have M5 := amk m5
      have hcb0 := blk_cell m5 0
      clear hA m5
      go_wp2_with fail
      refine (wire_IsName.calls kq _ b1 _ HB1.out).mono ?_
      rintro e w7 ⟨rfl, m, rfl⟩
      have hA := HAT.out.drewN m
      have m5 := bkd M5.out m
      generalize w6.drewN m = w7 at hA m5 ⊢
      clear HAT M5 hcb0
      have HAT := amk hA
      have M5 := amk m5
      clear hA m5
      by_cases d1 : b1 = true
      · subst d1
        have H := HH.out
        rw [if_pos rfl] at H
        obtain ⟨b2, B2, H⟩ := Option.bind_eq_some_iff.mp H
        have HB2 := amk B2
        clear HH
        have HH := amk H
        clear B2 H
        have hcb0 := blk_cell M5.out 0
        have hcm := blk_cell HAT.out.met 0
        go_wp2_with fail
        refine (slices_Contains_string_string.calls kq Av cv zs _ b2 _ (Kd.R_reads' HAT.out.row).2.2 (Kd.R_reads' HAT.out.row).2.1 HB2.out).mono ?_
        rintro e w8 ⟨rfl, m, rfl⟩
        have hA := HAT.out.drewN m
        have m5 := bkd M5.out m
        generalize w7.drewN m = w8 at hA m5 ⊢
        clear HAT M5 hcb0 hcm
        have HAT := amk hA
        have M5 := amk m5
        clear hA m5
        by_cases d2 : b2 = true
        · subst d2
          have H := HH.out
          rw [if_pos rfl] at H
          obtain rfl := Option.some.inj H
          clear H HH
          go_wp2
          go_ret
          exact ⟨rfl, HAT.out.below⟩
        · replace d2 := Bool.eq_false_iff.mpr d2
          subst d2
          have H := HH.out
          rw [if_neg (by decide)] at H
          obtain ⟨b3, B3, H⟩ := Option.bind_eq_some_iff.mp H
          have HB3 := amk B3
          clear HH
          have HH := amk H
          clear B3 H
          have hcb1 := blk_cell M5.out 1
          have hcl := blk_cell HAT.out.lies 0
          go_wp2_with fail
          refine (types_stored.calls (some ad2) c0 l0 _ b3 _ (Kd.C_below HR.out HAT.out.below) HC.out HB3.out).mono ?_
          rintro e w9 ⟨rfl, m, rfl⟩
          have hA := HAT.out.drewN m
          have m5 := bkd M5.out m
          generalize w8.drewN m = w9 at hA m5 ⊢
          clear HAT M5 hcb1 hcl
          have HAT := amk hA
          have M5 := amk m5
          clear hA m5
          by_cases d3 : b3 = true
          · subst d3
            have H := HH.out
            rw [if_pos rfl] at H
            by_cases d4 : zs.length < 8796093022208
            · rw [if_pos d4] at H
              have HLIM := amk d4
              clear HH d4
              have HH := amk H
              clear H
              have hcb0 := blk_cell M5.out 0
              have hcm := blk_cell HAT.out.met 0
              go_wp2_with (first | ((with_reducible refine gate_builtin (b := .append) (xs := #[.tmp 42, .tmp 45]) rfl ?_); at_builtin; refine Kd.R_append Kd.string (w0 := w) w.heap.size rfl (.tmp 42) (.tmp 45) 105 9 (.string ⟨#[]⟩) 16 rfl Try.underlying105 info9 rfl (by decide) (by omega) (.slice Av zs.length cv) zs ((rd_T99 fs i).f0) [.string ((rd_T99 fs i).f0)] (fun _ => True) (fun _ => False) rfl rfl ?aP (fun _ hk => hk.elim) ?aF ?aO ?aB ?aS ?aL ?_; (case aP => exact rfl); (case aB => exact HAT.out.below); (case aF => exact (fun _ _ => trivial)); (case aO => exact HAT.out.row); (case aS => exact HAT.out.below.size); (case aL => have h8 := HLIM.out; omega); intro v1 w1 ho hb hg hat; obtain ⟨Aw, cw, e7⟩ := Kd.R_slice ho; subst e7; rw [List.length_append, List.length_singleton] at ho; have hI1 := blk_grown HAT.out.met hg (Kd.R_ne HAT.out.row HAT.out.met (by decide)); have hI0 := blk_grown HAT.out.lies hg (Kd.R_ne HAT.out.row HAT.out.lies (by decide)); have hc1 := blk_cell hI1 0; have hf1 := bkf hI1 0; have HI1 := amk hI1; have HI0 := amk hI0; have HO := amk ho; have HB := amk hb; clear hI1 hI0 ho hb hg hat))
              go_roundw
              case rel => exact ⟨i + 1, kq, _, _, rfl, by omega, HH, ⟨HB.out.setCell (Nat.le_succ _) _, blk_far HI0.out (by simp) _, blk_set HI1.out 0 _, Kd.R_set HO.out HI1.out (by decide) _ _⟩⟩
              case measure => simp [intOf]; omega
            · rw [if_neg d4] at H
              cases H
          · replace d3 := Bool.eq_false_iff.mpr d3
            subst d3
            have H := HH.out
            rw [if_neg (by decide)] at H
            obtain rfl := Option.some.inj H
            clear H HH
            go_wp2
            go_ret
            exact ⟨rfl, HAT.out.below⟩
      · replace d1 := Bool.eq_false_iff.mpr d1
        subst d1
        have H := HH.out
        rw [if_neg (by decide)] at H
        obtain rfl := Option.some.inj H
        clear H HH
        go_wp2
        go_ret
        exact ⟨rfl, HAT.out.below⟩
    · rw [if_neg c1] at H
      have c1b : decide ((i : Int) < (fs.length : Int)) = false := decide_eq_false (by omega)
      have hcm := blk_cell HAT.out.met 0
      by_cases d1 : (zs.length : Int) > 32
      · have d1b : decide ((32 : Int) < (zs.length : Int)) = true := decide_eq_true d1
        have d1c : decide (32 < zs.length) = true := decide_eq_true (by omega)
        rw [if_pos d1] at H
        obtain rfl := Option.some.inj H
        clear d1 H
        go_wp2
        go_ret
        exact ⟨rfl, HAT.out.below⟩
      · have d1b : decide ((32 : Int) < (zs.length : Int)) = false := decide_eq_false d1
        have d1c : decide (32 < zs.length) = false := decide_eq_false (by omega)
        rw [if_neg d1] at H
        obtain rfl := Option.some.inj H
        clear d1 H
        go_wp2
        go_ret
        exact ⟨rfl, HAT.out.below⟩

structure CheckAt (w : World) (gb : Nat) (x : S64) (A2 : Option Addr) (c2 : Nat) (W : World) : Prop where
  below : Below w.heap.size w W
  box : W.heap[gb]? = some (.cells #[.string x.f0, .int .i64 x.f1, .slice A2 x.f2.length c2] 64 (0, 0))
theorem CheckAt.drew {w : World} {gb : Nat} {x : S64} {A2 : Option Addr} {c2 : Nat} {W : World} (h : CheckAt w gb x A2 c2 W) : CheckAt w gb x A2 c2 W.drew := ⟨bdr h.below, blk_drew h.box⟩
theorem CheckAt.drewN {w : World} {gb : Nat} {x : S64} {A2 : Option Addr} {c2 : Nat} {W : World} (h : CheckAt w gb x A2 c2 W) (m : Nat) : CheckAt w gb x A2 c2 (W.drewN m) := ⟨pbd h.below m, bkd h.box m⟩
theorem CheckAt.step {w : World} {gb : Nat} {x : S64} {A2 : Option Addr} {c2 : Nat} {W W' : World} (h : CheckAt w gb x A2 c2 W) (hb : Below W.heap.size W W') : CheckAt w gb x A2 c2 W' := ⟨below_step h.below hb, blk_below h.box hb⟩
theorem CheckAt.both {w : World} {gb : Nat} {x : S64} {A2 : Option Addr} {c2 : Nat} {W : World} (h : CheckAt w gb x A2 c2 W) : W.cell? ⟨gb, 0, none⟩ = some (.string x.f0) ∧ CheckAt w gb x A2 c2 W := ⟨blk_cell h.box 0, h⟩
set_option maxHeartbeats 800000 in
set_option maxRecDepth 100000 in
theorem types_Check_step (w : World) (gb : Nat) (y : S64) (A3 : Option Addr) (c3 : Nat) (x : S64) (A2 : Option Addr) (c2 : Nat) (W : World) (h : CheckAt w gb y A3 c3 W) :
    Calls Try.prog 67 (#[.agg #[.string x.f0, .int .i64 x.f1, .slice A2 x.f2.length c2]] ++ #[.pointer (some ⟨gb, 0, none⟩)]) W fun e W' => e = .returned (.bool (x.f0.toList == y.f0.toList)) ∧ CheckAt w gb y A3 c3 W' := by
  have HB := amk h
  have hlt := blk_lt h.box
  have h2 := bka h.box (.cells #[.string x.f0, .int .i64 x.f1, .slice A2 x.f2.length c2] 64 (0, 0))
  have hc := blk_cell h2 0
  have H3 := amk (CheckAt.mk (bal h.below (.cells #[.string x.f0, .int .i64 x.f1, .slice A2 x.f2.length c2] 64 (0, 0))) h2)
  clear h h2
  show Calls Try.prog 67 #[.agg #[.string x.f0, .int .i64 x.f1, .slice A2 x.f2.length c2], .pointer (some ⟨gb, 0, none⟩)] W _
  go_enter Try.func67, Try.ntmps67
  go_wp2
  go_ret
  exact ⟨rfl, H3.out⟩
def types_Check.l0 : Nat → List S64 → Nat → Option (Int × Int)
  | 0, _, _ => none
  | k + 1, l, i => if i < l.length then ((if i ≥ 32 then some 4 else ((wire_IsName.f k (rd_T64 l i).f0).bind fun a => if a = true then (types_words.f.bind fun ws => (slices_Contains_string_string.f k ws (rd_T64 l i).f0).bind fun b => if b = true then some 6 else (if ((l.take i).any fun x => x.f0.toList == (rd_T64 l i).f0.toList) = true then some 20 else (if (rd_T64 l i).f1 < -1 ∨ (rd_T64 l i).f1 ≥ i then some 21 else types_fields.f k l i))) else some 6)).bind fun e => if e = 0 then types_Check.l0 k l (i + 1) else some ((i : Int), e)) else some (0, 0)
def types_Check.f (k : Nat) (l : List S64) : Option (Int × Int) := types_Check.l0 k l 0
theorem check_exit {K : Act → World → Prop} {Q : Exit → Act → World → Prop} {e : Exit} {a : Act} {W : World} (Pm : World → Prop) (hP : Pm W) (h : ∀ W', Pm W' → Exit.then K Q e a W') : Exit.then K Q e a W := h W hP
set_option maxHeartbeats 6400000 in
set_option maxRecDepth 100000 in
theorem types_Check.calls (k : Nat) (A0 : Option Addr) (c0 : Nat) (l0 : List S64) (r1 : Int) (r2 : Int) (w : World) (hr0 : Kd.C k64 w A0 l0.length l0) (hc0 : l0.length ≤ c0) (h : types_Check.f k l0 = some (r1, r2)) :
    Calls Try.prog 38 #[.slice A0 l0.length c0] w fun e w' => e = .returned (.tuple #[.int .i64 r1, .int .i64 r2]) ∧ Below w.heap.size w w' := by
  have hmf : ∀ (fn : Fn) (first cap : Array Value) (w : World), (Instr.makeFunc fn first cap).run Try.prog w = .ok (.func fn first cap) w := fun _ _ _ _ => rfl
  have HR := amk hr0
  have HC := amk hc0
  have hlen : l0.length ≤ 9223372036854775807 := hr0.2.1
  have HRES := amk h
  unfold types_Check.f at HRES
  clear hr0 hc0 h
  go_enter Try.func38, Try.ntmps38
  go_wp2
  go_loopw [9] (fun v9 wr => ∃ (i kq : Nat), v9 = .int .i64 (i : Int) ∧ i ≤ l0.length ∧ Aside0 (types_Check.l0 kq l0 i = some (r1, r2)) ∧ Aside0 (Below w.heap.size w wr)) (fun v9 _ => ((l0.length : Int) - intOf v9).toNat)
  case atStart => exact ⟨0, k, rfl, Nat.zero_le _, HRES, ⟨Below.refl _ _⟩⟩
  case round =>
    obtain ⟨i, kq, rfl, hi, HH, HB⟩ := hrel
    cases kq with
    | zero => exact absurd HH.out (by simp [types_Check.l0])
    | succ kq =>
    have H := HH.out
    clear HH
    unfold types_Check.l0 at H
    by_cases c1 : i < l0.length
    · rw [if_pos c1] at H
      have c1b : decide ((i : Int) < (l0.length : Int)) = true := decide_eq_true (by omega)
      obtain ⟨e0, E0, H⟩ := Option.bind_eq_some_iff.mp H
      have HE := amk E0
      have HH := amk H
      clear E0 H
      obtain ⟨ad, A2, c2, e1, hx0, hx1, hx2, hl2, hi2⟩ := at_T64 HR.out (i : Int) (by omega) (by omega)
      cases e1
      replace hx0 := (HB.out.cell (blc w _ hx0)).trans hx0
      replace hx1 := (HB.out.cell (blc w _ hx1)).trans hx1
      replace hx2 := (HB.out.cell (blc w _ hx2)).trans hx2
      simp only [Int.toNat_natCast] at hx0 hx1 hx2
      clear hl2 hi2
      have p5 : (0 ≤ (i : Int)) = True := eq_true (by omega)
      have p6 : ((i : Int) < (l0.length : Int)) = True := eq_true (by omega)
      go_upto_region 4 with (first | ((with_reducible refine gate_dst (N := 5) rfl ?_); refine box_event ?hg (N := 5) ?hd (cs := #[.string (⟨#[]⟩ : ByteArray), .int .i64 0, .slice none 0 0]) (t := 64) ?hr ?_; (case hd => rfl); (case hg => rfl); (case hr => first | (go_simp; done) | (go_simp; rfl)); intro gb hg w5 hbox hb; have n1 := amk hbox; have n2 := amk hb; have n3 := amk hg; have hcz0 := blk_cell hbox 0; have hcz1 := blk_cell hbox 1; have hcz2 := blk_cell hbox 2; have hfz0 := bkf hbox 0; have hfz1 := bkf hbox 1; have hfz2 := bkf hbox 2; clear hbox hb hg))
      have hs := HB.out.size
      have hgb := n3.out
      obtain ⟨x, hx⟩ : ∃ x, x = rd_T64 l0 (i : Int) := ⟨_, rfl⟩
      rw [← hx] at HE ⊢
      have hA : CheckAt w gb x A2 c2 (((w5.setCell ⟨gb, 0, none⟩ (.string x.f0)).setCell ⟨gb, 1, none⟩ (.int .i64 x.f1)).setCell ⟨gb, 2, none⟩ (.slice A2 x.f2.length c2)) :=
        ⟨(((below_step HB.out n2.out).setCell (p := ⟨gb, 0, none⟩) (by simp; omega) _).setCell (p := ⟨gb, 1, none⟩) (by simp; omega) _).setCell (p := ⟨gb, 2, none⟩) (by simp; omega) _, blk_set (blk_set (blk_set n1.out 0 (.string x.f0)) 1 (.int .i64 x.f1)) 2 (.slice A2 x.f2.length c2)⟩
      generalize ((w5.setCell ⟨gb, 0, none⟩ (.string x.f0)).setCell ⟨gb, 1, none⟩ (.int .i64 x.f1)).setCell ⟨gb, 2, none⟩ (.slice A2 x.f2.length c2) = w6 at hA ⊢
      have HX := amk hx
      clear hx n1 n2 n3 hcz0 hcz1 hcz2 hfz0 hfz1 hfz2 hx0 hx1 hx2 hs hgb
      by_cases q1 : i ≥ 32
      · have q1b : decide ((32 : Int) ≤ (i : Int)) = true := decide_eq_true (by omega)
        have hE := HE.out
        rw [if_pos q1] at hE
        obtain rfl := Option.some.inj hE
        have H := HH.out
        rw [if_neg (by decide)] at H
        obtain ⟨rfl, rfl⟩ := Prod.mk.inj (Option.some.inj H)
        clear hE H HH q1
        have HA := amk hA
        clear hA
        go_wp2
        go_ret2
        exact ⟨rfl, HA.out.below⟩
      · have q1b : decide ((32 : Int) ≤ (i : Int)) = false := decide_eq_false (by omega)
        have hE := HE.out
        rw [if_neg q1] at hE
        clear HE q1
        obtain ⟨b1, B1, hE⟩ := Option.bind_eq_some_iff.mp hE
        have HB1 := amk B1
        clear B1
        by_cases d1 : b1 = true
        · subst d1
          rw [if_pos rfl] at hE
          obtain ⟨ws, WS, hE⟩ := Option.bind_eq_some_iff.mp hE
          obtain ⟨b2, B2, hE⟩ := Option.bind_eq_some_iff.mp hE
          have HWS := amk WS
          have HB2 := amk B2
          have HE := amk hE
          clear WS B2 hE
          go_upto_region 8 with fail
          have hcb0 := blk_cell hA.box 0
          go_region_held3 (fun w' => w'.cell? ⟨gb, 0, none⟩ = some (.string x.f0) ∧ CheckAt w gb x A2 c2 w')
            (first | (refine CheckAt.both ?_; (repeat (first | exact hW | exact hA | refine CheckAt.drew ?_ | refine CheckAt.drewN ?_ _))))
            (first | (go_at_call 37; (with_reducible refine (wire_IsName.calls kq _ true _ HB1.out).mono ?_); rintro e w9 ⟨rfl, ⟨m, rfl⟩⟩) | (go_at_call 65; (with_reducible refine (types_words.calls ws _ HWS.out).mono ?_); rintro e w9 ⟨v0, rfl, hR, hb⟩; obtain ⟨Aw, cw, rfl⟩ := Kd.R_slice hR; have hW : CheckAt w gb x A2 c2 w9 := CheckAt.step (by (repeat (first | exact hA | refine CheckAt.drew ?_ | refine CheckAt.drewN ?_ _))) hb) | (go_at_call 64; (with_reducible refine (slices_Contains_string_string.calls kq Aw cw ws _ b2 _ ?hr1 (Kd.R_reads' hR).2.1 HB2.out).mono ?_); (case hr1 => (repeat (first | exact (Kd.R_reads' hR).2.2 | refine Kd.C_drew ?_ | refine Kd.C_drewN ?_ _))); rintro e w9 ⟨rfl, ⟨m, rfl⟩⟩))
          all_goals
            refine check_exit (fun W => CheckAt w gb x A2 c2 W) ?_ (fun w7 hA7 => ?_)
          any_goals (repeat (first | exact hW | exact hA | refine CheckAt.drew ?_ | refine CheckAt.drewN ?_ _))
          all_goals
            clear hA
            by_cases d2 : b2 = true
            · subst d2
              have hE := HE.out
              rw [if_pos rfl] at hE
              obtain rfl := Option.some.inj hE
              have H := HH.out
              rw [if_neg (by decide)] at H
              obtain ⟨rfl, rfl⟩ := Prod.mk.inj (Option.some.inj H)
              have HA := amk hA7
              clear hE H HH hA7
              go_wp2
              go_ret2
              exact ⟨rfl, HA.out.below⟩
            · replace d2 := Bool.eq_false_iff.mpr d2
              subst d2
              have hE := HE.out
              rw [if_neg (by decide)] at hE
              have HE := amk hE
              have HA := amk hA7
              clear hE hA7
              have p7 : (i ≤ c0) = True := eq_true (by have := HC.out; omega)
              go_wp2_with fail
              have hl9 : (l0.take i).length = i := by rw [List.length_take]; omega
              have hcall := contains_class 67 #[.pointer (some ⟨gb, 0, none⟩)] (some ad) c0 (l0.take i) w (Kd.C_take HR.out (m := i) (by omega)) (CheckAt w gb x A2 c2) (fun y => y.f0.toList == x.f0.toList) (fun _ h => h.below) (fun y A3 c3 W h => types_Check_step w gb x A2 c2 y A3 c3 W h) (callFunc_run Try.func67 (by kernel_rfl) (by kernel_rfl)) w7 HA.out
              rw [hl9] at hcall
              refine hcall.mono ?_
              clear hcall hl9
              rintro e w8 ⟨rfl, hA8⟩
              have hE := HE.out
              clear HA HE
              generalize ((l0.take i).any fun y => y.f0.toList == x.f0.toList) = b3 at hE ⊢
              by_cases d3 : b3 = true
              · subst d3
                rw [if_pos rfl] at hE
                obtain rfl := Option.some.inj hE
                have H := HH.out
                rw [if_neg (by decide)] at H
                obtain ⟨rfl, rfl⟩ := Prod.mk.inj (Option.some.inj H)
                have HA := amk hA8
                clear hE H HH hA8
                go_wp2
                go_ret2
                exact ⟨rfl, HA.out.below⟩
              · replace d3 := Bool.eq_false_iff.mpr d3
                subst d3
                rw [if_neg (by decide)] at hE
                have hcb1 := blk_cell hA8.box 1
                by_cases q2 : x.f1 < -1
                · rw [if_pos (.inl q2)] at hE
                  obtain rfl := Option.some.inj hE
                  have H := HH.out
                  rw [if_neg (by decide)] at H
                  obtain ⟨rfl, rfl⟩ := Prod.mk.inj (Option.some.inj H)
                  have q2b : decide (x.f1 < -1) = true := decide_eq_true q2
                  have HA := amk hA8
                  clear hE H HH hA8 q2
                  go_wp2
                  go_ret2
                  exact ⟨rfl, HA.out.below⟩
                · have q2b : decide (x.f1 < -1) = false := decide_eq_false q2
                  by_cases q3 : x.f1 ≥ (i : Int)
                  · rw [if_pos (.inr q3)] at hE
                    obtain rfl := Option.some.inj hE
                    have H := HH.out
                    rw [if_neg (by decide)] at H
                    obtain ⟨rfl, rfl⟩ := Prod.mk.inj (Option.some.inj H)
                    have q3b : decide ((i : Int) ≤ x.f1) = true := decide_eq_true q3
                    have HA := amk hA8
                    clear hE H HH hA8 q2 q3
                    go_wp2
                    go_ret2
                    exact ⟨rfl, HA.out.below⟩
                  · have q3b : decide ((i : Int) ≤ x.f1) = false := decide_eq_false q3
                    rw [if_neg (fun h => h.elim q2 q3)] at hE
                    have HE := amk hE
                    have HA := amk hA8
                    clear hE hA8 q2 q3
                    go_wp2_with fail
                    refine (types_fields.calls kq (some ad) c0 l0 (i : Int) e0 _ (Kd.C_below HR.out HA.out.below) HC.out HE.out).mono ?_
                    rintro e w9 ⟨rfl, hb9⟩
                    have HB9 := amk (below_step HA.out.below hb9)
                    clear hb9 hcb1
                    by_cases q4 : e0 = 0
                    · subst q4
                      have H := HH.out
                      rw [if_pos rfl] at H
                      have HH := amk H
                      clear H
                      go_wp2
                      go_roundw
                      case rel => exact ⟨i + 1, kq, rfl, by omega, HH, HB9⟩
                      case measure => simp [intOf]; omega
                    · have q4b : (e0 != 0) = true := bne_iff_ne.mpr q4
                      have q4c : (e0 == 0) = false := beq_eq_false_iff_ne.mpr q4
                      have H := HH.out
                      rw [if_neg q4] at H
                      obtain ⟨rfl, rfl⟩ := Prod.mk.inj (Option.some.inj H)
                      clear H HH
                      have Q4 := amk q4
                      clear q4
                      go_wp2
                      go_ret2
                      exact ⟨rfl, HB9.out⟩
        · replace d1 := Bool.eq_false_iff.mpr d1
          subst d1
          rw [if_neg (by decide)] at hE
          obtain rfl := Option.some.inj hE
          have H := HH.out
          rw [if_neg (by decide)] at H
          obtain ⟨rfl, rfl⟩ := Prod.mk.inj (Option.some.inj H)
          clear hE H HH
          go_upto_region 8 with fail
          have hcb0 := blk_cell hA.box 0
          have HA := amk hA
          clear hA
          go_quiet (first | (go_at_call 37; (with_reducible refine (wire_IsName.calls kq _ false _ HB1.out).mono ?_); rintro e w9 ⟨rfl, ⟨m, rfl⟩⟩; exact ⟨rfl, _, World.drewN_drewN _ _ _⟩))
          go_wp2
          go_ret2
          exact ⟨rfl, pbd HA.out.below _⟩
    · rw [if_neg c1] at H
      have c1b : decide ((i : Int) < (l0.length : Int)) = false := decide_eq_false (by omega)
      obtain ⟨rfl, rfl⟩ := Prod.mk.inj (Option.some.inj H)
      clear H
      go_wp2
      go_ret2
      exact ⟨rfl, HB.out⟩

set_option maxHeartbeats 800000 in
set_option maxRecDepth 100000 in
theorem contains_func (fid : Nat) (caps : Array Value) (A0 : Option Addr) (c0 : Nat) (l : List S49) (W0 : World) (hr : Kd.C k49 W0 A0 l.length l) (Inv : World → Prop) (p : S49 → Bool)
    (hB : ∀ W, Inv W → Below W0.heap.size W0 W)
    (hstep : ∀ (x : S49) (A1 : Option Addr) (c1 : Nat) (A4 : Option Addr) (c4 : Nat) (W : World), Inv W → Calls Try.prog fid (#[.agg #[.string x.f0, .slice A1 x.f1.f0.length c1, .int .u8 x.f1.f1, .int .i64 x.f2, .slice A4 x.f3.length c4]] ++ caps) W fun e W' => e = .returned (.bool (p x)) ∧ Inv W')
    (hcf : ∀ (vs : Array Value) (w : World), Sem.run Try.prog (callFunc fid vs) w = .ok (.enter fid vs) w)
    (W : World) (h0 : Inv W) :
    Calls Try.prog 71 #[.slice A0 l.length c0, .func (.func fid) #[] caps] W fun e W' => e = .returned (.bool (l.any p)) ∧ Inv W' := by
  have HC := amk (index_func fid caps A0 c0 l W0 hr Inv p hB hstep hcf W h0)
  have HA := amk (first_any_func p l l.length 0 (by omega))
  clear hr hB hstep hcf h0
  go_enter Try.func71, Try.ntmps71
  go_wp2_with fail
  refine HC.out.mono ?_
  rintro e w2 ⟨rfl, hI⟩
  have HI := amk hI
  have ha := HA.out
  rw [List.drop_zero] at ha
  clear hI HC HA
  generalize firstFromFunc p l l.length 0 = n at ha ⊢
  generalize hb : l.any p = b at ha ⊢
  have HB := amk hb
  clear hb
  go_wp2
  go_ret
  exact ⟨by rw [HB.out]; rfl, HI.out⟩

def firstFromType (p : Int → Bool) (l : List Int) : Nat → Nat → Int
  | 0, _ => -1
  | d + 1, i => if p (rd l i) = true then (i : Int) else firstFromType p l d (i + 1)
set_option maxHeartbeats 1600000 in
set_option maxRecDepth 100000 in
theorem index_type (fid : Nat) (caps : Array Value) (A0 : Option Addr) (c0 : Nat) (l : List Int) (W0 : World) (hr : Kd.C (Kd.int .u8) W0 A0 l.length l) (Inv : World → Prop) (p : Int → Bool)
    (hB : ∀ W, Inv W → Below W0.heap.size W0 W)
    (hstep : ∀ (x : Int) (W : World), Inv W → Calls Try.prog fid (#[.int .u8 x] ++ caps) W fun e W' => e = .returned (.bool (p x)) ∧ Inv W')
    (hcf : ∀ (vs : Array Value) (w : World), Sem.run Try.prog (callFunc fid vs) w = .ok (.enter fid vs) w)
    (W : World) (h0 : Inv W) :
    Calls Try.prog 111 #[.slice A0 l.length c0, .func (.func fid) #[] caps] W fun e W' => e = .returned (.int .i64 (firstFromType p l l.length 0)) ∧ Inv W' := by
  have HI := amk h0
  have HS := amk hstep
  have HB := amk hB
  have HR := amk hr
  have hlen : l.length ≤ 9223372036854775807 := hr.2.1
  clear h0 hstep hB hr
  go_enter Try.func111, Try.ntmps111
  go_wp2
  go_loopw [8] (fun v8 wr => ∃ i : Nat, v8 = .int .i64 (i : Int) ∧ i ≤ l.length ∧ Aside0 (firstFromType p l l.length 0 = firstFromType p l (l.length - i) i) ∧ Aside0 (Inv wr)) (fun v8 _ => ((l.length : Int) - intOf v8).toNat)
  case atStart => exact ⟨0, rfl, Nat.zero_le _, ⟨rfl⟩, HI⟩
  case round =>
    obtain ⟨i, rfl, hi, HF, HI⟩ := hrel
    by_cases c1 : i < l.length
    · have c1b : decide ((i : Int) < (l.length : Int)) = true := decide_eq_true (by omega)
      obtain ⟨ad, e1, hx0⟩ := Kd.at_int HR.out (i : Int) (by omega) (by omega)
      cases e1
      have hb := HB.out _ HI.out
      replace hx0 := (hb.cell (blc W0 _ hx0)).trans hx0
      simp only [Int.toNat_natCast] at hx0
      have p5 : (0 ≤ (i : Int)) = True := eq_true (by omega)
      have p6 : ((i : Int) < (l.length : Int)) = True := eq_true (by omega)
      have HN : Aside0 (firstFromType p l (l.length - i) i = if p (rd l i) = true then (i : Int) else firstFromType p l (l.length - (i + 1)) (i + 1)) := ⟨by
        obtain ⟨d, hd⟩ : ∃ d, l.length - i = d + 1 := ⟨l.length - i - 1, by omega⟩
        rw [hd, show l.length - (i + 1) = d by omega]
        rfl⟩
      clear hb
      go_wp2_with fail
      refine (HS.out (rd l i) _ HI.out).mono ?_
      rintro e w2 ⟨rfl, hI⟩
      clear HI
      have HI := amk hI
      clear hI hx0
      by_cases hp : p (rd l i) = true
      · rw [hp]
        have HP := amk hp
        clear hp
        go_wp2
        go_ret
        exact ⟨by rw [HF.out, HN.out, if_pos HP.out]; rfl, HI.out⟩
      · have HP := amk hp
        rw [Bool.eq_false_iff.mpr hp]
        clear hp
        go_wp2
        go_roundw
        case rel => exact ⟨i + 1, rfl, by omega, ⟨by rw [HF.out, HN.out, if_neg HP.out]⟩, HI⟩
        case measure => simp [intOf]; omega
    · have c1b : decide ((i : Int) < (l.length : Int)) = false := decide_eq_false (by omega)
      have HZ : Aside0 (l.length - i = 0) := ⟨by omega⟩
      go_wp2
      go_ret
      exact ⟨by rw [HF.out, HZ.out]; rfl, HI.out⟩
theorem first_any_type (p : Int → Bool) (l : List Int) : ∀ (d i : Nat), i + d = l.length → (decide (0 ≤ firstFromType p l d i)) = (l.drop i).any p
  | 0, i, h => by
    rw [List.drop_of_length_le (by omega)]
    rfl
  | d + 1, i, h => by
    have hi : i < l.length := by omega
    have hr : rd l (i : Int) = l[i] := by simp [rd, List.getD_eq_getElem?_getD, hi]
    rw [List.drop_eq_getElem_cons hi, List.any_cons, ← hr, ← first_any_type p l d (i + 1) (by omega)]
    show decide (0 ≤ (if p (rd l (i : Int)) = true then (i : Int) else firstFromType p l d (i + 1))) = _
    by_cases e : p (rd l i) = true
    · rw [if_pos e, e]
      simp
    · rw [if_neg e, Bool.eq_false_iff.mpr e]
      simp

set_option maxHeartbeats 800000 in
set_option maxRecDepth 100000 in
theorem contains_type (fid : Nat) (caps : Array Value) (A0 : Option Addr) (c0 : Nat) (l : List Int) (W0 : World) (hr : Kd.C (Kd.int .u8) W0 A0 l.length l) (Inv : World → Prop) (p : Int → Bool)
    (hB : ∀ W, Inv W → Below W0.heap.size W0 W)
    (hstep : ∀ (x : Int) (W : World), Inv W → Calls Try.prog fid (#[.int .u8 x] ++ caps) W fun e W' => e = .returned (.bool (p x)) ∧ Inv W')
    (hcf : ∀ (vs : Array Value) (w : World), Sem.run Try.prog (callFunc fid vs) w = .ok (.enter fid vs) w)
    (W : World) (h0 : Inv W) :
    Calls Try.prog 73 #[.slice A0 l.length c0, .func (.func fid) #[] caps] W fun e W' => e = .returned (.bool (l.any p)) ∧ Inv W' := by
  have HC := amk (index_type fid caps A0 c0 l W0 hr Inv p hB hstep hcf W h0)
  have HA := amk (first_any_type p l l.length 0 (by omega))
  clear hr hB hstep hcf h0
  go_enter Try.func73, Try.ntmps73
  go_wp2_with fail
  refine HC.out.mono ?_
  rintro e w2 ⟨rfl, hI⟩
  have HI := amk hI
  have ha := HA.out
  rw [List.drop_zero] at ha
  clear hI HC HA
  generalize firstFromType p l l.length 0 = n at ha ⊢
  generalize hb : l.any p = b at ha ⊢
  have HB := amk hb
  clear hb
  go_wp2
  go_ret
  exact ⟨by rw [HB.out]; rfl, HI.out⟩

end Go.Proofs.Ytdlmcjchnoeebaa.P

end

section
namespace Go.Proofs.Ytdlmcjchnoeebaa.P
open Go.RowKit Go.Proofs.YtdlmcjchnoeebaaW.PrintWords Go.Proofs.YtdlmcjchnoeebaaW.PrintLast Go.Proofs.YtdlmcjchnoeebaaW.PrintMore
attribute [local go_sem] max2_int min2_int max_two min_two max_three min_three max_four min_four   -- for this text's walks alone
set_option linter.unusedVariables false
set_option linter.unusedSimpArgs false

section
variable {P : Program} {ops : Array Oper} {rest : List Oper} {o : Oper} {a : Act} {Q : Exit → Act → World → Prop} {K : Act → World → Prop}
structure Rws (w0 : World) (l : List (Nat × TypeId × Array Value)) (W : World) : Prop where
  lies : ∀ p ∈ l, W.heap[p.1]? = some (.cells p.2.2 p.2.1 (0, 0)) ∧ w0.heap.size ≤ p.1
  ne : (l.map Prod.fst).Nodup
  below : Below w0.heap.size w0 W
theorem Rws.nil (w : World) : Rws w [] w := ⟨fun _ h => by simp at h, by simp, Below.refl _ _⟩
theorem Rws.step {w0 W W1 : World} {l : List (Nat × TypeId × Array Value)} (h : Rws w0 l W) (hb : Below W.heap.size W W1) : Rws w0 l W1 := ⟨fun p hp => ⟨blk_below (h.lies p hp).1 hb, (h.lies p hp).2⟩, h.ne, below_step h.below hb⟩
theorem Rws.drewN {w0 W : World} {l : List (Nat × TypeId × Array Value)} (h : Rws w0 l W) (m : Nat) : Rws w0 l (W.drewN m) := h.step (pbd (Below.refl _ _) m)
theorem Rws.mem {w0 W : World} {l : List (Nat × TypeId × Array Value)} (h : Rws w0 l W) {g : Nat} {t : TypeId} {cs : Array Value} (hm : (g, t, cs) ∈ l) : W.heap[g]? = some (.cells cs t (0, 0)) := (h.lies _ hm).1
theorem Rws.add {w0 W : World} {l : List (Nat × TypeId × Array Value)} (h : Rws w0 l W) (t : TypeId) (cs : Array Value) : Rws w0 ((W.heap.size, t, cs) :: l) (W.alloc (.cells cs t (0, 0))) := by
  have hb : Below W.heap.size W (W.alloc (.cells cs t (0, 0))) := bal (Below.refl _ _) _
  refine ⟨fun p hp => ?_, ?_, below_step h.below hb⟩
  · rcases List.mem_cons.1 hp with rfl | hp
    · exact ⟨blk_new W _, h.below.size⟩
    · exact ⟨blk_below (h.lies p hp).1 hb, (h.lies p hp).2⟩
  · rw [List.map_cons, List.nodup_cons]
    refine ⟨fun hm => ?_, h.ne⟩
    obtain ⟨p, hp, e⟩ := List.mem_map.1 hm
    have := blk_lt (h.lies p hp).1
    have e : p.1 = W.heap.size := e
    omega
theorem Rws.tail {w0 W : World} {p : Nat × TypeId × Array Value} {l : List (Nat × TypeId × Array Value)} (h : Rws w0 (p :: l) W) : Rws w0 l W := ⟨fun q hq => h.lies q (List.mem_cons_of_mem _ hq), (List.nodup_cons.1 h.ne).2, h.below⟩
theorem Rws.put {w0 W W1 : World} (l1 : List (Nat × TypeId × Array Value)) {l2 : List (Nat × TypeId × Array Value)} {g : Nat} {t : TypeId} {cs cs' : Array Value} (h : Rws w0 (l1 ++ (g, t, cs) :: l2) W) (hx : W1.heap[g]? = some (.cells cs' t (0, 0))) (hk : Kept W W1 (fun k => k = g)) (hb : ∀ (B : Nat) (w0 : World), B ≤ g → Below B w0 W → Below B w0 W1) : Rws w0 (l1 ++ (g, t, cs') :: l2) W1 := by
  have hn : ((l1 ++ (g, t, cs) :: l2).map Prod.fst) = ((l1 ++ (g, t, cs') :: l2).map Prod.fst) := by simp
  have hne := h.ne
  have hge := (h.lies (g, t, cs) (by simp)).2
  refine ⟨fun p hp => ?_, hn ▸ hne, hb _ _ hge h.below⟩
  have hnd : ∀ q ∈ l1 ++ l2, q.1 ≠ g := by
    rw [List.map_append, List.map_cons, List.nodup_append] at hne
    intro q hq e
    rcases List.mem_append.1 hq with hq | hq
    · exact hne.2.2 q.1 (List.mem_map.2 ⟨q, hq, rfl⟩) g (by simp) e
    · have := (List.nodup_cons.1 hne.2.1).1
      exact this (List.mem_map.2 ⟨q, hq, e⟩)
  rcases List.mem_append.1 hp with hp | hp
  · have hq := h.lies p (List.mem_append.2 (.inl hp))
    exact ⟨blk_kept hq.1 hk (fun e => hnd p (List.mem_append.2 (.inl hp)) e), hq.2⟩
  · rcases List.mem_cons.1 hp with rfl | hp
    · exact ⟨hx, hge⟩
    · have hq := h.lies p (List.mem_append.2 (.inr (List.mem_cons_of_mem _ hp)))
      exact ⟨blk_kept hq.1 hk (fun e => hnd p (List.mem_append.2 (.inr hp)) e), hq.2⟩
theorem rw_box (hgd : o.guard = none) (ty : TypeId) {x : Operand} (ho : o.op = .box ty x) {cs : Array Value} (hx : a.eval x = .agg cs) {w0 W : World} {l : List (Nat × TypeId × Array Value)} (hl : Rws w0 l W)
    (h : ∀ g w1, Rws w0 ((g, ty, cs) :: l) w1 → wpList P ops Q rest (a.put o.dst (.pointer (some ⟨g, 0, none⟩))) w1) : wpList P ops Q (o :: rest) a W :=
  Kd.event_run hgd (by
    unfold execOp
    simp only [ho, hx]
    simp [Instr.box, newVar, newRow, Value.cells, Sem.run_bind]) (h W.heap.size _ (hl.add ty cs))
theorem rw_alloc_wp (ty : TypeId) (ho : o.op = .alloc ty) {cs : Array Value} (hz : (P.info? ty).map (·.zero) = some (some (.agg cs))) {w0 W : World} {l : List (Nat × TypeId × Array Value)} (hl : Rws w0 l W)
    (h : ∀ g w1, g = W.heap.size → Rws w0 ((g, ty, cs) :: l) w1 → Below W.heap.size W w1 → K (a.put o.dst (.pointer (some ⟨g, 0, none⟩))) w1) : Oper.wp P o a W K Q := by
  have hrun : (execOp a.eval o).run P W = .ok (.value (.pointer (some ⟨W.heap.size, 0, none⟩))) (W.alloc (.cells cs ty (0, 0))) := by
    unfold execOp
    cases hq : P.info? ty with
    | none => simp [hq] at hz
    | some i =>
      have hs : i.zero = some (.agg cs) := by simpa [hq] using hz
      simp only [ho]
      simp [Instr.alloc, zeroValue, typeInfo, hq, hs, newVar, newRow, Value.cells, Sem.run_bind]
  have hw := h W.heap.size _ rfl (hl.add ty cs) (bal (Below.refl _ _) _)
  unfold Oper.wp
  rw [hrun]
  exact hw
theorem rw_store_wp (ty : TypeId) {x y : Operand} (ho : o.op = .store ty x y) {g : Nat} (hx : a.eval x = .pointer (some ⟨g, 0, none⟩)) {cs' : Array Value} (hy : a.eval y = .agg cs') {w0 W : World} (l1 : List (Nat × TypeId × Array Value)) {l2 : List (Nat × TypeId × Array Value)} {cs : Array Value} (hl : Rws w0 (l1 ++ (g, ty, cs) :: l2) W) (hi : (P.info? ty).map (·.size) = some cs'.size) (hs : cs.size = cs'.size) (h1 : cs'.all (·.oneCell') = true)
    (h : ∀ w1, Rws w0 (l1 ++ (g, ty, cs') :: l2) w1 → Kept W w1 (fun k => k = g) → K (a.put o.dst undef) w1) : Oper.wp P o a W K Q := by
  have hg := hl.mem (g := g) (t := ty) (cs := cs) (by simp)
  have hrun := run_storeVar_row W g ty ty cs cs' hg hi hs h1
  have hk : Kept W (W.setRow g cs') (fun k => k = g) := ⟨by simp, fun i _ hn => setRow_other W g i cs' hn⟩
  unfold Oper.wp execOp
  simp only [ho, hx, hy, Instr.storeAt, Instr.sureAddr, Sem.run_bind, Sem.run_pure, Result.andThen_ok, hrun]
  exact h _ (hl.put l1 (setRow_heap W g cs cs' ty (0, 0) hg) hk (fun B w0 hB hw => ⟨hw.os, hw.tape, hw.output, by simpa using hw.size, fun k hk => (setRow_other W g k cs' (by omega)).trans (hw.block k hk)⟩)) hk
end

structure CopyAt (B : Nat) (ok : Nat → Prop) (W : World) (v1 v2 v3 : Value) (l1 : List S64) (l2 : List S49) (l3 : List (List Int)) : Prop where
  r1 : Kd.R k64 64 W B ok v1 l1
  r2 : Kd.R k49 49 W B ok v2 l2
  r3 : Kd.R (Kd.slice 5 (Kd.int .u8)) 36 W B ok v3 l3
theorem CopyAt.s1 {B : Nat} {ok : Nat → Prop} {W : World} {v1 v2 v3 : Value} {l1 : List S64} {l2 : List S49} {l3 : List (List Int)} (h : CopyAt B ok W v1 v2 v3 l1 l2 l3) : ∃ A c, v1 = .slice A l1.length c := Kd.R_slice h.r1
theorem CopyAt.s2 {B : Nat} {ok : Nat → Prop} {W : World} {v1 v2 v3 : Value} {l1 : List S64} {l2 : List S49} {l3 : List (List Int)} (h : CopyAt B ok W v1 v2 v3 l1 l2 l3) : ∃ A c, v2 = .slice A l2.length c := Kd.R_slice h.r2
theorem CopyAt.s3 {B : Nat} {ok : Nat → Prop} {W : World} {v1 v2 v3 : Value} {l1 : List S64} {l2 : List S49} {l3 : List (List Int)} (h : CopyAt B ok W v1 v2 v3 l1 l2 l3) : ∃ A c, v3 = .slice A l3.length c := Kd.R_slice h.r3
theorem CopyAt.mono {B : Nat} {ok ok' : Nat → Prop} {W : World} {v1 v2 v3 : Value} {l1 : List S64} {l2 : List S49} {l3 : List (List Int)} (h : CopyAt B ok W v1 v2 v3 l1 l2 l3) (hk : ∀ k, ok k → ok' k) : CopyAt B ok' W v1 v2 v3 l1 l2 l3 := ⟨Kd.R_mono h.r1 hk, Kd.R_mono h.r2 hk, Kd.R_mono h.r3 hk⟩
theorem CopyAt.free {B : Nat} {ok : Nat → Prop} {W : World} {v1 v2 v3 : Value} {l1 : List S64} {l2 : List S49} {l3 : List (List Int)} (h : CopyAt B ok W v1 v2 v3 l1 l2 l3) : CopyAt B (fun _ => True) W v1 v2 v3 l1 l2 l3 := h.mono (fun _ _ => trivial)
theorem CopyAt.below {B : Nat} {ok : Nat → Prop} {W W1 : World} {v1 v2 v3 : Value} {l1 : List S64} {l2 : List S49} {l3 : List (List Int)} (h : CopyAt B ok W v1 v2 v3 l1 l2 l3) (hb : Below W.heap.size W W1) : CopyAt B ok W1 v1 v2 v3 l1 l2 l3 := ⟨Kd.R_below h.r1 hb, Kd.R_below h.r2 hb, Kd.R_below h.r3 hb⟩
theorem CopyAt.kept {B : Nat} {ok S : Nat → Prop} {W W1 : World} {v1 v2 v3 : Value} {l1 : List S64} {l2 : List S49} {l3 : List (List Int)} (h : CopyAt B ok W v1 v2 v3 l1 l2 l3) (hk : Kept W W1 S) (hn : ∀ k, ok k → ¬ S k) : CopyAt B (fun k => ok k ∧ (¬ S k ∧ k < W.heap.size)) W1 v1 v2 v3 l1 l2 l3 := ⟨Kd.R_keptB h.r1 hk hn, Kd.R_keptB h.r2 hk hn, Kd.R_keptB h.r3 hk hn⟩
theorem CopyAt.alloc {B : Nat} {gs : List Nat} {W W1 : World} {v1 v2 v3 : Value} {l1 : List S64} {l2 : List S49} {l3 : List (List Int)} (h : CopyAt B (fun k => k ∉ gs) W v1 v2 v3 l1 l2 l3) {g : Nat} (hg : g = W.heap.size) (hb : Below W.heap.size W W1) : CopyAt B (fun k => k ∉ g :: gs) W1 v1 v2 v3 l1 l2 l3 := by
  have hn : ∀ k, (k ∉ gs ∧ k < W.heap.size) → k ∉ g :: gs := fun k hk hm => by
    rcases List.mem_cons.1 hm with e | hm
    · omega
    · exact hk.1 hm
  exact CopyAt.below ⟨Kd.R_mono (Kd.R_bound h.r1) (fun k hk => hn k ⟨hk.1, hk.2.2.1⟩), Kd.R_mono (Kd.R_bound h.r2) (fun k hk => hn k ⟨hk.1, hk.2.2.1⟩), Kd.R_mono (Kd.R_bound h.r3) (fun k hk => hn k ⟨hk.1, hk.2.2.1⟩)⟩ hb
end Go.Proofs.Ytdlmcjchnoeebaa.P

end

section
namespace Go.Proofs.Ytdlmcjchnoeebaa.P
open Go.RowKit Go.Proofs.YtdlmcjchnoeebaaW.PrintWords Go.Proofs.YtdlmcjchnoeebaaW.PrintLast Go.Proofs.YtdlmcjchnoeebaaW.PrintMore
attribute [local go_sem] max2_int min2_int max_two min_two max_three min_three max_four min_four   -- for this text's walks alone
set_option linter.unusedVariables false
set_option linter.unusedSimpArgs false

section
variable {P : Program} {ops : Array Oper} {rest : List Oper} {o : Oper} {a : Act} {Q : Exit → Act → World → Prop}
theorem rw_alloc (hgd : o.guard = none) (ty : TypeId) (ho : o.op = .alloc ty) {cs : Array Value} (hz : (P.info? ty).map (·.zero) = some (some (.agg cs))) {w0 W : World} {l : List (Nat × TypeId × Array Value)} (hl : Rws w0 l W)
    (h : ∀ g w1, Rws w0 ((g, ty, cs) :: l) w1 → wpList P ops Q rest (a.put o.dst (.pointer (some ⟨g, 0, none⟩))) w1) : wpList P ops Q (o :: rest) a W :=
  wpList_plain hgd fun _ hK => rw_alloc_wp ty ho hz hl (fun g w1 _ hX _ => hK _ _ (h g w1 hX))
theorem rw_store (hgd : o.guard = none) (ty : TypeId) {x y : Operand} (ho : o.op = .store ty x y) {g : Nat} (hx : a.eval x = .pointer (some ⟨g, 0, none⟩)) {cs' : Array Value} (hy : a.eval y = .agg cs') {w0 W : World} (l1 : List (Nat × TypeId × Array Value)) {l2 : List (Nat × TypeId × Array Value)} {cs : Array Value} (hl : Rws w0 (l1 ++ (g, ty, cs) :: l2) W) (hi : (P.info? ty).map (·.size) = some cs'.size) (hs : cs.size = cs'.size) (h1 : cs'.all (·.oneCell') = true)
    (h : ∀ w1, Rws w0 (l1 ++ (g, ty, cs') :: l2) w1 → wpList P ops Q rest (a.put o.dst undef) w1) : wpList P ops Q (o :: rest) a W :=
  wpList_plain hgd fun _ hK => rw_store_wp ty ho hx hy l1 hl hi hs h1 (fun w1 hX _ => hK _ _ (h w1 hX))
end
def classOf (l : List S64) (a : Int) : Int := if a < 16 then -1 else if (a - 16) % 256 ≥ (l.length : Int) then -1 else (a - 16) % 256
theorem class_is (l : List S64) (a : Int) : types_class.f l a = some (classOf l a) := by
  unfold types_class.f classOf
  split
  · rfl
  · split <;> rfl
def oddB (l : List S64) (t : Int) : Bool := !((module_stored.f l t).getD false)
theorem stored_total (l : List S64) (t : Int) : ∃ b, module_stored.f l t = some b := by
  unfold module_stored.f types_Valid.f types_class.f
  repeat' split
  all_goals first
    | exact ⟨_, rfl⟩
    | (simp only [Option.bind_some]; repeat' split) <;> exact ⟨_, rfl⟩
def function_tail (x : S49) : Int := if x.f2 < (x.f1.f0.length : Int) then 5 else if x.f2 > 16 then 5 else if x.f3.length = 0 then 2 else if x.f3.length > 4096 then 4 else 0
def function_all (nm : Bool) (l0_1 : List S64) (before : List S49) (x : S49) : Int :=
  if nm = true then (if before.any (fun y => y.f0.toList == x.f0.toList) = true then 20 else if x.f1.f0.length > 8 then 4 else if x.f1.f0.any (oddB l0_1) = true then 22 else if x.f1.f1 = 0 then function_tail x else if oddB l0_1 x.f1.f1 = true then 22 else function_tail x) else 6
def module_function.f (k : Nat) (a0_0 : ByteArray) (l0_1 : List S64) (l0_2 : List S49) (l0_3 : List (List Int)) (a1 : Int) : Option Int :=
  if 0 ≤ a1 then (if a1 < (l0_2.length : Int) then ((wire_IsName.f k (rd_T49 l0_2 a1).f0).bind fun nm => some (function_all nm l0_1 (l0_2.take a1.toNat) (rd_T49 l0_2 a1))) else none) else none
set_option maxHeartbeats 1600000 in
set_option maxRecDepth 100000 in
theorem function_odd (a0_0 : ByteArray) (A0_1 : Option Addr) (c0_1 : Nat) (l0_1 : List S64) (A0_2 : Option Addr) (c0_2 : Nat) (l0_2 : List S49) (A0_3 : Option Addr) (c0_3 : Nat) (l0_3 : List (List Int)) (x : S49) (A1 : Option Addr) (c1 : Nat) (A4 : Option Addr) (c4 : Nat) (w : World) (gf gm : Nat) (hr : Kd.C k64 w A0_1 l0_1.length l0_1) (hc : l0_1.length ≤ c0_1) (t : Int) (W : World) (h : Rws w [(gf, 49, #[.string x.f0, .slice A1 x.f1.f0.length c1, .int .u8 x.f1.f1, .int .i64 x.f2, .slice A4 x.f3.length c4]), (gm, 26, #[.string a0_0, .slice A0_1 l0_1.length c0_1, .slice A0_2 l0_2.length c0_2, .slice A0_3 l0_3.length c0_3])] W) :
    Calls Try.prog 69 (#[.int .u8 t] ++ #[.pointer (some ⟨gm, 0, none⟩)]) W fun e W' => e = .returned (.bool (oddB l0_1 t)) ∧ Rws w [(gf, 49, #[.string x.f0, .slice A1 x.f1.f0.length c1, .int .u8 x.f1.f1, .int .i64 x.f2, .slice A4 x.f3.length c4]), (gm, 26, #[.string a0_0, .slice A0_1 l0_1.length c0_1, .slice A0_2 l0_2.length c0_2, .slice A0_3 l0_3.length c0_3])] W' := by
  have HA := amk h
  have HR := amk hr
  have HC := amk hc
  obtain ⟨b, hb⟩ := stored_total l0_1 t
  have HS := amk hb
  have ho : oddB l0_1 t = !b := by unfold oddB; rw [hb]; rfl
  have HO := amk ho
  have m1 := blk_cell (h.mem (List.mem_cons_of_mem _ List.mem_cons_self)) 1
  clear h hr hc hb ho
  show Calls Try.prog 69 #[.int .u8 t, .pointer (some ⟨gm, 0, none⟩)] W _
  go_enter Try.func69, Try.ntmps69
  go_wp2_with fail
  refine (module_stored.calls A0_1 c0_1 l0_1 t b _ (Kd.C_below HR.out HA.out.below) HC.out HS.out).mono ?_
  rintro e w_ ⟨rfl, hb⟩
  replace HA := amk (HA.out.step (by first | exact hb.below | exact hb))
  clear hb m1
  go_wp2
  go_ret
  exact ⟨by rw [HO.out]; rfl, HA.out⟩
set_option maxHeartbeats 1600000 in
set_option maxRecDepth 100000 in
theorem function_twice (a0_0 : ByteArray) (A0_1 : Option Addr) (c0_1 : Nat) (l0_1 : List S64) (A0_2 : Option Addr) (c0_2 : Nat) (l0_2 : List S49) (A0_3 : Option Addr) (c0_3 : Nat) (l0_3 : List (List Int)) (x : S49) (A1 : Option Addr) (c1 : Nat) (A4 : Option Addr) (c4 : Nat) (w : World) (gf gm : Nat) (y : S49) (B1 : Option Addr) (d1 : Nat) (B4 : Option Addr) (d4 : Nat) (W : World) (h : Rws w [(gf, 49, #[.string x.f0, .slice A1 x.f1.f0.length c1, .int .u8 x.f1.f1, .int .i64 x.f2, .slice A4 x.f3.length c4]), (gm, 26, #[.string a0_0, .slice A0_1 l0_1.length c0_1, .slice A0_2 l0_2.length c0_2, .slice A0_3 l0_3.length c0_3])] W) :
    Calls Try.prog 72 (#[.agg #[.string y.f0, .slice B1 y.f1.f0.length d1, .int .u8 y.f1.f1, .int .i64 y.f2, .slice B4 y.f3.length d4]] ++ #[.pointer (some ⟨gf, 0, none⟩)]) W fun e W' => e = .returned (.bool (y.f0.toList == x.f0.toList)) ∧ Rws w [(gf, 49, #[.string x.f0, .slice A1 x.f1.f0.length c1, .int .u8 x.f1.f1, .int .i64 x.f2, .slice A4 x.f3.length c4]), (gm, 26, #[.string a0_0, .slice A0_1 l0_1.length c0_1, .slice A0_2 l0_2.length c0_2, .slice A0_3 l0_3.length c0_3])] W' := by
  have HA := amk h
  clear h
  show Calls Try.prog 72 #[.agg #[.string y.f0, .slice B1 y.f1.f0.length d1, .int .u8 y.f1.f1, .int .i64 y.f2, .slice B4 y.f3.length d4], .pointer (some ⟨gf, 0, none⟩)] W _
  go_enter Try.func72, Try.ntmps72
  go_wp2_with (first | ((with_reducible refine gate_dst (N := 2) rfl ?_); refine rw_box rfl 49 rfl rfl HA.out ?_; intro gy w_ hA; have y0 := blk_cell (hA.mem List.mem_cons_self) 0; have f0 := blk_cell (hA.mem (List.mem_cons_of_mem _ List.mem_cons_self)) 0; replace HA := amk hA.tail; clear hA))
  go_ret
  exact ⟨rfl, HA.out⟩
set_option maxHeartbeats 6400000 in
set_option maxRecDepth 100000 in
theorem module_function.calls (k : Nat) (a0_0 : ByteArray) (A0_1 : Option Addr) (c0_1 : Nat) (l0_1 : List S64) (A0_2 : Option Addr) (c0_2 : Nat) (l0_2 : List S49) (A0_3 : Option Addr) (c0_3 : Nat) (l0_3 : List (List Int)) (a1 : Int) (r : Int) (w : World) (hr0_1 : Kd.C k64 w A0_1 l0_1.length l0_1) (hc0_1 : l0_1.length ≤ c0_1) (hr0_2 : Kd.C k49 w A0_2 l0_2.length l0_2) (hc0_2 : l0_2.length ≤ c0_2) (hr0_3 : Kd.C (Kd.slice 5 (Kd.int .u8)) w A0_3 l0_3.length l0_3) (hc0_3 : l0_3.length ≤ c0_3) (h : module_function.f k a0_0 l0_1 l0_2 l0_3 a1 = some r) :
    Calls Try.prog 39 #[.agg #[.string a0_0, .slice A0_1 l0_1.length c0_1, .slice A0_2 l0_2.length c0_2, .slice A0_3 l0_3.length c0_3], .int .i64 a1] w fun e w' => e = .returned (.int .i64 r) ∧ Below w.heap.size w w' := by
  have hmf : ∀ (fn : Fn) (first cap : Array Value) (w : World), (Instr.makeFunc fn first cap).run Try.prog w = .ok (.func fn first cap) w := fun _ _ _ _ => rfl
  have HR1 := amk hr0_1
  have HC1 := amk hc0_1
  have HR2 := amk hr0_2
  have HC2 := amk hc0_2
  have hcf := callFunc_run2 Try.func69 (by kernel_rfl) (by kernel_rfl)
  clear hr0_1 hc0_1 hr0_3 hc0_3
  unfold module_function.f at h
  by_cases q0 : 0 ≤ a1
  case neg =>
    rw [if_neg q0] at h
    cases h
  rw [if_pos q0] at h
  by_cases q1 : a1 < (l0_2.length : Int)
  case neg =>
    rw [if_neg q1] at h
    cases h
  rw [if_pos q1] at h
  obtain ⟨nm, hnm, h⟩ := Option.bind_eq_some_iff.1 h
  have h := Option.some.inj h
  obtain ⟨i, rfl⟩ : ∃ i : Nat, a1 = (i : Int) := ⟨a1.toNat, by omega⟩
  obtain ⟨ad, A1, c1, A4, c4, e1, hx0, hx1, hx2, hx3, hx4, hl1, hg1, hl4, hg4⟩ := at_T49 hr0_2 (i : Int) q0 q1
  cases e1
  simp only [Int.toNat_natCast] at hx0 hx1 hx2 hx3 hx4 h
  generalize rd_T49 l0_2 (i : Int) = x at hx0 hx1 hx2 hx3 hx4 hl1 hg1 hl4 hg4 h hnm
  have HH := amk h.symm
  have HNM := amk hnm
  have HX0 := amk hx0
  have HX1 := amk hx1
  have HX2 := amk hx2
  have HX3 := amk hx3
  have HX4 := amk hx4
  have HG1 := amk hg1
  have HL1 := amk hl1
  have HI : Aside0 (i < l0_2.length) := ⟨by omega⟩
  have p1 : (0 ≤ (i : Int)) = True := eq_true (by omega)
  have p2 : ((i : Int) < (l0_2.length : Int)) = True := eq_true (by omega)
  have hlen : l0_2.length ≤ 9223372036854775807 := hr0_2.2.1
  have HA := amk (Rws.nil w)
  clear h hx0 hx1 hx2 hx3 hx4 hl1 hg1 hl4 hg4 hnm hr0_2 hc0_2
  go_enter Try.func39, Try.ntmps39
  go_wp2_with (first | ((with_reducible refine gate_dst (N := 2) rfl ?_); refine rw_box rfl 26 rfl rfl HA.out ?_; intro gm w_ hA; have m2 := blk_cell (hA.mem List.mem_cons_self) 2; have hbx := hA.below; have hx0 := (hbx.cell (blc w _ HX0.out)).trans HX0.out; have hx1 := (hbx.cell (blc w _ HX1.out)).trans HX1.out; have hx2 := (hbx.cell (blc w _ HX2.out)).trans HX2.out; have hx3 := (hbx.cell (blc w _ HX3.out)).trans HX3.out; have hx4 := (hbx.cell (blc w _ HX4.out)).trans HX4.out; replace HA := amk hA; clear hA hbx) | ((with_reducible refine gate_dst (N := 5) rfl ?_); refine rw_alloc rfl 49 rfl (cs := #[.string ⟨#[]⟩, .slice none 0 0, .int .u8 0, .int .i64 0, .slice none 0 0]) (by kernel_rfl) HA.out ?_; clear m2 hx0 hx1 hx2 hx3 hx4; intro gf w_ hA; replace HA := amk hA; clear hA) | (refine rw_store rfl 49 rfl rfl (cs' := #[.string x.f0, .slice A1 x.f1.f0.length c1, .int .u8 x.f1.f1, .int .i64 x.f2, .slice A4 x.f3.length c4]) rfl [] HA.out (by kernel_rfl) rfl (by show _ = _; kernel_rfl) ?_; intro w_ hA; (try simp only [List.nil_append] at hA); have f0 := blk_cell (hA.mem List.mem_cons_self) 0; have f1 := blk_cell (hA.mem List.mem_cons_self) 1; have f2 := blk_cell (hA.mem List.mem_cons_self) 2; have f3 := blk_cell (hA.mem List.mem_cons_self) 3; have f4 := blk_cell (hA.mem List.mem_cons_self) 4; have m1 := blk_cell (hA.mem (List.mem_cons_of_mem _ List.mem_cons_self)) 1; have m2 := blk_cell (hA.mem (List.mem_cons_of_mem _ List.mem_cons_self)) 2; replace HA := amk hA; clear hA))
  clear f0 f1 f2 f3 f4 m1 m2
  refine (wire_IsName.calls k x.f0 nm _ HNM.out).mono ?_
  rintro e w_ ⟨rfl, hd⟩
  replace HA := amk (HA.out.step hd.below)
  clear hd
  cases nm with
  | false =>
    have HV : Aside0 (r = 6) := ⟨by rw [HH.out]; unfold function_all; rw [if_neg (by decide)]⟩
    clear HH
    have f0 := blk_cell (HA.out.mem List.mem_cons_self) 0
    have f1 := blk_cell (HA.out.mem List.mem_cons_self) 1
    have f2 := blk_cell (HA.out.mem List.mem_cons_self) 2
    have f3 := blk_cell (HA.out.mem List.mem_cons_self) 3
    have f4 := blk_cell (HA.out.mem List.mem_cons_self) 4
    have m1 := blk_cell (HA.out.mem (List.mem_cons_of_mem _ List.mem_cons_self)) 1
    have m2 := blk_cell (HA.out.mem (List.mem_cons_of_mem _ List.mem_cons_self)) 2
    go_wp2
    go_ret
    exact ⟨by rw [HV.out]; rfl, HA.out.below⟩
  | true =>
    have HH : Aside0 (r = if (l0_2.take i).any (fun y => y.f0.toList == x.f0.toList) = true then 20 else if x.f1.f0.length > 8 then 4 else if x.f1.f0.any (oddB l0_1) = true then 22 else if x.f1.f1 = 0 then function_tail x else if oddB l0_1 x.f1.f1 = true then 22 else function_tail x) := ⟨by rw [HH.out]; unfold function_all; rw [if_pos rfl]⟩
    have p7 : (i ≤ c0_2) = True := eq_true (by have := HC2.out; have := HI.out; omega)
    have p8 : ((i : Int) ≤ (c0_2 : Int)) = True := eq_true (by have := HC2.out; have := HI.out; omega)
    have f0 := blk_cell (HA.out.mem List.mem_cons_self) 0
    have f1 := blk_cell (HA.out.mem List.mem_cons_self) 1
    have f2 := blk_cell (HA.out.mem List.mem_cons_self) 2
    have f3 := blk_cell (HA.out.mem List.mem_cons_self) 3
    have f4 := blk_cell (HA.out.mem List.mem_cons_self) 4
    have m1 := blk_cell (HA.out.mem (List.mem_cons_of_mem _ List.mem_cons_self)) 1
    have m2 := blk_cell (HA.out.mem (List.mem_cons_of_mem _ List.mem_cons_self)) 2
    go_wp2_with fail
    clear f0 f1 f2 f3 f4 m1 m2
    have hl9 : (l0_2.take i).length = i := by rw [List.length_take]; have := HI.out; omega
    have hcall := contains_func 72 #[.pointer (some ⟨gf, 0, none⟩)] (some ad) c0_2 (l0_2.take i) w (Kd.C_take HR2.out (m := i) (by have := HI.out; omega)) (Rws w [(gf, 49, #[.string x.f0, .slice A1 x.f1.f0.length c1, .int .u8 x.f1.f1, .int .i64 x.f2, .slice A4 x.f3.length c4]), (gm, 26, #[.string a0_0, .slice A0_1 l0_1.length c0_1, .slice (some ad) l0_2.length c0_2, .slice A0_3 l0_3.length c0_3])]) (fun y => y.f0.toList == x.f0.toList) (fun _ h => h.below) (fun y B1 d1 B4 d4 W h => function_twice a0_0 A0_1 c0_1 l0_1 (some ad) c0_2 l0_2 A0_3 c0_3 l0_3 x A1 c1 A4 c4 w gf gm y B1 d1 B4 d4 W h) (callFunc_run2 Try.func72 (by kernel_rfl) (by kernel_rfl)) _ HA.out
    rw [hl9] at hcall
    refine hcall.mono ?_
    clear hcall hl9
    rintro e w_ ⟨rfl, hA⟩
    replace HA := amk hA
    clear hA
    obtain ⟨b1, hb1⟩ : ∃ b1, (l0_2.take i).any (fun y => y.f0.toList == x.f0.toList) = b1 := ⟨_, rfl⟩
    rw [hb1] at HH ⊢
    clear hb1
    cases b1 with
    | true =>
      have HV : Aside0 (r = 20) := ⟨by rw [HH.out, if_pos rfl]⟩
      clear HH
      have f0 := blk_cell (HA.out.mem List.mem_cons_self) 0
      have f1 := blk_cell (HA.out.mem List.mem_cons_self) 1
      have f2 := blk_cell (HA.out.mem List.mem_cons_self) 2
      have f3 := blk_cell (HA.out.mem List.mem_cons_self) 3
      have f4 := blk_cell (HA.out.mem List.mem_cons_self) 4
      have m1 := blk_cell (HA.out.mem (List.mem_cons_of_mem _ List.mem_cons_self)) 1
      have m2 := blk_cell (HA.out.mem (List.mem_cons_of_mem _ List.mem_cons_self)) 2
      go_wp2
      go_ret
      exact ⟨by rw [HV.out]; rfl, HA.out.below⟩
    | false =>
      have HH : Aside0 (r = if x.f1.f0.length > 8 then 4 else if x.f1.f0.any (oddB l0_1) = true then 22 else if x.f1.f1 = 0 then function_tail x else if oddB l0_1 x.f1.f1 = true then 22 else function_tail x) := ⟨by rw [HH.out, if_neg (by decide)]⟩
      by_cases d2 : x.f1.f0.length > 8
      · have d2a : decide ((x.f1.f0.length : Int) > 8) = true := decide_eq_true (by omega)
        have d2b : decide (8 < (x.f1.f0.length : Int)) = true := decide_eq_true (by omega)
        have d2c : decide (8 < x.f1.f0.length) = true := decide_eq_true (by omega)
        have D2 := amk d2
        clear d2
        have HV : Aside0 (r = 4) := ⟨by rw [HH.out, if_pos D2.out]⟩
        clear HH
        have f0 := blk_cell (HA.out.mem List.mem_cons_self) 0
        have f1 := blk_cell (HA.out.mem List.mem_cons_self) 1
        have f2 := blk_cell (HA.out.mem List.mem_cons_self) 2
        have f3 := blk_cell (HA.out.mem List.mem_cons_self) 3
        have f4 := blk_cell (HA.out.mem List.mem_cons_self) 4
        have m1 := blk_cell (HA.out.mem (List.mem_cons_of_mem _ List.mem_cons_self)) 1
        have m2 := blk_cell (HA.out.mem (List.mem_cons_of_mem _ List.mem_cons_self)) 2
        go_wp2
        go_ret
        exact ⟨by rw [HV.out]; rfl, HA.out.below⟩
      · have d2a : decide ((x.f1.f0.length : Int) > 8) = false := decide_eq_false (by omega)
        have d2b : decide (8 < (x.f1.f0.length : Int)) = false := decide_eq_false (by omega)
        have d2c : decide (8 < x.f1.f0.length) = false := decide_eq_false (by omega)
        have HH : Aside0 (r = if x.f1.f0.any (oddB l0_1) = true then 22 else if x.f1.f1 = 0 then function_tail x else if oddB l0_1 x.f1.f1 = true then 22 else function_tail x) := ⟨by rw [HH.out, if_neg d2]⟩
        clear d2
        have f0 := blk_cell (HA.out.mem List.mem_cons_self) 0
        have f1 := blk_cell (HA.out.mem List.mem_cons_self) 1
        have f2 := blk_cell (HA.out.mem List.mem_cons_self) 2
        have f3 := blk_cell (HA.out.mem List.mem_cons_self) 3
        have f4 := blk_cell (HA.out.mem List.mem_cons_self) 4
        have m1 := blk_cell (HA.out.mem (List.mem_cons_of_mem _ List.mem_cons_self)) 1
        have m2 := blk_cell (HA.out.mem (List.mem_cons_of_mem _ List.mem_cons_self)) 2
        go_wp2_with fail
        clear f0 f1 f2 f3 f4 m1 m2
        refine (contains_type 69 #[.pointer (some ⟨gm, 0, none⟩)] A1 c1 x.f1.f0 w HG1.out (Rws w [(gf, 49, #[.string x.f0, .slice A1 x.f1.f0.length c1, .int .u8 x.f1.f1, .int .i64 x.f2, .slice A4 x.f3.length c4]), (gm, 26, #[.string a0_0, .slice A0_1 l0_1.length c0_1, .slice (some ad) l0_2.length c0_2, .slice A0_3 l0_3.length c0_3])]) (oddB l0_1) (fun _ h => h.below) (fun t W h => function_odd a0_0 A0_1 c0_1 l0_1 (some ad) c0_2 l0_2 A0_3 c0_3 l0_3 x A1 c1 A4 c4 w gf gm HR1.out HC1.out t W h) hcf _ HA.out).mono ?_
        rintro e w_ ⟨rfl, hA⟩
        replace HA := amk hA
        clear hA
        obtain ⟨b2, hb2⟩ : ∃ b2, x.f1.f0.any (oddB l0_1) = b2 := ⟨_, rfl⟩
        rw [hb2] at HH ⊢
        clear hb2
        cases b2 with
        | true =>
          have HV : Aside0 (r = 22) := ⟨by rw [HH.out, if_pos rfl]⟩
          clear HH
          have f0 := blk_cell (HA.out.mem List.mem_cons_self) 0
          have f1 := blk_cell (HA.out.mem List.mem_cons_self) 1
          have f2 := blk_cell (HA.out.mem List.mem_cons_self) 2
          have f3 := blk_cell (HA.out.mem List.mem_cons_self) 3
          have f4 := blk_cell (HA.out.mem List.mem_cons_self) 4
          have m1 := blk_cell (HA.out.mem (List.mem_cons_of_mem _ List.mem_cons_self)) 1
          have m2 := blk_cell (HA.out.mem (List.mem_cons_of_mem _ List.mem_cons_self)) 2
          go_wp2
          go_ret
          exact ⟨by rw [HV.out]; rfl, HA.out.below⟩
        | false =>
          have HH : Aside0 (r = if x.f1.f1 = 0 then function_tail x else if oddB l0_1 x.f1.f1 = true then 22 else function_tail x) := ⟨by rw [HH.out, if_neg (by decide)]⟩
          by_cases d3 : x.f1.f1 = 0
          · have HH : Aside0 (r = function_tail x) := ⟨by rw [HH.out, if_pos d3]⟩
            have d3b : (x.f1.f1 != 0) = false := by rw [d3]; rfl
            clear d3
            have HH : Aside0 (r = if x.f2 < (x.f1.f0.length : Int) then 5 else if x.f2 > 16 then 5 else if x.f3.length = 0 then 2 else if x.f3.length > 4096 then 4 else 0) := ⟨HH.out⟩
            by_cases g1 : x.f2 < (x.f1.f0.length : Int)
            · have g1b : decide (x.f2 < (x.f1.f0.length : Int)) = true := decide_eq_true g1
              have G1 := amk g1
              clear g1
              have HV : Aside0 (r = 5) := ⟨by rw [HH.out, if_pos G1.out]⟩
              clear HH
              have f0 := blk_cell (HA.out.mem List.mem_cons_self) 0
              have f1 := blk_cell (HA.out.mem List.mem_cons_self) 1
              have f2 := blk_cell (HA.out.mem List.mem_cons_self) 2
              have f3 := blk_cell (HA.out.mem List.mem_cons_self) 3
              have f4 := blk_cell (HA.out.mem List.mem_cons_self) 4
              have m1 := blk_cell (HA.out.mem (List.mem_cons_of_mem _ List.mem_cons_self)) 1
              have m2 := blk_cell (HA.out.mem (List.mem_cons_of_mem _ List.mem_cons_self)) 2
              go_wp2
              go_ret
              exact ⟨by rw [HV.out]; rfl, HA.out.below⟩
            have g1b : decide (x.f2 < (x.f1.f0.length : Int)) = false := decide_eq_false g1
            have HH : Aside0 (r = if x.f2 > 16 then 5 else if x.f3.length = 0 then 2 else if x.f3.length > 4096 then 4 else 0) := ⟨by rw [HH.out, if_neg g1]⟩
            clear g1
            by_cases g2 : x.f2 > 16
            · have g2b : decide (x.f2 > 16) = true := decide_eq_true g2
              have g2c : decide (16 < x.f2) = true := decide_eq_true g2
              have G2 := amk g2
              clear g2
              have HV : Aside0 (r = 5) := ⟨by rw [HH.out, if_pos G2.out]⟩
              clear HH
              have f0 := blk_cell (HA.out.mem List.mem_cons_self) 0
              have f1 := blk_cell (HA.out.mem List.mem_cons_self) 1
              have f2 := blk_cell (HA.out.mem List.mem_cons_self) 2
              have f3 := blk_cell (HA.out.mem List.mem_cons_self) 3
              have f4 := blk_cell (HA.out.mem List.mem_cons_self) 4
              have m1 := blk_cell (HA.out.mem (List.mem_cons_of_mem _ List.mem_cons_self)) 1
              have m2 := blk_cell (HA.out.mem (List.mem_cons_of_mem _ List.mem_cons_self)) 2
              go_wp2
              go_ret
              exact ⟨by rw [HV.out]; rfl, HA.out.below⟩
            have g2b : decide (x.f2 > 16) = false := decide_eq_false g2
            have g2c : decide (16 < x.f2) = false := decide_eq_false g2
            have HH : Aside0 (r = if x.f3.length = 0 then 2 else if x.f3.length > 4096 then 4 else 0) := ⟨by rw [HH.out, if_neg g2]⟩
            clear g2
            by_cases g3 : x.f3.length = 0
            · have g3b : ((x.f3.length : Int) == 0) = true := beq_iff_eq.mpr (by omega)
              have g3c : (x.f3.length == 0) = true := beq_iff_eq.mpr g3
              have G3 := amk g3
              clear g3
              have HV : Aside0 (r = 2) := ⟨by rw [HH.out, if_pos G3.out]⟩
              clear HH
              have f0 := blk_cell (HA.out.mem List.mem_cons_self) 0
              have f1 := blk_cell (HA.out.mem List.mem_cons_self) 1
              have f2 := blk_cell (HA.out.mem List.mem_cons_self) 2
              have f3 := blk_cell (HA.out.mem List.mem_cons_self) 3
              have f4 := blk_cell (HA.out.mem List.mem_cons_self) 4
              have m1 := blk_cell (HA.out.mem (List.mem_cons_of_mem _ List.mem_cons_self)) 1
              have m2 := blk_cell (HA.out.mem (List.mem_cons_of_mem _ List.mem_cons_self)) 2
              go_wp2
              go_ret
              exact ⟨by rw [HV.out]; rfl, HA.out.below⟩
            have g3b : ((x.f3.length : Int) == 0) = false := beq_eq_false_iff_ne.mpr (by omega)
            have g3c : (x.f3.length == 0) = false := beq_eq_false_iff_ne.mpr g3
            have HH : Aside0 (r = if x.f3.length > 4096 then 4 else 0) := ⟨by rw [HH.out, if_neg g3]⟩
            clear g3
            by_cases g4 : x.f3.length > 4096
            · have g4b : decide (4096 < (x.f3.length : Int)) = true := decide_eq_true (by omega)
              have g4c : decide (4096 < x.f3.length) = true := decide_eq_true (by omega)
              have G4 := amk g4
              clear g4
              have HV : Aside0 (r = 4) := ⟨by rw [HH.out, if_pos G4.out]⟩
              clear HH
              have f0 := blk_cell (HA.out.mem List.mem_cons_self) 0
              have f1 := blk_cell (HA.out.mem List.mem_cons_self) 1
              have f2 := blk_cell (HA.out.mem List.mem_cons_self) 2
              have f3 := blk_cell (HA.out.mem List.mem_cons_self) 3
              have f4 := blk_cell (HA.out.mem List.mem_cons_self) 4
              have m1 := blk_cell (HA.out.mem (List.mem_cons_of_mem _ List.mem_cons_self)) 1
              have m2 := blk_cell (HA.out.mem (List.mem_cons_of_mem _ List.mem_cons_self)) 2
              go_wp2
              go_ret
              exact ⟨by rw [HV.out]; rfl, HA.out.below⟩
            have g4b : decide (4096 < (x.f3.length : Int)) = false := decide_eq_false (by omega)
            have g4c : decide (4096 < x.f3.length) = false := decide_eq_false (by omega)
            have HH : Aside0 (r = 0) := ⟨by rw [HH.out, if_neg g4]⟩
            clear g4
            have HV : Aside0 (r = 0) := ⟨by rw [HH.out]⟩
            clear HH
            have f0 := blk_cell (HA.out.mem List.mem_cons_self) 0
            have f1 := blk_cell (HA.out.mem List.mem_cons_self) 1
            have f2 := blk_cell (HA.out.mem List.mem_cons_self) 2
            have f3 := blk_cell (HA.out.mem List.mem_cons_self) 3
            have f4 := blk_cell (HA.out.mem List.mem_cons_self) 4
            have m1 := blk_cell (HA.out.mem (List.mem_cons_of_mem _ List.mem_cons_self)) 1
            have m2 := blk_cell (HA.out.mem (List.mem_cons_of_mem _ List.mem_cons_self)) 2
            go_wp2
            go_ret
            exact ⟨by rw [HV.out]; rfl, HA.out.below⟩
          · have HH : Aside0 (r = if oddB l0_1 x.f1.f1 = true then 22 else function_tail x) := ⟨by rw [HH.out, if_neg d3]⟩
            have d3b : (x.f1.f1 != 0) = true := bne_iff_ne.mpr d3
            clear d3
            have f0 := blk_cell (HA.out.mem List.mem_cons_self) 0
            have f1 := blk_cell (HA.out.mem List.mem_cons_self) 1
            have f2 := blk_cell (HA.out.mem List.mem_cons_self) 2
            have f3 := blk_cell (HA.out.mem List.mem_cons_self) 3
            have f4 := blk_cell (HA.out.mem List.mem_cons_self) 4
            have m1 := blk_cell (HA.out.mem (List.mem_cons_of_mem _ List.mem_cons_self)) 1
            have m2 := blk_cell (HA.out.mem (List.mem_cons_of_mem _ List.mem_cons_self)) 2
            go_wp2_with fail
            clear f0 f1 f2 f3 f4 m1 m2
            have hcall := function_odd a0_0 A0_1 c0_1 l0_1 (some ad) c0_2 l0_2 A0_3 c0_3 l0_3 x A1 c1 A4 c4 w gf gm HR1.out HC1.out x.f1.f1 _ HA.out
            refine hcall.mono ?_
            clear hcall
            rintro e w_ ⟨rfl, hA⟩
            replace HA := amk hA
            clear hA
            obtain ⟨b3, hb3⟩ : ∃ b3, oddB l0_1 x.f1.f1 = b3 := ⟨_, rfl⟩
            rw [hb3] at HH ⊢
            clear hb3
            cases b3 with
            | true =>
              have HV : Aside0 (r = 22) := ⟨by rw [HH.out, if_pos rfl]⟩
              clear HH
              have f0 := blk_cell (HA.out.mem List.mem_cons_self) 0
              have f1 := blk_cell (HA.out.mem List.mem_cons_self) 1
              have f2 := blk_cell (HA.out.mem List.mem_cons_self) 2
              have f3 := blk_cell (HA.out.mem List.mem_cons_self) 3
              have f4 := blk_cell (HA.out.mem List.mem_cons_self) 4
              have m1 := blk_cell (HA.out.mem (List.mem_cons_of_mem _ List.mem_cons_self)) 1
              have m2 := blk_cell (HA.out.mem (List.mem_cons_of_mem _ List.mem_cons_self)) 2
              go_wp2
              go_ret
              exact ⟨by rw [HV.out]; rfl, HA.out.below⟩
            | false =>
              have HH : Aside0 (r = function_tail x) := ⟨by rw [HH.out, if_neg (by decide)]⟩
              have HH : Aside0 (r = if x.f2 < (x.f1.f0.length : Int) then 5 else if x.f2 > 16 then 5 else if x.f3.length = 0 then 2 else if x.f3.length > 4096 then 4 else 0) := ⟨HH.out⟩
              by_cases g1 : x.f2 < (x.f1.f0.length : Int)
              · have g1b : decide (x.f2 < (x.f1.f0.length : Int)) = true := decide_eq_true g1
                have G1 := amk g1
                clear g1
                have HV : Aside0 (r = 5) := ⟨by rw [HH.out, if_pos G1.out]⟩
                clear HH
                have f0 := blk_cell (HA.out.mem List.mem_cons_self) 0
                have f1 := blk_cell (HA.out.mem List.mem_cons_self) 1
                have f2 := blk_cell (HA.out.mem List.mem_cons_self) 2
                have f3 := blk_cell (HA.out.mem List.mem_cons_self) 3
                have f4 := blk_cell (HA.out.mem List.mem_cons_self) 4
                have m1 := blk_cell (HA.out.mem (List.mem_cons_of_mem _ List.mem_cons_self)) 1
                have m2 := blk_cell (HA.out.mem (List.mem_cons_of_mem _ List.mem_cons_self)) 2
                go_wp2
                go_ret
                exact ⟨by rw [HV.out]; rfl, HA.out.below⟩
              have g1b : decide (x.f2 < (x.f1.f0.length : Int)) = false := decide_eq_false g1
              have HH : Aside0 (r = if x.f2 > 16 then 5 else if x.f3.length = 0 then 2 else if x.f3.length > 4096 then 4 else 0) := ⟨by rw [HH.out, if_neg g1]⟩
              clear g1
              by_cases g2 : x.f2 > 16
              · have g2b : decide (x.f2 > 16) = true := decide_eq_true g2
                have g2c : decide (16 < x.f2) = true := decide_eq_true g2
                have G2 := amk g2
                clear g2
                have HV : Aside0 (r = 5) := ⟨by rw [HH.out, if_pos G2.out]⟩
                clear HH
                have f0 := blk_cell (HA.out.mem List.mem_cons_self) 0
                have f1 := blk_cell (HA.out.mem List.mem_cons_self) 1
                have f2 := blk_cell (HA.out.mem List.mem_cons_self) 2
                have f3 := blk_cell (HA.out.mem List.mem_cons_self) 3
                have f4 := blk_cell (HA.out.mem List.mem_cons_self) 4
                have m1 := blk_cell (HA.out.mem (List.mem_cons_of_mem _ List.mem_cons_self)) 1
                have m2 := blk_cell (HA.out.mem (List.mem_cons_of_mem _ List.mem_cons_self)) 2
                go_wp2
                go_ret
                exact ⟨by rw [HV.out]; rfl, HA.out.below⟩
              have g2b : decide (x.f2 > 16) = false := decide_eq_false g2
              have g2c : decide (16 < x.f2) = false := decide_eq_false g2
              have HH : Aside0 (r = if x.f3.length = 0 then 2 else if x.f3.length > 4096 then 4 else 0) := ⟨by rw [HH.out, if_neg g2]⟩
              clear g2
              by_cases g3 : x.f3.length = 0
              · have g3b : ((x.f3.length : Int) == 0) = true := beq_iff_eq.mpr (by omega)
                have g3c : (x.f3.length == 0) = true := beq_iff_eq.mpr g3
                have G3 := amk g3
                clear g3
                have HV : Aside0 (r = 2) := ⟨by rw [HH.out, if_pos G3.out]⟩
                clear HH
                have f0 := blk_cell (HA.out.mem List.mem_cons_self) 0
                have f1 := blk_cell (HA.out.mem List.mem_cons_self) 1
                have f2 := blk_cell (HA.out.mem List.mem_cons_self) 2
                have f3 := blk_cell (HA.out.mem List.mem_cons_self) 3
                have f4 := blk_cell (HA.out.mem List.mem_cons_self) 4
                have m1 := blk_cell (HA.out.mem (List.mem_cons_of_mem _ List.mem_cons_self)) 1
                have m2 := blk_cell (HA.out.mem (List.mem_cons_of_mem _ List.mem_cons_self)) 2
                go_wp2
                go_ret
                exact ⟨by rw [HV.out]; rfl, HA.out.below⟩
              have g3b : ((x.f3.length : Int) == 0) = false := beq_eq_false_iff_ne.mpr (by omega)
              have g3c : (x.f3.length == 0) = false := beq_eq_false_iff_ne.mpr g3
              have HH : Aside0 (r = if x.f3.length > 4096 then 4 else 0) := ⟨by rw [HH.out, if_neg g3]⟩
              clear g3
              by_cases g4 : x.f3.length > 4096
              · have g4b : decide (4096 < (x.f3.length : Int)) = true := decide_eq_true (by omega)
                have g4c : decide (4096 < x.f3.length) = true := decide_eq_true (by omega)
                have G4 := amk g4
                clear g4
                have HV : Aside0 (r = 4) := ⟨by rw [HH.out, if_pos G4.out]⟩
                clear HH
                have f0 := blk_cell (HA.out.mem List.mem_cons_self) 0
                have f1 := blk_cell (HA.out.mem List.mem_cons_self) 1
                have f2 := blk_cell (HA.out.mem List.mem_cons_self) 2
                have f3 := blk_cell (HA.out.mem List.mem_cons_self) 3
                have f4 := blk_cell (HA.out.mem List.mem_cons_self) 4
                have m1 := blk_cell (HA.out.mem (List.mem_cons_of_mem _ List.mem_cons_self)) 1
                have m2 := blk_cell (HA.out.mem (List.mem_cons_of_mem _ List.mem_cons_self)) 2
                go_wp2
                go_ret
                exact ⟨by rw [HV.out]; rfl, HA.out.below⟩
              have g4b : decide (4096 < (x.f3.length : Int)) = false := decide_eq_false (by omega)
              have g4c : decide (4096 < x.f3.length) = false := decide_eq_false (by omega)
              have HH : Aside0 (r = 0) := ⟨by rw [HH.out, if_neg g4]⟩
              clear g4
              have HV : Aside0 (r = 0) := ⟨by rw [HH.out]⟩
              clear HH
              have f0 := blk_cell (HA.out.mem List.mem_cons_self) 0
              have f1 := blk_cell (HA.out.mem List.mem_cons_self) 1
              have f2 := blk_cell (HA.out.mem List.mem_cons_self) 2
              have f3 := blk_cell (HA.out.mem List.mem_cons_self) 3
              have f4 := blk_cell (HA.out.mem List.mem_cons_self) 4
              have m1 := blk_cell (HA.out.mem (List.mem_cons_of_mem _ List.mem_cons_self)) 1
              have m2 := blk_cell (HA.out.mem (List.mem_cons_of_mem _ List.mem_cons_self)) 2
              go_wp2
              go_ret
              exact ⟨by rw [HV.out]; rfl, HA.out.below⟩

end Go.Proofs.Ytdlmcjchnoeebaa.P

end

section
namespace Go.Proofs.Ytdlmcjchnoeebaa.P
open Go.RowKit Go.Proofs.YtdlmcjchnoeebaaW.PrintWords Go.Proofs.YtdlmcjchnoeebaaW.PrintLast Go.Proofs.YtdlmcjchnoeebaaW.PrintMore
attribute [local go_sem] max2_int min2_int max_two min_two max_three min_three max_four min_four   -- for this text's walks alone
set_option linter.unusedVariables false
set_option linter.unusedSimpArgs false

mutual
def module_Check.l0 : Nat → Int → Int → ByteArray → List (S64) → List (S49) → List (List Int) → Option (Int × Int)
  | 0, _, _, _, _, _, _ => none
  | k + 1, x30, x31, x197000, x197001, x197002, x197003 => if x31 < x30 then ((module_function.f k x197000 x197001 x197002 x197003 x31).bind fun t200 => (if t200 = 0 then (module_Check.l0 k x30 (wrap64 (x31 + 1)) x197000 x197001 x197002 x197003) else (some (x31, t200)))) else (if (x197003.length : Int) = 0 then (module_Check.j1 k false x197000 x197001 x197002 x197003) else (module_Check.j1 k ((x197003.length : Int) != (x197002.length : Int)) x197000 x197001 x197002 x197003))
def module_Check.j1 : Nat → Bool → ByteArray → List (S64) → List (S49) → List (List Int) → Option (Int × Int)
  | 0, _, _, _, _, _ => none
  | k + 1, x54, x197000, x197001, x197002, x197003 => if x54 = true then (some (0, 162)) else (module_Check.l1 k x197003 (x197003.length : Int) 0)
def module_Check.l1 : Nat → List (List Int) → Int → Int → Option (Int × Int)
  | 0, _, _, _ => none
  | k + 1, x56, x57, x58 => if x58 < x57 then (if 0 ≤ x58 then (if x58 < (x56.length : Int) then (if ((rd_L8 x56 x58).length : Int) > 65535 then (some (x58, 4)) else (module_Check.l1 k x56 x57 (wrap64 (x58 + 1)))) else (none)) else (none)) else (some (0, 0))
end
def module_Check.f (k : Nat) (a0_0 : ByteArray) (l0_1 : List (S64)) (l0_2 : List (S49)) (l0_3 : List (List Int)) : Option (Int × Int) := (wire_IsName.f k a0_0).bind fun t197 => (if t197 = true then ((types_Check.f k l0_1).bind fun bt198 => (if bt198.2 = 0 then (if (l0_2.length : Int) > 64 then (some (64, 4)) else (module_Check.l0 k (l0_2.length : Int) 0 a0_0 l0_1 l0_2 l0_3)) else (some (bt198.1, bt198.2)))) else (some (0, 6)))
end Go.Proofs.Ytdlmcjchnoeebaa.P
end

