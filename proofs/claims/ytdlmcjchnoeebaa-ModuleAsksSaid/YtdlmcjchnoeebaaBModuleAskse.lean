/- Proved: the law ModuleAsks holds for every input that the row lets in. No condition of ours. -/
import Derived.Test.YtdlmcjchnoeebaaBModuleAsksd
import Derived.Test.YtdlmcjchnoeebaaRows
import Derived.ShutString
import Derived.ChangeOld
import Derived.Lib.SmallJoins
section
namespace Go.Proofs.Ytdlmcjchnoeebaa.P
open Go.RowKit Go.Proofs.YtdlmcjchnoeebaaW.PrintWords Go.Proofs.YtdlmcjchnoeebaaW.PrintLast Go.Proofs.YtdlmcjchnoeebaaW.PrintMore
attribute [local go_sem] max2_int min2_int max_two min_two max_three min_three max_four min_four   -- for this text's walks alone
set_option linter.unusedVariables false
set_option linter.unusedSimpArgs false

set_option maxHeartbeats 8000000 in
set_option maxRecDepth 100000 in
theorem provisoplain_SameModule.calls (k : Nat) (a0_0 : ByteArray) (A0_1 : Option Addr) (c0_1 : Nat) (l0_1 : List (S64)) (A0_2 : Option Addr) (c0_2 : Nat) (l0_2 : List (S49)) (A0_3 : Option Addr) (c0_3 : Nat) (l0_3 : List (List Int)) (a1_0 : ByteArray) (A1_1 : Option Addr) (c1_1 : Nat) (l1_1 : List (S64)) (A1_2 : Option Addr) (c1_2 : Nat) (l1_2 : List (S49)) (A1_3 : Option Addr) (c1_3 : Nat) (l1_3 : List (List Int)) (r : Bool) (w : World) (hr0_1 : Kd.C k64 w A0_1 l0_1.length l0_1) (hc0_1 : l0_1.length ≤ c0_1) (hr0_2 : Kd.C k49 w A0_2 l0_2.length l0_2) (hc0_2 : l0_2.length ≤ c0_2) (hr0_3 : Kd.C (Kd.slice 5 (Kd.int .u8)) w A0_3 l0_3.length l0_3) (hc0_3 : l0_3.length ≤ c0_3) (hr1_1 : Kd.C k64 w A1_1 l1_1.length l1_1) (hc1_1 : l1_1.length ≤ c1_1) (hr1_2 : Kd.C k49 w A1_2 l1_2.length l1_2) (hc1_2 : l1_2.length ≤ c1_2) (hr1_3 : Kd.C (Kd.slice 5 (Kd.int .u8)) w A1_3 l1_3.length l1_3) (hc1_3 : l1_3.length ≤ c1_3) (h : provisoplain_SameModule.f k a0_0 l0_1 l0_2 l0_3 a1_0 l1_1 l1_2 l1_3 = some r) :
    Calls Try.prog 14 #[.agg #[.string a0_0, .slice A0_1 l0_1.length c0_1, .slice A0_2 l0_2.length c0_2, .slice A0_3 l0_3.length c0_3], .agg #[.string a1_0, .slice A1_1 l1_1.length c1_1, .slice A1_2 l1_2.length c1_2, .slice A1_3 l1_3.length c1_3]] w fun e w' => e = .returned (.bool r) ∧ Below w.heap.size w w' := by
  have hu26 := Try.underlying26
  have hu49 := Try.underlying49
  have HR0_1 := Aside0.mk hr0_1
  have HC0_1 := Aside0.mk hc0_1
  clear hr0_1 hc0_1
  have HR0_2 := Aside0.mk hr0_2
  have HC0_2 := Aside0.mk hc0_2
  clear hr0_2 hc0_2
  have HR0_3 := Aside0.mk hr0_3
  have HC0_3 := Aside0.mk hc0_3
  clear hr0_3 hc0_3
  have HR1_1 := Aside0.mk hr1_1
  have HC1_1 := Aside0.mk hc1_1
  clear hr1_1 hc1_1
  have HR1_2 := Aside0.mk hr1_2
  have HC1_2 := Aside0.mk hc1_2
  clear hr1_2 hc1_2
  have HR1_3 := Aside0.mk hr1_3
  have HC1_3 := Aside0.mk hc1_3
  clear hr1_3 hc1_3
  have HB := Aside0.mk (Below.refl w.heap.size w)
  have H : (if a0_0.toList = a1_0.toList then ((provisoplain_SameClasses.f k l0_1 l1_1).bind fun t181 => (if t181 = true then (if (l0_2.length : Int) = (l1_2.length : Int) then (provisoplain_SameModule.j0 k ((l0_3.length : Int) != (l1_3.length : Int)) a0_0 l0_1 l0_2 l0_3 a1_0 l1_1 l1_2 l1_3) else (provisoplain_SameModule.j0 k true a0_0 l0_1 l0_2 l0_3 a1_0 l1_1 l1_2 l1_3)) else (provisoplain_SameModule.j0 k true a0_0 l0_1 l0_2 l0_3 a1_0 l1_1 l1_2 l1_3))) else (provisoplain_SameModule.j0 k true a0_0 l0_1 l0_2 l0_3 a1_0 l1_1 l1_2 l1_3)) = some r := h
  clear h
  have HC3 := Aside0.mk H
  clear H
  go_enter Try.func14, Try.ntmps14
  go_upto_region 1 with (first | ((with_reducible refine gate_dst (N := 2) rfl ?_); (try (refine gate_guard (by rfl) ?_; dsimp only)); refine box_event ?hg (N := 2) ?hd (cs := #[.string a0_0, .slice A0_1 l0_1.length c0_1, .slice A0_2 l0_2.length c0_2, .slice A0_3 l0_3.length c0_3]) (t := 26) ?hr ?_; (case hd => rfl); (case hg => rfl); (case hr => first | (go_simp; done) | (go_simp; rfl)); intro gb179 hg w4 hbox hb; have n0_ := Aside0.mk (below_step (by repeat (first | (with_reducible first | exact HB.out | apply below_alloc | apply pw_below_drewN | apply below_drew1) | exact HB.out)) hb); have n1_ := Aside0.mk (hbox); have n2_ := Aside0.mk ((by rw [hg]; exact (below_size (by repeat (first | (with_reducible first | exact HB.out | apply below_alloc | apply pw_below_drewN | apply below_drew1) | exact HB.out))) : w.heap.size ≤ gb179)); have n3_ := Aside0.mk ((by rw [hg]; exact (below_size (by repeat (first | (with_reducible first | exact HB.out | apply below_alloc | apply pw_below_drewN | apply below_drew1) | exact HB.out))) : w.heap.size ≤ gb179)); clear HB; have HB := n0_; have BK179 := n1_; have GW179 := n2_; have GE179 := n3_; clear n0_ n1_ n2_ n3_; clear hb hbox hg) | ((with_reducible refine gate_dst (N := 3) rfl ?_); (try (refine gate_guard (by rfl) ?_; dsimp only)); refine box_event ?hg (N := 3) ?hd (cs := #[.string a1_0, .slice A1_1 l1_1.length c1_1, .slice A1_2 l1_2.length c1_2, .slice A1_3 l1_3.length c1_3]) (t := 26) ?hr ?_; (case hd => rfl); (case hg => rfl); (case hr => first | (go_simp; done) | (go_simp; rfl)); intro gb180 hg w5 hbox hb; have n0_ := Aside0.mk (blk_below (g := gb179) (o := .cells #[.string a0_0, .slice A0_1 l0_1.length c0_1, .slice A0_2 l0_2.length c0_2, .slice A0_3 l0_3.length c0_3] 26 (0, 0)) (by (with_reducible repeat (first | refine blk_drewN ?_ _ | refine blk_drew ?_ | refine blk_alloc ?_ _)); exact BK179.out) hb); have n1_ := Aside0.mk (below_step (by repeat (first | (with_reducible first | exact HB.out | apply below_alloc | apply pw_below_drewN | apply below_drew1 | refine below_set ?_ GE179.out) | exact HB.out)) hb); have n2_ := Aside0.mk (hbox); have n3_ := Aside0.mk ((by rw [hg]; exact (below_size (by repeat (first | (with_reducible first | exact HB.out | apply below_alloc | apply pw_below_drewN | apply below_drew1 | refine below_set ?_ GE179.out) | exact HB.out))) : w.heap.size ≤ gb180)); have n4_ := Aside0.mk ((by rw [hg]; exact (below_size (by repeat (first | (with_reducible first | exact HB.out | apply below_alloc | apply pw_below_drewN | apply below_drew1 | refine below_set ?_ GE179.out) | exact HB.out))) : w.heap.size ≤ gb180)); have n5_ := Aside0.mk ((by rw [hg]; exact Nat.ne_of_lt (blk_lt (g := gb179) (o := .cells #[.string a0_0, .slice A0_1 l0_1.length c0_1, .slice A0_2 l0_2.length c0_2, .slice A0_3 l0_3.length c0_3] 26 (0, 0)) (by (with_reducible repeat (first | refine blk_drewN ?_ _ | refine blk_drew ?_ | refine blk_alloc ?_ _)); exact BK179.out)) : gb179 ≠ gb180)); have n6_ := Aside0.mk ((by rw [hg]; exact Nat.ne_of_gt (blk_lt (g := gb179) (o := .cells #[.string a0_0, .slice A0_1 l0_1.length c0_1, .slice A0_2 l0_2.length c0_2, .slice A0_3 l0_3.length c0_3] 26 (0, 0)) (by (with_reducible repeat (first | refine blk_drewN ?_ _ | refine blk_drew ?_ | refine blk_alloc ?_ _)); exact BK179.out)) : gb180 ≠ gb179)); clear BK179; clear HB; have BK179 := n0_; have HB := n1_; have BK180 := n2_; have GW180 := n3_; have GE180 := n4_; have NB179_180 := n5_; have NB180_179 := n6_; clear n0_ n1_ n2_ n3_ n4_ n5_ n6_; clear hb hbox hg))
  (try simp only [Act.put, List.setIfInBounds_toArray, List.set_cons_zero, List.set_cons_succ])
  go_cut [37] (fun v37 wc => ∃ (kq : Nat) (x37_2 : Bool), v37 = .bool x37_2 ∧ Aside0 (provisoplain_SameModule.j0 kq x37_2 a0_0 l0_1 l0_2 l0_3 a1_0 l1_1 l1_2 l1_3 = some r) ∧ Aside0 (kq ≤ k) ∧ Aside0 (wc.heap[gb179]? = some (.cells #[.string a0_0, (.slice A0_1 l0_1.length c0_1), (.slice A0_2 l0_2.length c0_2), (.slice A0_3 l0_3.length c0_3)] 26 (0, 0))) ∧ Aside0 (wc.heap[gb180]? = some (.cells #[.string a1_0, (.slice A1_1 l1_1.length c1_1), (.slice A1_2 l1_2.length c1_2), (.slice A1_3 l1_3.length c1_3)] 26 (0, 0))) ∧ Aside0 (Below w.heap.size w wc))
  case first =>
    have H := HC3.out
    clear HC3
    by_cases c6 : a0_0.toList = a1_0.toList
    · rw [if_pos c6] at H
      have c6b0 : (a0_0.toList == a1_0.toList) = true := beq_iff_eq.mpr c6
      have c6b1 : (a0_0.toList != a1_0.toList) = false := bne_eq_false_iff_eq.mpr c6
      clear c6
      (first | rw [c6b0] | (simp only [i64_w, i32_w]; rw [c6b0]) | skip)
      replace H := Option.bind_eq_some_iff.mp H
      obtain ⟨t181, A70, H⟩ := H
      replace H : (if t181 = true then (if (l0_2.length : Int) = (l1_2.length : Int) then (provisoplain_SameModule.j0 k ((l0_3.length : Int) != (l1_3.length : Int)) a0_0 l0_1 l0_2 l0_3 a1_0 l1_1 l1_2 l1_3) else (provisoplain_SameModule.j0 k true a0_0 l0_1 l0_2 l0_3 a1_0 l1_1 l1_2 l1_3)) else (provisoplain_SameModule.j0 k true a0_0 l0_1 l0_2 l0_3 a1_0 l1_1 l1_2 l1_3)) = some r := H
      have A7 := Aside0.mk A70
      clear A70
      by_cases c8 : t181 = true
      · subst c8
        have H1 : (if (l0_2.length : Int) = (l1_2.length : Int) then (provisoplain_SameModule.j0 k ((l0_3.length : Int) != (l1_3.length : Int)) a0_0 l0_1 l0_2 l0_3 a1_0 l1_1 l1_2 l1_3) else (provisoplain_SameModule.j0 k true a0_0 l0_1 l0_2 l0_3 a1_0 l1_1 l1_2 l1_3)) = some r := by rw [if_pos rfl] at H; exact H
        clear H
        have H := H1
        clear H1
        by_cases c9 : (l0_2.length : Int) = (l1_2.length : Int)
        · rw [if_pos c9] at H
          have c9b0 : ((l0_2.length : Int) == (l1_2.length : Int)) = true := beq_iff_eq.mpr c9
          have c9b1 : ((l0_2.length : Int) != (l1_2.length : Int)) = false := bne_eq_false_iff_eq.mpr c9
          have c9b2 : (l0_2.length == l1_2.length) = true := by first | simpa using c9 | (simp at c9 ⊢; omega)
          clear c9
          have H' := Aside0.mk H
          clear H
          have hnb10 := NB179_180.out
          have hnc10 := NB180_179.out
          have hcz11_0 : w5.cell? ⟨gb179, 0, none⟩ = some (.string a0_0) := (blk_cell BK179.out 0).trans rfl
          have hcz11_1 : w5.cell? ⟨gb179, 1, none⟩ = some (.slice A0_1 l0_1.length c0_1) := (blk_cell BK179.out 1).trans rfl
          have hcz11_2 : w5.cell? ⟨gb179, 2, none⟩ = some (.slice A0_2 l0_2.length c0_2) := (blk_cell BK179.out 2).trans rfl
          have hcz11_3 : w5.cell? ⟨gb179, 3, none⟩ = some (.slice A0_3 l0_3.length c0_3) := (blk_cell BK179.out 3).trans rfl
          have hfz11_0 := blk_frozen BK179.out 0
          have hfz11_1 := blk_frozen BK179.out 1
          have hfz11_2 := blk_frozen BK179.out 2
          have hfz11_3 := blk_frozen BK179.out 3
          have hcz12_0 : w5.cell? ⟨gb180, 0, none⟩ = some (.string a1_0) := (blk_cell BK180.out 0).trans rfl
          have hcz12_1 : w5.cell? ⟨gb180, 1, none⟩ = some (.slice A1_1 l1_1.length c1_1) := (blk_cell BK180.out 1).trans rfl
          have hcz12_2 : w5.cell? ⟨gb180, 2, none⟩ = some (.slice A1_2 l1_2.length c1_2) := (blk_cell BK180.out 2).trans rfl
          have hcz12_3 : w5.cell? ⟨gb180, 3, none⟩ = some (.slice A1_3 l1_3.length c1_3) := (blk_cell BK180.out 3).trans rfl
          have hfz12_0 := blk_frozen BK180.out 0
          have hfz12_1 := blk_frozen BK180.out 1
          have hfz12_2 := blk_frozen BK180.out 2
          have hfz12_3 := blk_frozen BK180.out 3
          go_wp2_with (first | (go_at_call 35; (with_reducible refine (provisoplain_SameClasses.calls k _ _ l0_1 _ _ l1_1 true _ ?side1 ?side2 ?side3 ?side4 A7.out).mono ?_); (case side1 => repeat (first | exact (Kd.C_below HR0_1.out HB.out) | (with_reducible refine Kd.C_alloc ?_ _) | (with_reducible refine Kd.C_drewN ?_ _) | (with_reducible refine Kd.C_drew ?_))); (case side2 => exact HC0_1.out); (case side3 => repeat (first | exact (Kd.C_below HR1_1.out HB.out) | (with_reducible refine Kd.C_alloc ?_ _) | (with_reducible refine Kd.C_drewN ?_ _) | (with_reducible refine Kd.C_drew ?_))); (case side4 => exact HC1_1.out); rintro e w13 ⟨rfl, hb⟩; have n0_ := Aside0.mk (blk_below (g := gb179) (o := .cells #[.string a0_0, .slice A0_1 l0_1.length c0_1, .slice A0_2 l0_2.length c0_2, .slice A0_3 l0_3.length c0_3] 26 (0, 0)) (by (with_reducible repeat (first | refine blk_drewN ?_ _ | refine blk_drew ?_ | refine blk_alloc ?_ _)); exact BK179.out) hb); have n1_ := Aside0.mk (blk_below (g := gb180) (o := .cells #[.string a1_0, .slice A1_1 l1_1.length c1_1, .slice A1_2 l1_2.length c1_2, .slice A1_3 l1_3.length c1_3] 26 (0, 0)) (by (with_reducible repeat (first | refine blk_drewN ?_ _ | refine blk_drew ?_ | refine blk_alloc ?_ _)); exact BK180.out) hb); have n2_ := Aside0.mk (below_step (by repeat (first | (with_reducible first | exact HB.out | apply below_alloc | apply pw_below_drewN | apply below_drew1 | refine below_set ?_ GE179.out | refine below_set ?_ GE180.out) | exact HB.out)) hb); clear BK179; clear BK180; clear HB; have BK179 := n0_; have BK180 := n1_; have HB := n2_; clear n0_ n1_ n2_; (try clear hb); (try clear hb2); (try clear hk); (try clear hi); have hcz14_0 : w13.cell? ⟨gb179, 0, none⟩ = some (.string a0_0) := (blk_cell BK179.out 0).trans rfl; have hcz14_1 : w13.cell? ⟨gb179, 1, none⟩ = some (.slice A0_1 l0_1.length c0_1) := (blk_cell BK179.out 1).trans rfl; have hcz14_2 : w13.cell? ⟨gb179, 2, none⟩ = some (.slice A0_2 l0_2.length c0_2) := (blk_cell BK179.out 2).trans rfl; have hcz14_3 : w13.cell? ⟨gb179, 3, none⟩ = some (.slice A0_3 l0_3.length c0_3) := (blk_cell BK179.out 3).trans rfl; have hfz14_0 := blk_frozen BK179.out 0; have hfz14_1 := blk_frozen BK179.out 1; have hfz14_2 := blk_frozen BK179.out 2; have hfz14_3 := blk_frozen BK179.out 3; have hcz15_0 : w13.cell? ⟨gb180, 0, none⟩ = some (.string a1_0) := (blk_cell BK180.out 0).trans rfl; have hcz15_1 : w13.cell? ⟨gb180, 1, none⟩ = some (.slice A1_1 l1_1.length c1_1) := (blk_cell BK180.out 1).trans rfl; have hcz15_2 : w13.cell? ⟨gb180, 2, none⟩ = some (.slice A1_2 l1_2.length c1_2) := (blk_cell BK180.out 2).trans rfl; have hcz15_3 : w13.cell? ⟨gb180, 3, none⟩ = some (.slice A1_3 l1_3.length c1_3) := (blk_cell BK180.out 3).trans rfl; have hfz15_0 := blk_frozen BK180.out 0; have hfz15_1 := blk_frozen BK180.out 1; have hfz15_2 := blk_frozen BK180.out 2; have hfz15_3 := blk_frozen BK180.out 3))
          go_meet
          case rel => exact ⟨_, (((l0_3.length : Int) != (l1_3.length : Int))), (by first | rfl | (simp; done) | (simp [*]; done)), H', ⟨by first | omega | exact Nat.le_refl _⟩, ⟨by (with_reducible repeat (first | refine blk_drewN ?_ _ | refine blk_drew ?_ | refine blk_alloc ?_ _)); exact BK179.out⟩, ⟨by (with_reducible repeat (first | refine blk_drewN ?_ _ | refine blk_drew ?_ | refine blk_alloc ?_ _)); exact BK180.out⟩, ⟨by repeat (first | (with_reducible first | exact HB.out | apply below_alloc | apply pw_below_drewN | apply below_drew1 | refine below_set ?_ GE179.out | refine below_set ?_ GE180.out) | exact HB.out)⟩⟩
        · rw [if_neg c9] at H
          have c9b0 : ((l0_2.length : Int) == (l1_2.length : Int)) = false := beq_eq_false_iff_ne.mpr c9
          have c9b1 : ((l0_2.length : Int) != (l1_2.length : Int)) = true := bne_iff_ne.mpr c9
          have c9b2 : (l0_2.length == l1_2.length) = false := by first | simpa using c9 | (simp at c9 ⊢; omega)
          have H' := Aside0.mk H
          clear H
          have hnb16 := NB179_180.out
          have hnc16 := NB180_179.out
          have hcz17_0 : w5.cell? ⟨gb179, 0, none⟩ = some (.string a0_0) := (blk_cell BK179.out 0).trans rfl
          have hcz17_1 : w5.cell? ⟨gb179, 1, none⟩ = some (.slice A0_1 l0_1.length c0_1) := (blk_cell BK179.out 1).trans rfl
          have hcz17_2 : w5.cell? ⟨gb179, 2, none⟩ = some (.slice A0_2 l0_2.length c0_2) := (blk_cell BK179.out 2).trans rfl
          have hcz17_3 : w5.cell? ⟨gb179, 3, none⟩ = some (.slice A0_3 l0_3.length c0_3) := (blk_cell BK179.out 3).trans rfl
          have hfz17_0 := blk_frozen BK179.out 0
          have hfz17_1 := blk_frozen BK179.out 1
          have hfz17_2 := blk_frozen BK179.out 2
          have hfz17_3 := blk_frozen BK179.out 3
          have hcz18_0 : w5.cell? ⟨gb180, 0, none⟩ = some (.string a1_0) := (blk_cell BK180.out 0).trans rfl
          have hcz18_1 : w5.cell? ⟨gb180, 1, none⟩ = some (.slice A1_1 l1_1.length c1_1) := (blk_cell BK180.out 1).trans rfl
          have hcz18_2 : w5.cell? ⟨gb180, 2, none⟩ = some (.slice A1_2 l1_2.length c1_2) := (blk_cell BK180.out 2).trans rfl
          have hcz18_3 : w5.cell? ⟨gb180, 3, none⟩ = some (.slice A1_3 l1_3.length c1_3) := (blk_cell BK180.out 3).trans rfl
          have hfz18_0 := blk_frozen BK180.out 0
          have hfz18_1 := blk_frozen BK180.out 1
          have hfz18_2 := blk_frozen BK180.out 2
          have hfz18_3 := blk_frozen BK180.out 3
          go_wp2_with (first | (go_at_call 35; (with_reducible refine (provisoplain_SameClasses.calls k _ _ l0_1 _ _ l1_1 true _ ?side1 ?side2 ?side3 ?side4 A7.out).mono ?_); (case side1 => repeat (first | exact (Kd.C_below HR0_1.out HB.out) | (with_reducible refine Kd.C_alloc ?_ _) | (with_reducible refine Kd.C_drewN ?_ _) | (with_reducible refine Kd.C_drew ?_))); (case side2 => exact HC0_1.out); (case side3 => repeat (first | exact (Kd.C_below HR1_1.out HB.out) | (with_reducible refine Kd.C_alloc ?_ _) | (with_reducible refine Kd.C_drewN ?_ _) | (with_reducible refine Kd.C_drew ?_))); (case side4 => exact HC1_1.out); rintro e w19 ⟨rfl, hb⟩; have n0_ := Aside0.mk (blk_below (g := gb179) (o := .cells #[.string a0_0, .slice A0_1 l0_1.length c0_1, .slice A0_2 l0_2.length c0_2, .slice A0_3 l0_3.length c0_3] 26 (0, 0)) (by (with_reducible repeat (first | refine blk_drewN ?_ _ | refine blk_drew ?_ | refine blk_alloc ?_ _)); exact BK179.out) hb); have n1_ := Aside0.mk (blk_below (g := gb180) (o := .cells #[.string a1_0, .slice A1_1 l1_1.length c1_1, .slice A1_2 l1_2.length c1_2, .slice A1_3 l1_3.length c1_3] 26 (0, 0)) (by (with_reducible repeat (first | refine blk_drewN ?_ _ | refine blk_drew ?_ | refine blk_alloc ?_ _)); exact BK180.out) hb); have n2_ := Aside0.mk (below_step (by repeat (first | (with_reducible first | exact HB.out | apply below_alloc | apply pw_below_drewN | apply below_drew1 | refine below_set ?_ GE179.out | refine below_set ?_ GE180.out) | exact HB.out)) hb); clear BK179; clear BK180; clear HB; have BK179 := n0_; have BK180 := n1_; have HB := n2_; clear n0_ n1_ n2_; (try clear hb); (try clear hb2); (try clear hk); (try clear hi); have hcz20_0 : w19.cell? ⟨gb179, 0, none⟩ = some (.string a0_0) := (blk_cell BK179.out 0).trans rfl; have hcz20_1 : w19.cell? ⟨gb179, 1, none⟩ = some (.slice A0_1 l0_1.length c0_1) := (blk_cell BK179.out 1).trans rfl; have hcz20_2 : w19.cell? ⟨gb179, 2, none⟩ = some (.slice A0_2 l0_2.length c0_2) := (blk_cell BK179.out 2).trans rfl; have hcz20_3 : w19.cell? ⟨gb179, 3, none⟩ = some (.slice A0_3 l0_3.length c0_3) := (blk_cell BK179.out 3).trans rfl; have hfz20_0 := blk_frozen BK179.out 0; have hfz20_1 := blk_frozen BK179.out 1; have hfz20_2 := blk_frozen BK179.out 2; have hfz20_3 := blk_frozen BK179.out 3; have hcz21_0 : w19.cell? ⟨gb180, 0, none⟩ = some (.string a1_0) := (blk_cell BK180.out 0).trans rfl; have hcz21_1 : w19.cell? ⟨gb180, 1, none⟩ = some (.slice A1_1 l1_1.length c1_1) := (blk_cell BK180.out 1).trans rfl; have hcz21_2 : w19.cell? ⟨gb180, 2, none⟩ = some (.slice A1_2 l1_2.length c1_2) := (blk_cell BK180.out 2).trans rfl; have hcz21_3 : w19.cell? ⟨gb180, 3, none⟩ = some (.slice A1_3 l1_3.length c1_3) := (blk_cell BK180.out 3).trans rfl; have hfz21_0 := blk_frozen BK180.out 0; have hfz21_1 := blk_frozen BK180.out 1; have hfz21_2 := blk_frozen BK180.out 2; have hfz21_3 := blk_frozen BK180.out 3))
          go_meet
          case rel => exact ⟨_, (true), (by first | rfl | (simp; done) | (simp [*]; done)), H', ⟨by first | omega | exact Nat.le_refl _⟩, ⟨by (with_reducible repeat (first | refine blk_drewN ?_ _ | refine blk_drew ?_ | refine blk_alloc ?_ _)); exact BK179.out⟩, ⟨by (with_reducible repeat (first | refine blk_drewN ?_ _ | refine blk_drew ?_ | refine blk_alloc ?_ _)); exact BK180.out⟩, ⟨by repeat (first | (with_reducible first | exact HB.out | apply below_alloc | apply pw_below_drewN | apply below_drew1 | refine below_set ?_ GE179.out | refine below_set ?_ GE180.out) | exact HB.out)⟩⟩
      · replace c8 := Bool.eq_false_iff.mpr c8
        subst c8
        have H1 : (provisoplain_SameModule.j0 k true a0_0 l0_1 l0_2 l0_3 a1_0 l1_1 l1_2 l1_3) = some r := by rw [if_neg (show ¬ (false = true) by decide)] at H; exact H
        clear H
        have H := H1
        clear H1
        have H' := Aside0.mk H
        clear H
        have hnb22 := NB179_180.out
        have hnc22 := NB180_179.out
        have hcz23_0 : w5.cell? ⟨gb179, 0, none⟩ = some (.string a0_0) := (blk_cell BK179.out 0).trans rfl
        have hcz23_1 : w5.cell? ⟨gb179, 1, none⟩ = some (.slice A0_1 l0_1.length c0_1) := (blk_cell BK179.out 1).trans rfl
        have hcz23_2 : w5.cell? ⟨gb179, 2, none⟩ = some (.slice A0_2 l0_2.length c0_2) := (blk_cell BK179.out 2).trans rfl
        have hcz23_3 : w5.cell? ⟨gb179, 3, none⟩ = some (.slice A0_3 l0_3.length c0_3) := (blk_cell BK179.out 3).trans rfl
        have hfz23_0 := blk_frozen BK179.out 0
        have hfz23_1 := blk_frozen BK179.out 1
        have hfz23_2 := blk_frozen BK179.out 2
        have hfz23_3 := blk_frozen BK179.out 3
        have hcz24_0 : w5.cell? ⟨gb180, 0, none⟩ = some (.string a1_0) := (blk_cell BK180.out 0).trans rfl
        have hcz24_1 : w5.cell? ⟨gb180, 1, none⟩ = some (.slice A1_1 l1_1.length c1_1) := (blk_cell BK180.out 1).trans rfl
        have hcz24_2 : w5.cell? ⟨gb180, 2, none⟩ = some (.slice A1_2 l1_2.length c1_2) := (blk_cell BK180.out 2).trans rfl
        have hcz24_3 : w5.cell? ⟨gb180, 3, none⟩ = some (.slice A1_3 l1_3.length c1_3) := (blk_cell BK180.out 3).trans rfl
        have hfz24_0 := blk_frozen BK180.out 0
        have hfz24_1 := blk_frozen BK180.out 1
        have hfz24_2 := blk_frozen BK180.out 2
        have hfz24_3 := blk_frozen BK180.out 3
        go_wp2_with (first | (go_at_call 35; (with_reducible refine (provisoplain_SameClasses.calls k _ _ l0_1 _ _ l1_1 false _ ?side1 ?side2 ?side3 ?side4 A7.out).mono ?_); (case side1 => repeat (first | exact (Kd.C_below HR0_1.out HB.out) | (with_reducible refine Kd.C_alloc ?_ _) | (with_reducible refine Kd.C_drewN ?_ _) | (with_reducible refine Kd.C_drew ?_))); (case side2 => exact HC0_1.out); (case side3 => repeat (first | exact (Kd.C_below HR1_1.out HB.out) | (with_reducible refine Kd.C_alloc ?_ _) | (with_reducible refine Kd.C_drewN ?_ _) | (with_reducible refine Kd.C_drew ?_))); (case side4 => exact HC1_1.out); rintro e w25 ⟨rfl, hb⟩; have n0_ := Aside0.mk (blk_below (g := gb179) (o := .cells #[.string a0_0, .slice A0_1 l0_1.length c0_1, .slice A0_2 l0_2.length c0_2, .slice A0_3 l0_3.length c0_3] 26 (0, 0)) (by (with_reducible repeat (first | refine blk_drewN ?_ _ | refine blk_drew ?_ | refine blk_alloc ?_ _)); exact BK179.out) hb); have n1_ := Aside0.mk (blk_below (g := gb180) (o := .cells #[.string a1_0, .slice A1_1 l1_1.length c1_1, .slice A1_2 l1_2.length c1_2, .slice A1_3 l1_3.length c1_3] 26 (0, 0)) (by (with_reducible repeat (first | refine blk_drewN ?_ _ | refine blk_drew ?_ | refine blk_alloc ?_ _)); exact BK180.out) hb); have n2_ := Aside0.mk (below_step (by repeat (first | (with_reducible first | exact HB.out | apply below_alloc | apply pw_below_drewN | apply below_drew1 | refine below_set ?_ GE179.out | refine below_set ?_ GE180.out) | exact HB.out)) hb); clear BK179; clear BK180; clear HB; have BK179 := n0_; have BK180 := n1_; have HB := n2_; clear n0_ n1_ n2_; (try clear hb); (try clear hb2); (try clear hk); (try clear hi)))
        go_meet
        case rel => exact ⟨_, (true), (by first | rfl | (simp; done) | (simp [*]; done)), H', ⟨by first | omega | exact Nat.le_refl _⟩, ⟨by (with_reducible repeat (first | refine blk_drewN ?_ _ | refine blk_drew ?_ | refine blk_alloc ?_ _)); exact BK179.out⟩, ⟨by (with_reducible repeat (first | refine blk_drewN ?_ _ | refine blk_drew ?_ | refine blk_alloc ?_ _)); exact BK180.out⟩, ⟨by repeat (first | (with_reducible first | exact HB.out | apply below_alloc | apply pw_below_drewN | apply below_drew1 | refine below_set ?_ GE179.out | refine below_set ?_ GE180.out) | exact HB.out)⟩⟩
    · rw [if_neg c6] at H
      have c6b0 : (a0_0.toList == a1_0.toList) = false := beq_eq_false_iff_ne.mpr c6
      have c6b1 : (a0_0.toList != a1_0.toList) = true := bne_iff_ne.mpr c6
      (first | rw [c6b0] | (simp only [i64_w, i32_w]; rw [c6b0]) | skip)
      have H' := Aside0.mk H
      clear H
      have hnb26 := NB179_180.out
      have hnc26 := NB180_179.out
      have hcz27_0 : w5.cell? ⟨gb179, 0, none⟩ = some (.string a0_0) := (blk_cell BK179.out 0).trans rfl
      have hcz27_1 : w5.cell? ⟨gb179, 1, none⟩ = some (.slice A0_1 l0_1.length c0_1) := (blk_cell BK179.out 1).trans rfl
      have hcz27_2 : w5.cell? ⟨gb179, 2, none⟩ = some (.slice A0_2 l0_2.length c0_2) := (blk_cell BK179.out 2).trans rfl
      have hcz27_3 : w5.cell? ⟨gb179, 3, none⟩ = some (.slice A0_3 l0_3.length c0_3) := (blk_cell BK179.out 3).trans rfl
      have hfz27_0 := blk_frozen BK179.out 0
      have hfz27_1 := blk_frozen BK179.out 1
      have hfz27_2 := blk_frozen BK179.out 2
      have hfz27_3 := blk_frozen BK179.out 3
      have hcz28_0 : w5.cell? ⟨gb180, 0, none⟩ = some (.string a1_0) := (blk_cell BK180.out 0).trans rfl
      have hcz28_1 : w5.cell? ⟨gb180, 1, none⟩ = some (.slice A1_1 l1_1.length c1_1) := (blk_cell BK180.out 1).trans rfl
      have hcz28_2 : w5.cell? ⟨gb180, 2, none⟩ = some (.slice A1_2 l1_2.length c1_2) := (blk_cell BK180.out 2).trans rfl
      have hcz28_3 : w5.cell? ⟨gb180, 3, none⟩ = some (.slice A1_3 l1_3.length c1_3) := (blk_cell BK180.out 3).trans rfl
      have hfz28_0 := blk_frozen BK180.out 0
      have hfz28_1 := blk_frozen BK180.out 1
      have hfz28_2 := blk_frozen BK180.out 2
      have hfz28_3 := blk_frozen BK180.out 3
      go_wp2
      go_meet
      case rel => exact ⟨_, (true), (by first | rfl | (simp; done) | (simp [*]; done)), H', ⟨by first | omega | exact Nat.le_refl _⟩, ⟨by (with_reducible repeat (first | refine blk_drewN ?_ _ | refine blk_drew ?_ | refine blk_alloc ?_ _)); exact BK179.out⟩, ⟨by (with_reducible repeat (first | refine blk_drewN ?_ _ | refine blk_drew ?_ | refine blk_alloc ?_ _)); exact BK180.out⟩, ⟨by repeat (first | (with_reducible first | exact HB.out | apply below_alloc | apply pw_below_drewN | apply below_drew1 | refine below_set ?_ GE179.out | refine below_set ?_ GE180.out) | exact HB.out)⟩⟩
  case rest =>
    clear HC3
    try clear c1
    try clear c2
    try clear p2
    try clear c6
    try clear c6b0
    try clear c6b1
    try clear c8
    try clear c9
    try clear c9b0
    try clear c9b1
    try clear c9b2
    try clear c10
    try clear c14
    try clear c16
    try clear c22
    try clear c26
    try clear hcz11_0
    try clear hcz11_1
    try clear hcz11_2
    try clear hcz11_3
    try clear hcz12_0
    try clear hcz12_1
    try clear hcz12_2
    try clear hcz12_3
    try clear hcz14_0
    try clear hcz14_1
    try clear hcz14_2
    try clear hcz14_3
    try clear hcz15_0
    try clear hcz15_1
    try clear hcz15_2
    try clear hcz15_3
    try clear hcz17_0
    try clear hcz17_1
    try clear hcz17_2
    try clear hcz17_3
    try clear hcz18_0
    try clear hcz18_1
    try clear hcz18_2
    try clear hcz18_3
    try clear hcz20_0
    try clear hcz20_1
    try clear hcz20_2
    try clear hcz20_3
    try clear hcz21_0
    try clear hcz21_1
    try clear hcz21_2
    try clear hcz21_3
    try clear hcz23_0
    try clear hcz23_1
    try clear hcz23_2
    try clear hcz23_3
    try clear hcz24_0
    try clear hcz24_1
    try clear hcz24_2
    try clear hcz24_3
    try clear hcz27_0
    try clear hcz27_1
    try clear hcz27_2
    try clear hcz27_3
    try clear hcz28_0
    try clear hcz28_1
    try clear hcz28_2
    try clear hcz28_3
    try clear hfz11_0
    try clear hfz11_1
    try clear hfz11_2
    try clear hfz11_3
    try clear hfz12_0
    try clear hfz12_1
    try clear hfz12_2
    try clear hfz12_3
    try clear hfz14_0
    try clear hfz14_1
    try clear hfz14_2
    try clear hfz14_3
    try clear hfz15_0
    try clear hfz15_1
    try clear hfz15_2
    try clear hfz15_3
    try clear hfz17_0
    try clear hfz17_1
    try clear hfz17_2
    try clear hfz17_3
    try clear hfz18_0
    try clear hfz18_1
    try clear hfz18_2
    try clear hfz18_3
    try clear hfz20_0
    try clear hfz20_1
    try clear hfz20_2
    try clear hfz20_3
    try clear hfz21_0
    try clear hfz21_1
    try clear hfz21_2
    try clear hfz21_3
    try clear hfz23_0
    try clear hfz23_1
    try clear hfz23_2
    try clear hfz23_3
    try clear hfz24_0
    try clear hfz24_1
    try clear hfz24_2
    try clear hfz24_3
    try clear hfz27_0
    try clear hfz27_1
    try clear hfz27_2
    try clear hfz27_3
    try clear hfz28_0
    try clear hfz28_1
    try clear hfz28_2
    try clear hfz28_3
    obtain ⟨kq, x37_2, rfl, HA, HJ2, BK179, BK180, HB⟩ := hcut
    cases kq with
    | zero => exact absurd HA.out (by simp [provisoplain_SameModule.j0])
    | succ kj2 =>
      have H := HA.out
      clear HA
      simp only [provisoplain_SameModule.j0] at H
      by_cases c29 : x37_2 = true
      · subst c29
        have H1 : (some false) = some r := by rw [if_pos rfl] at H; exact H
        clear H
        have H := H1
        clear H1
        obtain rfl := Option.some.inj H
        go_wp2
        go_ret
        exact ⟨by first | rfl | (simp [errW_none, errW_some] <;> rfl) | (simp [*, errW_none, errW_some] <;> rfl), by repeat (first | (with_reducible first | exact HB.out | apply below_alloc | apply pw_below_drewN | apply below_drew1 | refine below_set ?_ GE179.out | refine below_set ?_ GE180.out) | exact HB.out)⟩
      · replace c29 := Bool.eq_false_iff.mpr c29
        subst c29
        have H1 : (provisoplain_SameModule.l0 kj2 (l0_2.length : Int) 0 a0_0 l0_1 l0_2 l0_3 a1_0 l1_1 l1_2 l1_3) = some r := by rw [if_neg (show ¬ (false = true) by decide)] at H; exact H
        clear H
        have H := H1
        clear H1
        have H' := Aside0.mk H
        clear H
        have hnb30 := NB179_180.out
        have hnc30 := NB180_179.out
        have hcz31_0 : wc.cell? ⟨gb179, 0, none⟩ = some (.string a0_0) := (blk_cell BK179.out 0).trans rfl
        have hcz31_1 : wc.cell? ⟨gb179, 1, none⟩ = some (.slice A0_1 l0_1.length c0_1) := (blk_cell BK179.out 1).trans rfl
        have hcz31_2 : wc.cell? ⟨gb179, 2, none⟩ = some (.slice A0_2 l0_2.length c0_2) := (blk_cell BK179.out 2).trans rfl
        have hcz31_3 : wc.cell? ⟨gb179, 3, none⟩ = some (.slice A0_3 l0_3.length c0_3) := (blk_cell BK179.out 3).trans rfl
        have hfz31_0 := blk_frozen BK179.out 0
        have hfz31_1 := blk_frozen BK179.out 1
        have hfz31_2 := blk_frozen BK179.out 2
        have hfz31_3 := blk_frozen BK179.out 3
        go_wp2
        go_loopg [41] kj2 (fun kq v41 w' => ∃ (x41_2 : Int), v41 = .int .i64 x41_2 ∧ Aside0 (provisoplain_SameModule.l0 kq (l0_2.length : Int) x41_2 a0_0 l0_1 l0_2 l0_3 a1_0 l1_1 l1_2 l1_3 = some r) ∧ Aside0 (kq ≤ kj2) ∧ Aside0 (w'.heap[gb179]? = some (.cells #[.string a0_0, (.slice A0_1 l0_1.length c0_1), (.slice A0_2 l0_2.length c0_2), (.slice A0_3 l0_3.length c0_3)] 26 (0, 0))) ∧ Aside0 (w'.heap[gb180]? = some (.cells #[.string a1_0, (.slice A1_1 l1_1.length c1_1), (.slice A1_2 l1_2.length c1_2), (.slice A1_3 l1_3.length c1_3)] 26 (0, 0))) ∧ Aside0 (Below w.heap.size w w'))
        case atStart => exact ⟨(0), (by first | rfl | (simp; done) | (simp [*]; done)), H', ⟨Nat.le_refl _⟩, ⟨by (with_reducible repeat (first | refine blk_drewN ?_ _ | refine blk_drew ?_ | refine blk_alloc ?_ _)); exact BK179.out⟩, ⟨by (with_reducible repeat (first | refine blk_drewN ?_ _ | refine blk_drew ?_ | refine blk_alloc ?_ _)); exact BK180.out⟩, ⟨by repeat (first | (with_reducible first | exact HB.out | apply below_alloc | apply pw_below_drewN | apply below_drew1 | refine below_set ?_ GE179.out | refine below_set ?_ GE180.out) | exact HB.out)⟩⟩
        case round =>
          clear H'
          try clear c1
          try clear c2
          try clear p2
          try clear c3
          try clear c6
          try clear c6b0
          try clear c6b1
          try clear c8
          try clear c9
          try clear c9b0
          try clear c9b1
          try clear c9b2
          try clear c10
          try clear c14
          try clear c16
          try clear c22
          try clear c26
          try clear c29
          try clear c30
          try clear hcz11_0
          try clear hcz11_1
          try clear hcz11_2
          try clear hcz11_3
          try clear hcz12_0
          try clear hcz12_1
          try clear hcz12_2
          try clear hcz12_3
          try clear hcz14_0
          try clear hcz14_1
          try clear hcz14_2
          try clear hcz14_3
          try clear hcz15_0
          try clear hcz15_1
          try clear hcz15_2
          try clear hcz15_3
          try clear hcz17_0
          try clear hcz17_1
          try clear hcz17_2
          try clear hcz17_3
          try clear hcz18_0
          try clear hcz18_1
          try clear hcz18_2
          try clear hcz18_3
          try clear hcz20_0
          try clear hcz20_1
          try clear hcz20_2
          try clear hcz20_3
          try clear hcz21_0
          try clear hcz21_1
          try clear hcz21_2
          try clear hcz21_3
          try clear hcz23_0
          try clear hcz23_1
          try clear hcz23_2
          try clear hcz23_3
          try clear hcz24_0
          try clear hcz24_1
          try clear hcz24_2
          try clear hcz24_3
          try clear hcz27_0
          try clear hcz27_1
          try clear hcz27_2
          try clear hcz27_3
          try clear hcz28_0
          try clear hcz28_1
          try clear hcz28_2
          try clear hcz28_3
          try clear hcz31_0
          try clear hcz31_1
          try clear hcz31_2
          try clear hcz31_3
          try clear hfz11_0
          try clear hfz11_1
          try clear hfz11_2
          try clear hfz11_3
          try clear hfz12_0
          try clear hfz12_1
          try clear hfz12_2
          try clear hfz12_3
          try clear hfz14_0
          try clear hfz14_1
          try clear hfz14_2
          try clear hfz14_3
          try clear hfz15_0
          try clear hfz15_1
          try clear hfz15_2
          try clear hfz15_3
          try clear hfz17_0
          try clear hfz17_1
          try clear hfz17_2
          try clear hfz17_3
          try clear hfz18_0
          try clear hfz18_1
          try clear hfz18_2
          try clear hfz18_3
          try clear hfz20_0
          try clear hfz20_1
          try clear hfz20_2
          try clear hfz20_3
          try clear hfz21_0
          try clear hfz21_1
          try clear hfz21_2
          try clear hfz21_3
          try clear hfz23_0
          try clear hfz23_1
          try clear hfz23_2
          try clear hfz23_3
          try clear hfz24_0
          try clear hfz24_1
          try clear hfz24_2
          try clear hfz24_3
          try clear hfz27_0
          try clear hfz27_1
          try clear hfz27_2
          try clear hfz27_3
          try clear hfz28_0
          try clear hfz28_1
          try clear hfz28_2
          try clear hfz28_3
          try clear hfz31_0
          try clear hfz31_1
          try clear hfz31_2
          try clear hfz31_3
          try clear p2
          obtain ⟨x41_2, rfl, HA, HK2, BK179, BK180, HB⟩ := hrel
          cases gk with
          | zero => exact absurd HA.out (by simp [provisoplain_SameModule.l0])
          | succ k2 =>
            have H := HA.out
            clear HA
            simp only [provisoplain_SameModule.l0] at H
            by_cases c32 : x41_2 < (l0_2.length : Int)
            · rw [if_pos c32] at H
              have c32b0 : decide (x41_2 < (l0_2.length : Int)) = true := decide_eq_true c32
              clear c32
              by_cases c33 : 0 ≤ x41_2
              · rw [if_pos c33] at H
                have c33b0 : decide (0 ≤ x41_2) = true := decide_eq_true c33
                clear c33
                by_cases c34 : x41_2 < (l0_2.length : Int)
                · rw [if_pos c34] at H
                  have c34b0 : decide (x41_2 < (l0_2.length : Int)) = true := decide_eq_true c34
                  clear c34
                  by_cases c35 : x41_2 < (l1_2.length : Int)
                  · rw [if_pos c35] at H
                    have c35b0 : decide (x41_2 < (l1_2.length : Int)) = true := decide_eq_true c35
                    clear c35
                    replace H := Option.bind_eq_some_iff.mp H
                    obtain ⟨t184, A360, H⟩ := H
                    replace H : (if t184 = true then (provisoplain_SameModule.l0 k2 (l0_2.length : Int) (wrap64 (x41_2 + 1)) a0_0 l0_1 l0_2 l0_3 a1_0 l1_1 l1_2 l1_3) else (some false)) = some r := H
                    have A36 := Aside0.mk A360
                    clear A360
                    by_cases c37 : t184 = true
                    · subst c37
                      have H1 : (provisoplain_SameModule.l0 k2 (l0_2.length : Int) (wrap64 (x41_2 + 1)) a0_0 l0_1 l0_2 l0_3 a1_0 l1_1 l1_2 l1_3) = some r := by rw [if_pos rfl] at H; exact H
                      clear H
                      have H := H1
                      clear H1
                      have H' := Aside0.mk H
                      clear H
                      try go_wp2
                      have n0_ := Aside0.mk (blk_drew BK179.out)
                      have n1_ := Aside0.mk (blk_drew BK180.out)
                      have n2_ := Aside0.mk (below_drew1 HB.out)
                      clear BK179
                      clear BK180
                      clear HB
                      have BK179 := n0_
                      have BK180 := n1_
                      have HB := n2_
                      clear n0_ n1_ n2_
                      have p182 : 0 ≤ (x41_2 : Int) := of_decide_eq_true (by first | (with_reducible assumption) | assumption)
                      have q182 : x41_2 < (l0_2.length : Int) := of_decide_eq_true (by first | (with_reducible assumption) | assumption)
                      obtain ⟨ad182, A182_1, c182_1, A182_4, c182_4, e182, hx182_0, hx182_1, hx182_2, hx182_3, hx182_4, hl182_1, hi182_1, hl182_4, hi182_4⟩ := at_T49 HR0_2.out x41_2 p182 q182
                      have hw182_4 := hx182_4
                      have hw182_3 := hx182_3
                      have hw182_2 := hx182_2
                      have hw182_1 := hx182_1
                      have hw182_0 := hx182_0
                      cases e182
                      replace hx182_0 := (HB.out.cell (World.block_lt_of_cell? w _ hx182_0)).trans hx182_0
                      replace hx182_1 := (HB.out.cell (World.block_lt_of_cell? w _ hx182_1)).trans hx182_1
                      replace hx182_2 := (HB.out.cell (World.block_lt_of_cell? w _ hx182_2)).trans hx182_2
                      replace hx182_3 := (HB.out.cell (World.block_lt_of_cell? w _ hx182_3)).trans hx182_3
                      replace hx182_4 := (HB.out.cell (World.block_lt_of_cell? w _ hx182_4)).trans hx182_4
                      have HR182_1 := Aside0.mk hi182_1
                      have HC182_1 := Aside0.mk hl182_1
                      clear hi182_1 hl182_1
                      have HR182_4 := Aside0.mk hi182_4
                      have HC182_4 := Aside0.mk hl182_4
                      clear hi182_4 hl182_4
                      replace p182 := eq_true p182
                      replace q182 := eq_true q182
                      have p183 : 0 ≤ (x41_2 : Int) := of_decide_eq_true (by first | (with_reducible assumption) | assumption)
                      have q183 : x41_2 < (l1_2.length : Int) := of_decide_eq_true (by first | (with_reducible assumption) | assumption)
                      obtain ⟨ad183, A183_1, c183_1, A183_4, c183_4, e183, hx183_0, hx183_1, hx183_2, hx183_3, hx183_4, hl183_1, hi183_1, hl183_4, hi183_4⟩ := at_T49 HR1_2.out x41_2 p183 q183
                      have hw183_4 := hx183_4
                      have hw183_3 := hx183_3
                      have hw183_2 := hx183_2
                      have hw183_1 := hx183_1
                      have hw183_0 := hx183_0
                      cases e183
                      replace hx183_0 := (HB.out.cell (World.block_lt_of_cell? w _ hx183_0)).trans hx183_0
                      replace hx183_1 := (HB.out.cell (World.block_lt_of_cell? w _ hx183_1)).trans hx183_1
                      replace hx183_2 := (HB.out.cell (World.block_lt_of_cell? w _ hx183_2)).trans hx183_2
                      replace hx183_3 := (HB.out.cell (World.block_lt_of_cell? w _ hx183_3)).trans hx183_3
                      replace hx183_4 := (HB.out.cell (World.block_lt_of_cell? w _ hx183_4)).trans hx183_4
                      have HR183_1 := Aside0.mk hi183_1
                      have HC183_1 := Aside0.mk hl183_1
                      clear hi183_1 hl183_1
                      have HR183_4 := Aside0.mk hi183_4
                      have HC183_4 := Aside0.mk hl183_4
                      clear hi183_4 hl183_4
                      replace p183 := eq_true p183
                      replace q183 := eq_true q183
                      refine start_ (n := 12) (S := fun w' => w'.cell? ⟨gb179, 0, none⟩ = some (.string a0_0) ∧ w'.cell? ⟨gb179, 1, none⟩ = some (.slice A0_1 l0_1.length c0_1) ∧ w'.cell? ⟨gb179, 2, none⟩ = some (.slice (some ad182) l0_2.length c0_2) ∧ w'.cell? ⟨gb179, 3, none⟩ = some (.slice A0_3 l0_3.length c0_3) ∧ w'.cell? ⟨gb180, 0, none⟩ = some (.string a1_0) ∧ w'.cell? ⟨gb180, 1, none⟩ = some (.slice A1_1 l1_1.length c1_1) ∧ w'.cell? ⟨gb180, 2, none⟩ = some (.slice (some ad183) l1_2.length c1_2) ∧ w'.cell? ⟨gb180, 3, none⟩ = some (.slice A1_3 l1_3.length c1_3) ∧ w'.cell? (ad182.add ((x41_2).toNat * 5)) = some (.string ((rd_T49 l0_2 x41_2).f0)) ∧ w'.cell? ⟨(ad182.add ((x41_2).toNat * 5)).block, (ad182.add ((x41_2).toNat * 5)).off + 1, none⟩ = some (.slice A182_1 ((rd_T49 l0_2 x41_2).f1.f0).length c182_1) ∧ w'.cell? ⟨(ad182.add ((x41_2).toNat * 5)).block, (ad182.add ((x41_2).toNat * 5)).off + 2, none⟩ = some (.int .u8 ((rd_T49 l0_2 x41_2).f1.f1)) ∧ w'.cell? ⟨(ad182.add ((x41_2).toNat * 5)).block, (ad182.add ((x41_2).toNat * 5)).off + 3, none⟩ = some (.int .i64 ((rd_T49 l0_2 x41_2).f2)) ∧ w'.cell? ⟨(ad182.add ((x41_2).toNat * 5)).block, (ad182.add ((x41_2).toNat * 5)).off + 4, none⟩ = some (.slice A182_4 ((rd_T49 l0_2 x41_2).f3).length c182_4) ∧ w'.cell? (ad183.add ((x41_2).toNat * 5)) = some (.string ((rd_T49 l1_2 x41_2).f0)) ∧ w'.cell? ⟨(ad183.add ((x41_2).toNat * 5)).block, (ad183.add ((x41_2).toNat * 5)).off + 1, none⟩ = some (.slice A183_1 ((rd_T49 l1_2 x41_2).f1.f0).length c183_1) ∧ w'.cell? ⟨(ad183.add ((x41_2).toNat * 5)).block, (ad183.add ((x41_2).toNat * 5)).off + 2, none⟩ = some (.int .u8 ((rd_T49 l1_2 x41_2).f1.f1)) ∧ w'.cell? ⟨(ad183.add ((x41_2).toNat * 5)).block, (ad183.add ((x41_2).toNat * 5)).off + 3, none⟩ = some (.int .i64 ((rd_T49 l1_2 x41_2).f2)) ∧ w'.cell? ⟨(ad183.add ((x41_2).toNat * 5)).block, (ad183.add ((x41_2).toNat * 5)).off + 4, none⟩ = some (.slice A183_4 ((rd_T49 l1_2 x41_2).f3).length c183_4)) (ds := []) #[false, false, false, false, false, false, false, false, false, false, false, false] (by kernel_rfl) rfl rfl ⟨(blk_cell BK179.out 0).trans rfl, (blk_cell BK179.out 1).trans rfl, (blk_cell BK179.out 2).trans rfl, (blk_cell BK179.out 3).trans rfl, (blk_cell BK180.out 0).trans rfl, (blk_cell BK180.out 1).trans rfl, (blk_cell BK180.out 2).trans rfl, (blk_cell BK180.out 3).trans rfl, ((HB.out.cell (World.block_lt_of_cell? w _ hw182_0)).trans hw182_0), ((HB.out.cell (World.block_lt_of_cell? w _ hw182_1)).trans hw182_1), ((HB.out.cell (World.block_lt_of_cell? w _ hw182_2)).trans hw182_2), ((HB.out.cell (World.block_lt_of_cell? w _ hw182_3)).trans hw182_3), ((HB.out.cell (World.block_lt_of_cell? w _ hw182_4)).trans hw182_4), ((HB.out.cell (World.block_lt_of_cell? w _ hw183_0)).trans hw183_0), ((HB.out.cell (World.block_lt_of_cell? w _ hw183_1)).trans hw183_1), ((HB.out.cell (World.block_lt_of_cell? w _ hw183_2)).trans hw183_2), ((HB.out.cell (World.block_lt_of_cell? w _ hw183_3)).trans hw183_3), ((HB.out.cell (World.block_lt_of_cell? w _ hw183_4)).trans hw183_4)⟩ (fun hHeld => ?_); refine with_tabW provisoplain_SameModule.tab6 provisoplain_SameModule.bits6 (fun HT_ HW_ => ?_)
                      generalize wr.drew = w38 at BK179 BK180 HB HR182_1 HR182_4 HR183_1 HR183_4 hx182_0 hx182_1 hx182_2 hx182_3 hx182_4 hx183_0 hx183_1 hx183_2 hx183_3 hx183_4 hHeld ⊢
                      refine pure_ (i := 0) (N := some 44) (v := ?_) (a' := ?_) #[true, false, false, false, false, false, false, false, false, false, false, false] rfl rfl (any_of HT_.out (by kernel_rfl)) (fun _ _ _ h => h) (Or.inl ⟨by rfl, ?_⟩) ?_ ?_
                      rotate_left
                      · intro w'
                        go_simp
                        with_reducible rfl
                      rotate_left
                      · simp only [Act.put, List.setIfInBounds_toArray, List.set_cons_zero, List.set_cons_succ, i64_w, i32_w]
                        rfl
                      refine pure_ (i := 2) (N := some 46) (v := ?_) (a' := ?_) #[true, false, true, false, false, false, false, false, false, false, false, false] rfl rfl (any_of HT_.out (by kernel_rfl)) (fun _ _ _ h => h) (Or.inl ⟨by rfl, ?_⟩) ?_ ?_
                      rotate_left
                      · intro w'
                        go_simp
                        with_reducible rfl
                      rotate_left
                      · simp only [Act.put, List.setIfInBounds_toArray, List.set_cons_zero, List.set_cons_succ, i64_w, i32_w]
                        rfl
                      refine pure_ (i := 5) (N := some 49) (v := ?_) (a' := ?_) #[true, false, true, false, false, true, false, false, false, false, false, false] rfl rfl (any_of HT_.out (by kernel_rfl)) (fun _ _ _ h => h) (Or.inl ⟨by rfl, ?_⟩) ?_ ?_
                      rotate_left
                      · intro w'
                        go_simp
                        with_reducible rfl
                      rotate_left
                      · simp only [Act.put, List.setIfInBounds_toArray, List.set_cons_zero, List.set_cons_succ, i64_w, i32_w]
                        rfl
                      refine pure_ (i := 7) (N := some 51) (v := ?_) (a' := ?_) #[true, false, true, false, false, true, false, true, false, false, false, false] rfl rfl (any_of HT_.out (by kernel_rfl)) (fun _ _ _ h => h) (Or.inl ⟨by rfl, ?_⟩) ?_ ?_
                      rotate_left
                      · intro w'
                        go_simp
                        with_reducible rfl
                      rotate_left
                      · simp only [Act.put, List.setIfInBounds_toArray, List.set_cons_zero, List.set_cons_succ, i64_w, i32_w]
                        rfl
                      refine take_ (i := 1) (N := some 45) (v := ?_) (a' := ?_) #[true, true, true, false, false, true, false, true, false, false, false, false] rfl rfl (take_ofW HT_.out HW_.out (by kernel_rfl)) (fun _ _ _ h => h) (Or.inl ⟨by rfl, ?_⟩) hHeld ?_ ?_
                      rotate_left
                      · rintro w' ⟨s0, s1, s2, s3, s4, s5, s6, s7, s8, s9, s10, s11, s12, s13, s14, s15, s16, s17⟩
                        go_simp
                        with_reducible rfl
                      rotate_left
                      · simp only [Act.put, List.setIfInBounds_toArray, List.set_cons_zero, List.set_cons_succ, i64_w, i32_w]
                        rfl
                      refine pure_ (i := 3) (N := some 47) (v := ?_) (a' := ?_) #[true, true, true, true, false, true, false, true, false, false, false, false] rfl rfl (any_of HT_.out (by kernel_rfl)) (fun _ _ _ h => h) (Or.inl ⟨by rfl, ?_⟩) ?_ ?_
                      rotate_left
                      · intro w'
                        go_simp
                        with_reducible rfl
                      rotate_left
                      · simp only [Act.put, List.setIfInBounds_toArray, List.set_cons_zero, List.set_cons_succ, i64_w, i32_w]
                        rfl
                      refine take_ (i := 4) (N := some 48) (v := ?_) (a' := ?_) #[true, true, true, true, true, true, false, true, false, false, false, false] rfl rfl (take_ofW HT_.out HW_.out (by kernel_rfl)) (fun _ _ _ h => h) (Or.inl ⟨by rfl, ?_⟩) hHeld ?_ ?_
                      rotate_left
                      · rintro w' ⟨s0, s1, s2, s3, s4, s5, s6, s7, s8, s9, s10, s11, s12, s13, s14, s15, s16, s17⟩
                        go_simp
                        with_reducible rfl
                      rotate_left
                      · simp only [Act.put, List.setIfInBounds_toArray, List.set_cons_zero, List.set_cons_succ, i64_w, i32_w]
                        rfl
                      refine take_ (i := 6) (N := some 50) (v := ?_) (a' := ?_) #[true, true, true, true, true, true, true, true, false, false, false, false] rfl rfl (take_ofW HT_.out HW_.out (by kernel_rfl)) (fun _ _ _ h => h) (Or.inl ⟨by rfl, ?_⟩) hHeld ?_ ?_
                      rotate_left
                      · rintro w' ⟨s0, s1, s2, s3, s4, s5, s6, s7, s8, s9, s10, s11, s12, s13, s14, s15, s16, s17⟩
                        go_simp
                        with_reducible rfl
                      rotate_left
                      · simp only [Act.put, List.setIfInBounds_toArray, List.set_cons_zero, List.set_cons_succ, i64_w, i32_w]
                        rfl
                      refine pure_ (i := 8) (N := some 52) (v := ?_) (a' := ?_) #[true, true, true, true, true, true, true, true, true, false, false, false] rfl rfl (any_of HT_.out (by kernel_rfl)) (fun _ _ _ h => h) (Or.inl ⟨by rfl, ?_⟩) ?_ ?_
                      rotate_left
                      · intro w'
                        go_simp
                        with_reducible rfl
                      rotate_left
                      · simp only [Act.put, List.setIfInBounds_toArray, List.set_cons_zero, List.set_cons_succ, i64_w, i32_w]
                        rfl
                      refine take_ (i := 9) (N := some 53) (v := ?_) (a' := ?_) #[true, true, true, true, true, true, true, true, true, true, false, false] rfl rfl (take_ofW HT_.out HW_.out (by kernel_rfl)) (fun _ _ _ h => h) (Or.inl ⟨by rfl, ?_⟩) hHeld ?_ ?_
                      rotate_left
                      · rintro w' ⟨s0, s1, s2, s3, s4, s5, s6, s7, s8, s9, s10, s11, s12, s13, s14, s15, s16, s17⟩
                        go_simp
                        with_reducible rfl
                      rotate_left
                      · simp only [Act.put, List.setIfInBounds_toArray, List.set_cons_zero, List.set_cons_succ, i64_w, i32_w]
                        rfl
                      refine one_ (i := 10) (N := some 54) #[true, true, true, true, true, true, true, true, true, true, true, false] rfl rfl (one_of HT_.out (by kernel_rfl)) (by decide) (fun K hK => ?_)
                      refine goes_ Try.func36 (by kernel_rfl) rfl #[.agg #[.string ((rd_T49 l0_2 x41_2).f0), .slice A182_1 ((rd_T49 l0_2 x41_2).f1.f0).length c182_1, .int .u8 ((rd_T49 l0_2 x41_2).f1.f1), .int .i64 ((rd_T49 l0_2 x41_2).f2), .slice A182_4 ((rd_T49 l0_2 x41_2).f3).length c182_4], .agg #[.string ((rd_T49 l1_2 x41_2).f0), .slice A183_1 ((rd_T49 l1_2 x41_2).f1.f0).length c183_1, .int .u8 ((rd_T49 l1_2 x41_2).f1.f1), .int .i64 ((rd_T49 l1_2 x41_2).f2), .slice A183_4 ((rd_T49 l1_2 x41_2).f3).length c183_4]] (by rfl) rfl rfl (by (try simp only [List.map_toArray, List.map_cons, List.map_nil]); first | done | rfl | (simp only [List.length_drop, List.length_take]; rfl)) ?_
                      with_reducible refine (provisoplain_SameFunc.calls k2 ((rd_T49 l0_2 x41_2).f0) _ _ ((rd_T49 l0_2 x41_2).f1.f0) ((rd_T49 l0_2 x41_2).f1.f1) ((rd_T49 l0_2 x41_2).f2) _ _ ((rd_T49 l0_2 x41_2).f3) ((rd_T49 l1_2 x41_2).f0) _ _ ((rd_T49 l1_2 x41_2).f1.f0) ((rd_T49 l1_2 x41_2).f1.f1) ((rd_T49 l1_2 x41_2).f2) _ _ ((rd_T49 l1_2 x41_2).f3) true _ ?side1 ?side2 ?side3 ?side4 ?side5 ?side6 ?side7 ?side8 A36.out).mono ?_
                      (case side1 => repeat (first | exact (Kd.C_below HR182_1.out HB.out) | (with_reducible refine Kd.C_alloc ?_ _) | (with_reducible refine Kd.C_drewN ?_ _) | (with_reducible refine Kd.C_drew ?_)))
                      (case side2 => exact HC182_1.out)
                      (case side3 => repeat (first | exact (Kd.C_below HR182_4.out HB.out) | (with_reducible refine Kd.C_alloc ?_ _) | (with_reducible refine Kd.C_drewN ?_ _) | (with_reducible refine Kd.C_drew ?_)))
                      (case side4 => exact HC182_4.out)
                      (case side5 => repeat (first | exact (Kd.C_below HR183_1.out HB.out) | (with_reducible refine Kd.C_alloc ?_ _) | (with_reducible refine Kd.C_drewN ?_ _) | (with_reducible refine Kd.C_drew ?_)))
                      (case side6 => exact HC183_1.out)
                      (case side7 => repeat (first | exact (Kd.C_below HR183_4.out HB.out) | (with_reducible refine Kd.C_alloc ?_ _) | (with_reducible refine Kd.C_drewN ?_ _) | (with_reducible refine Kd.C_drew ?_)))
                      (case side8 => exact HC183_4.out)
                      rintro e w39 ⟨rfl, hb⟩
                      refine ⟨_, rfl, ?_⟩
                      have n0_ := Aside0.mk (blk_below (g := gb179) (o := .cells #[.string a0_0, .slice A0_1 l0_1.length c0_1, .slice (some ad182) l0_2.length c0_2, .slice A0_3 l0_3.length c0_3] 26 (0, 0)) (by (with_reducible repeat (first | refine blk_drewN ?_ _ | refine blk_drew ?_ | refine blk_alloc ?_ _)); exact BK179.out) hb)
                      have n1_ := Aside0.mk (blk_below (g := gb180) (o := .cells #[.string a1_0, .slice A1_1 l1_1.length c1_1, .slice (some ad183) l1_2.length c1_2, .slice A1_3 l1_3.length c1_3] 26 (0, 0)) (by (with_reducible repeat (first | refine blk_drewN ?_ _ | refine blk_drew ?_ | refine blk_alloc ?_ _)); exact BK180.out) hb)
                      have n2_ := Aside0.mk (below_step (by repeat (first | (with_reducible first | exact HB.out | apply below_alloc | apply pw_below_drewN | apply below_drew1 | refine below_set ?_ GE179.out | refine below_set ?_ GE180.out) | exact HB.out)) hb)
                      clear BK179
                      clear BK180
                      clear HB
                      have BK179 := n0_
                      have BK180 := n1_
                      have HB := n2_
                      clear n0_ n1_ n2_
                      (try clear hb)
                      (try clear hb2)
                      (try clear hk)
                      (try clear hi)
                      refine hK.out _ _ ⟨(blk_cell BK179.out 0).trans rfl, (blk_cell BK179.out 1).trans rfl, (blk_cell BK179.out 2).trans rfl, (blk_cell BK179.out 3).trans rfl, (blk_cell BK180.out 0).trans rfl, (blk_cell BK180.out 1).trans rfl, (blk_cell BK180.out 2).trans rfl, (blk_cell BK180.out 3).trans rfl, ((HB.out.cell (World.block_lt_of_cell? w _ hw182_0)).trans hw182_0), ((HB.out.cell (World.block_lt_of_cell? w _ hw182_1)).trans hw182_1), ((HB.out.cell (World.block_lt_of_cell? w _ hw182_2)).trans hw182_2), ((HB.out.cell (World.block_lt_of_cell? w _ hw182_3)).trans hw182_3), ((HB.out.cell (World.block_lt_of_cell? w _ hw182_4)).trans hw182_4), ((HB.out.cell (World.block_lt_of_cell? w _ hw183_0)).trans hw183_0), ((HB.out.cell (World.block_lt_of_cell? w _ hw183_1)).trans hw183_1), ((HB.out.cell (World.block_lt_of_cell? w _ hw183_2)).trans hw183_2), ((HB.out.cell (World.block_lt_of_cell? w _ hw183_3)).trans hw183_3), ((HB.out.cell (World.block_lt_of_cell? w _ hw183_4)).trans hw183_4)⟩ (fun hHeld => ?_)
                      clear hK K
                      refine norm_ (a' := ?_) ?_ ?_
                      rotate_left
                      · show Act.put _ (some 54) _ = _
                        simp only [Act.put, List.setIfInBounds_toArray, List.set_cons_zero, List.set_cons_succ, i64_w, i32_w]
                        rfl
                      refine pure_ (i := 11) (N := some 55) (v := ?_) (a' := ?_) #[true, true, true, true, true, true, true, true, true, true, true, true] rfl rfl (any_of HT_.out (by kernel_rfl)) (fun _ _ _ h => h) (Or.inl ⟨by rfl, ?_⟩) ?_ ?_
                      rotate_left
                      · intro w'
                        go_simp
                        with_reducible rfl
                      rotate_left
                      · simp only [Act.put, List.setIfInBounds_toArray, List.set_cons_zero, List.set_cons_succ, i64_w, i32_w]
                        rfl
                      refine done_ (done_of HT_.out (by kernel_rfl)) ?_
                      try go_wp2
                      go_roundg k2
                      case measure => have := HJ2.out; have := HK2.out; omega
                      case rel => exact ⟨(wrap64 (x41_2 + 1)), (by first | rfl | (simp; done) | (simp [*]; done)), H', ⟨by have := HJ2.out; have := HK2.out; omega⟩, ⟨by (with_reducible repeat (first | refine blk_drewN ?_ _ | refine blk_drew ?_ | refine blk_alloc ?_ _)); exact BK179.out⟩, ⟨by (with_reducible repeat (first | refine blk_drewN ?_ _ | refine blk_drew ?_ | refine blk_alloc ?_ _)); exact BK180.out⟩, ⟨by repeat (first | (with_reducible first | exact HB.out | apply below_alloc | apply pw_below_drewN | apply below_drew1 | refine below_set ?_ GE179.out | refine below_set ?_ GE180.out) | exact HB.out)⟩⟩
                    · replace c37 := Bool.eq_false_iff.mpr c37
                      subst c37
                      have H1 : (some false) = some r := by rw [if_neg (show ¬ (false = true) by decide)] at H; exact H
                      clear H
                      have H := H1
                      clear H1
                      obtain rfl := Option.some.inj H
                      try go_wp2
                      have n0_ := Aside0.mk (blk_drew BK179.out)
                      have n1_ := Aside0.mk (blk_drew BK180.out)
                      have n2_ := Aside0.mk (below_drew1 HB.out)
                      clear BK179
                      clear BK180
                      clear HB
                      have BK179 := n0_
                      have BK180 := n1_
                      have HB := n2_
                      clear n0_ n1_ n2_
                      have p182 : 0 ≤ (x41_2 : Int) := of_decide_eq_true (by first | (with_reducible assumption) | assumption)
                      have q182 : x41_2 < (l0_2.length : Int) := of_decide_eq_true (by first | (with_reducible assumption) | assumption)
                      obtain ⟨ad182, A182_1, c182_1, A182_4, c182_4, e182, hx182_0, hx182_1, hx182_2, hx182_3, hx182_4, hl182_1, hi182_1, hl182_4, hi182_4⟩ := at_T49 HR0_2.out x41_2 p182 q182
                      have hw182_4 := hx182_4
                      have hw182_3 := hx182_3
                      have hw182_2 := hx182_2
                      have hw182_1 := hx182_1
                      have hw182_0 := hx182_0
                      cases e182
                      replace hx182_0 := (HB.out.cell (World.block_lt_of_cell? w _ hx182_0)).trans hx182_0
                      replace hx182_1 := (HB.out.cell (World.block_lt_of_cell? w _ hx182_1)).trans hx182_1
                      replace hx182_2 := (HB.out.cell (World.block_lt_of_cell? w _ hx182_2)).trans hx182_2
                      replace hx182_3 := (HB.out.cell (World.block_lt_of_cell? w _ hx182_3)).trans hx182_3
                      replace hx182_4 := (HB.out.cell (World.block_lt_of_cell? w _ hx182_4)).trans hx182_4
                      have HR182_1 := Aside0.mk hi182_1
                      have HC182_1 := Aside0.mk hl182_1
                      clear hi182_1 hl182_1
                      have HR182_4 := Aside0.mk hi182_4
                      have HC182_4 := Aside0.mk hl182_4
                      clear hi182_4 hl182_4
                      replace p182 := eq_true p182
                      replace q182 := eq_true q182
                      have p183 : 0 ≤ (x41_2 : Int) := of_decide_eq_true (by first | (with_reducible assumption) | assumption)
                      have q183 : x41_2 < (l1_2.length : Int) := of_decide_eq_true (by first | (with_reducible assumption) | assumption)
                      obtain ⟨ad183, A183_1, c183_1, A183_4, c183_4, e183, hx183_0, hx183_1, hx183_2, hx183_3, hx183_4, hl183_1, hi183_1, hl183_4, hi183_4⟩ := at_T49 HR1_2.out x41_2 p183 q183
                      have hw183_4 := hx183_4
                      have hw183_3 := hx183_3
                      have hw183_2 := hx183_2
                      have hw183_1 := hx183_1
                      have hw183_0 := hx183_0
                      cases e183
                      replace hx183_0 := (HB.out.cell (World.block_lt_of_cell? w _ hx183_0)).trans hx183_0
                      replace hx183_1 := (HB.out.cell (World.block_lt_of_cell? w _ hx183_1)).trans hx183_1
                      replace hx183_2 := (HB.out.cell (World.block_lt_of_cell? w _ hx183_2)).trans hx183_2
                      replace hx183_3 := (HB.out.cell (World.block_lt_of_cell? w _ hx183_3)).trans hx183_3
                      replace hx183_4 := (HB.out.cell (World.block_lt_of_cell? w _ hx183_4)).trans hx183_4
                      have HR183_1 := Aside0.mk hi183_1
                      have HC183_1 := Aside0.mk hl183_1
                      clear hi183_1 hl183_1
                      have HR183_4 := Aside0.mk hi183_4
                      have HC183_4 := Aside0.mk hl183_4
                      clear hi183_4 hl183_4
                      replace p183 := eq_true p183
                      replace q183 := eq_true q183
                      refine start_ (n := 12) (S := fun w' => w'.cell? ⟨gb179, 0, none⟩ = some (.string a0_0) ∧ w'.cell? ⟨gb179, 1, none⟩ = some (.slice A0_1 l0_1.length c0_1) ∧ w'.cell? ⟨gb179, 2, none⟩ = some (.slice (some ad182) l0_2.length c0_2) ∧ w'.cell? ⟨gb179, 3, none⟩ = some (.slice A0_3 l0_3.length c0_3) ∧ w'.cell? ⟨gb180, 0, none⟩ = some (.string a1_0) ∧ w'.cell? ⟨gb180, 1, none⟩ = some (.slice A1_1 l1_1.length c1_1) ∧ w'.cell? ⟨gb180, 2, none⟩ = some (.slice (some ad183) l1_2.length c1_2) ∧ w'.cell? ⟨gb180, 3, none⟩ = some (.slice A1_3 l1_3.length c1_3) ∧ w'.cell? (ad182.add ((x41_2).toNat * 5)) = some (.string ((rd_T49 l0_2 x41_2).f0)) ∧ w'.cell? ⟨(ad182.add ((x41_2).toNat * 5)).block, (ad182.add ((x41_2).toNat * 5)).off + 1, none⟩ = some (.slice A182_1 ((rd_T49 l0_2 x41_2).f1.f0).length c182_1) ∧ w'.cell? ⟨(ad182.add ((x41_2).toNat * 5)).block, (ad182.add ((x41_2).toNat * 5)).off + 2, none⟩ = some (.int .u8 ((rd_T49 l0_2 x41_2).f1.f1)) ∧ w'.cell? ⟨(ad182.add ((x41_2).toNat * 5)).block, (ad182.add ((x41_2).toNat * 5)).off + 3, none⟩ = some (.int .i64 ((rd_T49 l0_2 x41_2).f2)) ∧ w'.cell? ⟨(ad182.add ((x41_2).toNat * 5)).block, (ad182.add ((x41_2).toNat * 5)).off + 4, none⟩ = some (.slice A182_4 ((rd_T49 l0_2 x41_2).f3).length c182_4) ∧ w'.cell? (ad183.add ((x41_2).toNat * 5)) = some (.string ((rd_T49 l1_2 x41_2).f0)) ∧ w'.cell? ⟨(ad183.add ((x41_2).toNat * 5)).block, (ad183.add ((x41_2).toNat * 5)).off + 1, none⟩ = some (.slice A183_1 ((rd_T49 l1_2 x41_2).f1.f0).length c183_1) ∧ w'.cell? ⟨(ad183.add ((x41_2).toNat * 5)).block, (ad183.add ((x41_2).toNat * 5)).off + 2, none⟩ = some (.int .u8 ((rd_T49 l1_2 x41_2).f1.f1)) ∧ w'.cell? ⟨(ad183.add ((x41_2).toNat * 5)).block, (ad183.add ((x41_2).toNat * 5)).off + 3, none⟩ = some (.int .i64 ((rd_T49 l1_2 x41_2).f2)) ∧ w'.cell? ⟨(ad183.add ((x41_2).toNat * 5)).block, (ad183.add ((x41_2).toNat * 5)).off + 4, none⟩ = some (.slice A183_4 ((rd_T49 l1_2 x41_2).f3).length c183_4)) (ds := []) #[false, false, false, false, false, false, false, false, false, false, false, false] (by kernel_rfl) rfl rfl ⟨(blk_cell BK179.out 0).trans rfl, (blk_cell BK179.out 1).trans rfl, (blk_cell BK179.out 2).trans rfl, (blk_cell BK179.out 3).trans rfl, (blk_cell BK180.out 0).trans rfl, (blk_cell BK180.out 1).trans rfl, (blk_cell BK180.out 2).trans rfl, (blk_cell BK180.out 3).trans rfl, ((HB.out.cell (World.block_lt_of_cell? w _ hw182_0)).trans hw182_0), ((HB.out.cell (World.block_lt_of_cell? w _ hw182_1)).trans hw182_1), ((HB.out.cell (World.block_lt_of_cell? w _ hw182_2)).trans hw182_2), ((HB.out.cell (World.block_lt_of_cell? w _ hw182_3)).trans hw182_3), ((HB.out.cell (World.block_lt_of_cell? w _ hw182_4)).trans hw182_4), ((HB.out.cell (World.block_lt_of_cell? w _ hw183_0)).trans hw183_0), ((HB.out.cell (World.block_lt_of_cell? w _ hw183_1)).trans hw183_1), ((HB.out.cell (World.block_lt_of_cell? w _ hw183_2)).trans hw183_2), ((HB.out.cell (World.block_lt_of_cell? w _ hw183_3)).trans hw183_3), ((HB.out.cell (World.block_lt_of_cell? w _ hw183_4)).trans hw183_4)⟩ (fun hHeld => ?_); refine with_tabW provisoplain_SameModule.tab6 provisoplain_SameModule.bits6 (fun HT_ HW_ => ?_)
                      generalize wr.drew = w40 at BK179 BK180 HB HR182_1 HR182_4 HR183_1 HR183_4 hx182_0 hx182_1 hx182_2 hx182_3 hx182_4 hx183_0 hx183_1 hx183_2 hx183_3 hx183_4 hHeld ⊢
                      refine pure_ (i := 0) (N := some 44) (v := ?_) (a' := ?_) #[true, false, false, false, false, false, false, false, false, false, false, false] rfl rfl (any_of HT_.out (by kernel_rfl)) (fun _ _ _ h => h) (Or.inl ⟨by rfl, ?_⟩) ?_ ?_
                      rotate_left
                      · intro w'
                        go_simp
                        with_reducible rfl
                      rotate_left
                      · simp only [Act.put, List.setIfInBounds_toArray, List.set_cons_zero, List.set_cons_succ, i64_w, i32_w]
                        rfl
                      refine pure_ (i := 2) (N := some 46) (v := ?_) (a' := ?_) #[true, false, true, false, false, false, false, false, false, false, false, false] rfl rfl (any_of HT_.out (by kernel_rfl)) (fun _ _ _ h => h) (Or.inl ⟨by rfl, ?_⟩) ?_ ?_
                      rotate_left
                      · intro w'
                        go_simp
                        with_reducible rfl
                      rotate_left
                      · simp only [Act.put, List.setIfInBounds_toArray, List.set_cons_zero, List.set_cons_succ, i64_w, i32_w]
                        rfl
                      refine pure_ (i := 5) (N := some 49) (v := ?_) (a' := ?_) #[true, false, true, false, false, true, false, false, false, false, false, false] rfl rfl (any_of HT_.out (by kernel_rfl)) (fun _ _ _ h => h) (Or.inl ⟨by rfl, ?_⟩) ?_ ?_
                      rotate_left
                      · intro w'
                        go_simp
                        with_reducible rfl
                      rotate_left
                      · simp only [Act.put, List.setIfInBounds_toArray, List.set_cons_zero, List.set_cons_succ, i64_w, i32_w]
                        rfl
                      refine pure_ (i := 7) (N := some 51) (v := ?_) (a' := ?_) #[true, false, true, false, false, true, false, true, false, false, false, false] rfl rfl (any_of HT_.out (by kernel_rfl)) (fun _ _ _ h => h) (Or.inl ⟨by rfl, ?_⟩) ?_ ?_
                      rotate_left
                      · intro w'
                        go_simp
                        with_reducible rfl
                      rotate_left
                      · simp only [Act.put, List.setIfInBounds_toArray, List.set_cons_zero, List.set_cons_succ, i64_w, i32_w]
                        rfl
                      refine take_ (i := 1) (N := some 45) (v := ?_) (a' := ?_) #[true, true, true, false, false, true, false, true, false, false, false, false] rfl rfl (take_ofW HT_.out HW_.out (by kernel_rfl)) (fun _ _ _ h => h) (Or.inl ⟨by rfl, ?_⟩) hHeld ?_ ?_
                      rotate_left
                      · rintro w' ⟨s0, s1, s2, s3, s4, s5, s6, s7, s8, s9, s10, s11, s12, s13, s14, s15, s16, s17⟩
                        go_simp
                        with_reducible rfl
                      rotate_left
                      · simp only [Act.put, List.setIfInBounds_toArray, List.set_cons_zero, List.set_cons_succ, i64_w, i32_w]
                        rfl
                      refine pure_ (i := 3) (N := some 47) (v := ?_) (a' := ?_) #[true, true, true, true, false, true, false, true, false, false, false, false] rfl rfl (any_of HT_.out (by kernel_rfl)) (fun _ _ _ h => h) (Or.inl ⟨by rfl, ?_⟩) ?_ ?_
                      rotate_left
                      · intro w'
                        go_simp
                        with_reducible rfl
                      rotate_left
                      · simp only [Act.put, List.setIfInBounds_toArray, List.set_cons_zero, List.set_cons_succ, i64_w, i32_w]
                        rfl
                      refine take_ (i := 4) (N := some 48) (v := ?_) (a' := ?_) #[true, true, true, true, true, true, false, true, false, false, false, false] rfl rfl (take_ofW HT_.out HW_.out (by kernel_rfl)) (fun _ _ _ h => h) (Or.inl ⟨by rfl, ?_⟩) hHeld ?_ ?_
                      rotate_left
                      · rintro w' ⟨s0, s1, s2, s3, s4, s5, s6, s7, s8, s9, s10, s11, s12, s13, s14, s15, s16, s17⟩
                        go_simp
                        with_reducible rfl
                      rotate_left
                      · simp only [Act.put, List.setIfInBounds_toArray, List.set_cons_zero, List.set_cons_succ, i64_w, i32_w]
                        rfl
                      refine take_ (i := 6) (N := some 50) (v := ?_) (a' := ?_) #[true, true, true, true, true, true, true, true, false, false, false, false] rfl rfl (take_ofW HT_.out HW_.out (by kernel_rfl)) (fun _ _ _ h => h) (Or.inl ⟨by rfl, ?_⟩) hHeld ?_ ?_
                      rotate_left
                      · rintro w' ⟨s0, s1, s2, s3, s4, s5, s6, s7, s8, s9, s10, s11, s12, s13, s14, s15, s16, s17⟩
                        go_simp
                        with_reducible rfl
                      rotate_left
                      · simp only [Act.put, List.setIfInBounds_toArray, List.set_cons_zero, List.set_cons_succ, i64_w, i32_w]
                        rfl
                      refine pure_ (i := 8) (N := some 52) (v := ?_) (a' := ?_) #[true, true, true, true, true, true, true, true, true, false, false, false] rfl rfl (any_of HT_.out (by kernel_rfl)) (fun _ _ _ h => h) (Or.inl ⟨by rfl, ?_⟩) ?_ ?_
                      rotate_left
                      · intro w'
                        go_simp
                        with_reducible rfl
                      rotate_left
                      · simp only [Act.put, List.setIfInBounds_toArray, List.set_cons_zero, List.set_cons_succ, i64_w, i32_w]
                        rfl
                      refine take_ (i := 9) (N := some 53) (v := ?_) (a' := ?_) #[true, true, true, true, true, true, true, true, true, true, false, false] rfl rfl (take_ofW HT_.out HW_.out (by kernel_rfl)) (fun _ _ _ h => h) (Or.inl ⟨by rfl, ?_⟩) hHeld ?_ ?_
                      rotate_left
                      · rintro w' ⟨s0, s1, s2, s3, s4, s5, s6, s7, s8, s9, s10, s11, s12, s13, s14, s15, s16, s17⟩
                        go_simp
                        with_reducible rfl
                      rotate_left
                      · simp only [Act.put, List.setIfInBounds_toArray, List.set_cons_zero, List.set_cons_succ, i64_w, i32_w]
                        rfl
                      refine one_ (i := 10) (N := some 54) #[true, true, true, true, true, true, true, true, true, true, true, false] rfl rfl (one_of HT_.out (by kernel_rfl)) (by decide) (fun K hK => ?_)
                      refine goes_ Try.func36 (by kernel_rfl) rfl #[.agg #[.string ((rd_T49 l0_2 x41_2).f0), .slice A182_1 ((rd_T49 l0_2 x41_2).f1.f0).length c182_1, .int .u8 ((rd_T49 l0_2 x41_2).f1.f1), .int .i64 ((rd_T49 l0_2 x41_2).f2), .slice A182_4 ((rd_T49 l0_2 x41_2).f3).length c182_4], .agg #[.string ((rd_T49 l1_2 x41_2).f0), .slice A183_1 ((rd_T49 l1_2 x41_2).f1.f0).length c183_1, .int .u8 ((rd_T49 l1_2 x41_2).f1.f1), .int .i64 ((rd_T49 l1_2 x41_2).f2), .slice A183_4 ((rd_T49 l1_2 x41_2).f3).length c183_4]] (by rfl) rfl rfl (by (try simp only [List.map_toArray, List.map_cons, List.map_nil]); first | done | rfl | (simp only [List.length_drop, List.length_take]; rfl)) ?_
                      with_reducible refine (provisoplain_SameFunc.calls k2 ((rd_T49 l0_2 x41_2).f0) _ _ ((rd_T49 l0_2 x41_2).f1.f0) ((rd_T49 l0_2 x41_2).f1.f1) ((rd_T49 l0_2 x41_2).f2) _ _ ((rd_T49 l0_2 x41_2).f3) ((rd_T49 l1_2 x41_2).f0) _ _ ((rd_T49 l1_2 x41_2).f1.f0) ((rd_T49 l1_2 x41_2).f1.f1) ((rd_T49 l1_2 x41_2).f2) _ _ ((rd_T49 l1_2 x41_2).f3) false _ ?side1 ?side2 ?side3 ?side4 ?side5 ?side6 ?side7 ?side8 A36.out).mono ?_
                      (case side1 => repeat (first | exact (Kd.C_below HR182_1.out HB.out) | (with_reducible refine Kd.C_alloc ?_ _) | (with_reducible refine Kd.C_drewN ?_ _) | (with_reducible refine Kd.C_drew ?_)))
                      (case side2 => exact HC182_1.out)
                      (case side3 => repeat (first | exact (Kd.C_below HR182_4.out HB.out) | (with_reducible refine Kd.C_alloc ?_ _) | (with_reducible refine Kd.C_drewN ?_ _) | (with_reducible refine Kd.C_drew ?_)))
                      (case side4 => exact HC182_4.out)
                      (case side5 => repeat (first | exact (Kd.C_below HR183_1.out HB.out) | (with_reducible refine Kd.C_alloc ?_ _) | (with_reducible refine Kd.C_drewN ?_ _) | (with_reducible refine Kd.C_drew ?_)))
                      (case side6 => exact HC183_1.out)
                      (case side7 => repeat (first | exact (Kd.C_below HR183_4.out HB.out) | (with_reducible refine Kd.C_alloc ?_ _) | (with_reducible refine Kd.C_drewN ?_ _) | (with_reducible refine Kd.C_drew ?_)))
                      (case side8 => exact HC183_4.out)
                      rintro e w41 ⟨rfl, hb⟩
                      refine ⟨_, rfl, ?_⟩
                      have n0_ := Aside0.mk (blk_below (g := gb179) (o := .cells #[.string a0_0, .slice A0_1 l0_1.length c0_1, .slice (some ad182) l0_2.length c0_2, .slice A0_3 l0_3.length c0_3] 26 (0, 0)) (by (with_reducible repeat (first | refine blk_drewN ?_ _ | refine blk_drew ?_ | refine blk_alloc ?_ _)); exact BK179.out) hb)
                      have n1_ := Aside0.mk (blk_below (g := gb180) (o := .cells #[.string a1_0, .slice A1_1 l1_1.length c1_1, .slice (some ad183) l1_2.length c1_2, .slice A1_3 l1_3.length c1_3] 26 (0, 0)) (by (with_reducible repeat (first | refine blk_drewN ?_ _ | refine blk_drew ?_ | refine blk_alloc ?_ _)); exact BK180.out) hb)
                      have n2_ := Aside0.mk (below_step (by repeat (first | (with_reducible first | exact HB.out | apply below_alloc | apply pw_below_drewN | apply below_drew1 | refine below_set ?_ GE179.out | refine below_set ?_ GE180.out) | exact HB.out)) hb)
                      clear BK179
                      clear BK180
                      clear HB
                      have BK179 := n0_
                      have BK180 := n1_
                      have HB := n2_
                      clear n0_ n1_ n2_
                      (try clear hb)
                      (try clear hb2)
                      (try clear hk)
                      (try clear hi)
                      refine hK.out _ _ ⟨(blk_cell BK179.out 0).trans rfl, (blk_cell BK179.out 1).trans rfl, (blk_cell BK179.out 2).trans rfl, (blk_cell BK179.out 3).trans rfl, (blk_cell BK180.out 0).trans rfl, (blk_cell BK180.out 1).trans rfl, (blk_cell BK180.out 2).trans rfl, (blk_cell BK180.out 3).trans rfl, ((HB.out.cell (World.block_lt_of_cell? w _ hw182_0)).trans hw182_0), ((HB.out.cell (World.block_lt_of_cell? w _ hw182_1)).trans hw182_1), ((HB.out.cell (World.block_lt_of_cell? w _ hw182_2)).trans hw182_2), ((HB.out.cell (World.block_lt_of_cell? w _ hw182_3)).trans hw182_3), ((HB.out.cell (World.block_lt_of_cell? w _ hw182_4)).trans hw182_4), ((HB.out.cell (World.block_lt_of_cell? w _ hw183_0)).trans hw183_0), ((HB.out.cell (World.block_lt_of_cell? w _ hw183_1)).trans hw183_1), ((HB.out.cell (World.block_lt_of_cell? w _ hw183_2)).trans hw183_2), ((HB.out.cell (World.block_lt_of_cell? w _ hw183_3)).trans hw183_3), ((HB.out.cell (World.block_lt_of_cell? w _ hw183_4)).trans hw183_4)⟩ (fun hHeld => ?_)
                      clear hK K
                      refine norm_ (a' := ?_) ?_ ?_
                      rotate_left
                      · show Act.put _ (some 54) _ = _
                        simp only [Act.put, List.setIfInBounds_toArray, List.set_cons_zero, List.set_cons_succ, i64_w, i32_w]
                        rfl
                      refine pure_ (i := 11) (N := some 55) (v := ?_) (a' := ?_) #[true, true, true, true, true, true, true, true, true, true, true, true] rfl rfl (any_of HT_.out (by kernel_rfl)) (fun _ _ _ h => h) (Or.inl ⟨by rfl, ?_⟩) ?_ ?_
                      rotate_left
                      · intro w'
                        go_simp
                        with_reducible rfl
                      rotate_left
                      · simp only [Act.put, List.setIfInBounds_toArray, List.set_cons_zero, List.set_cons_succ, i64_w, i32_w]
                        rfl
                      refine done_ (done_of HT_.out (by kernel_rfl)) ?_
                      try go_wp2
                      go_ret
                      exact ⟨by first | rfl | (simp [errW_none, errW_some] <;> rfl) | (simp [*, errW_none, errW_some] <;> rfl), by repeat (first | (with_reducible first | exact HB.out | apply below_alloc | apply pw_below_drewN | apply below_drew1 | refine below_set ?_ GE179.out | refine below_set ?_ GE180.out) | exact HB.out)⟩
                  · rw [if_neg c35] at H
                    exact absurd H (by simp)
                · rw [if_neg c34] at H
                  exact absurd H (by simp)
              · rw [if_neg c33] at H
                exact absurd H (by simp)
            · rw [if_neg c32] at H
              have c32b0 : decide (x41_2 < (l0_2.length : Int)) = false := decide_eq_false c32
              clear c32
              have H' := Aside0.mk H
              clear H
              have hnb42 := NB179_180.out
              have hnc42 := NB180_179.out
              have hcz43_0 : wr.cell? ⟨gb179, 0, none⟩ = some (.string a0_0) := (blk_cell BK179.out 0).trans rfl
              have hcz43_1 : wr.cell? ⟨gb179, 1, none⟩ = some (.slice A0_1 l0_1.length c0_1) := (blk_cell BK179.out 1).trans rfl
              have hcz43_2 : wr.cell? ⟨gb179, 2, none⟩ = some (.slice A0_2 l0_2.length c0_2) := (blk_cell BK179.out 2).trans rfl
              have hcz43_3 : wr.cell? ⟨gb179, 3, none⟩ = some (.slice A0_3 l0_3.length c0_3) := (blk_cell BK179.out 3).trans rfl
              have hfz43_0 := blk_frozen BK179.out 0
              have hfz43_1 := blk_frozen BK179.out 1
              have hfz43_2 := blk_frozen BK179.out 2
              have hfz43_3 := blk_frozen BK179.out 3
              go_wp2
              go_loopg [60] k2 (fun kq v60 w' => ∃ (x60_3 : Int), v60 = .int .i64 x60_3 ∧ Aside0 (provisoplain_SameModule.l1 kq (l0_3.length : Int) x60_3 a0_0 l0_1 l0_2 l0_3 a1_0 l1_1 l1_2 l1_3 = some r) ∧ Aside0 (kq ≤ k2) ∧ Aside0 (w'.heap[gb179]? = some (.cells #[.string a0_0, (.slice A0_1 l0_1.length c0_1), (.slice A0_2 l0_2.length c0_2), (.slice A0_3 l0_3.length c0_3)] 26 (0, 0))) ∧ Aside0 (w'.heap[gb180]? = some (.cells #[.string a1_0, (.slice A1_1 l1_1.length c1_1), (.slice A1_2 l1_2.length c1_2), (.slice A1_3 l1_3.length c1_3)] 26 (0, 0))) ∧ Aside0 (Below w.heap.size w w'))
              case atStart => exact ⟨(0), (by first | rfl | (simp; done) | (simp [*]; done)), H', ⟨Nat.le_refl _⟩, ⟨by (with_reducible repeat (first | refine blk_drewN ?_ _ | refine blk_drew ?_ | refine blk_alloc ?_ _)); exact BK179.out⟩, ⟨by (with_reducible repeat (first | refine blk_drewN ?_ _ | refine blk_drew ?_ | refine blk_alloc ?_ _)); exact BK180.out⟩, ⟨by repeat (first | (with_reducible first | exact HB.out | apply below_alloc | apply pw_below_drewN | apply below_drew1 | refine below_set ?_ GE179.out | refine below_set ?_ GE180.out) | exact HB.out)⟩⟩
              case round =>
                clear H'
                try clear c1
                try clear p1
                try clear q1
                try clear hx1
                try clear c2
                try clear p2
                try clear c3
                try clear c4
                try clear c6
                try clear c6b0
                try clear c6b1
                try clear p6
                try clear c8
                try clear c9
                try clear c9b0
                try clear c9b1
                try clear c9b2
                try clear c10
                try clear c14
                try clear c16
                try clear c18
                try clear p18
                try clear q18
                try clear hx18
                try clear c22
                try clear c26
                try clear c29
                try clear c30
                try clear c32
                try clear c32b0
                try clear c33
                try clear c33b0
                try clear c34
                try clear c34b0
                try clear c35
                try clear c35b0
                try clear c36
                try clear c37
                try clear c42
                try clear hcz11_0
                try clear hcz11_1
                try clear hcz11_2
                try clear hcz11_3
                try clear hcz12_0
                try clear hcz12_1
                try clear hcz12_2
                try clear hcz12_3
                try clear hcz14_0
                try clear hcz14_1
                try clear hcz14_2
                try clear hcz14_3
                try clear hcz15_0
                try clear hcz15_1
                try clear hcz15_2
                try clear hcz15_3
                try clear hcz17_0
                try clear hcz17_1
                try clear hcz17_2
                try clear hcz17_3
                try clear hcz18_0
                try clear hcz18_1
                try clear hcz18_2
                try clear hcz18_3
                try clear hcz20_0
                try clear hcz20_1
                try clear hcz20_2
                try clear hcz20_3
                try clear hcz21_0
                try clear hcz21_1
                try clear hcz21_2
                try clear hcz21_3
                try clear hcz23_0
                try clear hcz23_1
                try clear hcz23_2
                try clear hcz23_3
                try clear hcz24_0
                try clear hcz24_1
                try clear hcz24_2
                try clear hcz24_3
                try clear hcz27_0
                try clear hcz27_1
                try clear hcz27_2
                try clear hcz27_3
                try clear hcz28_0
                try clear hcz28_1
                try clear hcz28_2
                try clear hcz28_3
                try clear hcz31_0
                try clear hcz31_1
                try clear hcz31_2
                try clear hcz31_3
                try clear hcz43_0
                try clear hcz43_1
                try clear hcz43_2
                try clear hcz43_3
                try clear hfz11_0
                try clear hfz11_1
                try clear hfz11_2
                try clear hfz11_3
                try clear hfz12_0
                try clear hfz12_1
                try clear hfz12_2
                try clear hfz12_3
                try clear hfz14_0
                try clear hfz14_1
                try clear hfz14_2
                try clear hfz14_3
                try clear hfz15_0
                try clear hfz15_1
                try clear hfz15_2
                try clear hfz15_3
                try clear hfz17_0
                try clear hfz17_1
                try clear hfz17_2
                try clear hfz17_3
                try clear hfz18_0
                try clear hfz18_1
                try clear hfz18_2
                try clear hfz18_3
                try clear hfz20_0
                try clear hfz20_1
                try clear hfz20_2
                try clear hfz20_3
                try clear hfz21_0
                try clear hfz21_1
                try clear hfz21_2
                try clear hfz21_3
                try clear hfz23_0
                try clear hfz23_1
                try clear hfz23_2
                try clear hfz23_3
                try clear hfz24_0
                try clear hfz24_1
                try clear hfz24_2
                try clear hfz24_3
                try clear hfz27_0
                try clear hfz27_1
                try clear hfz27_2
                try clear hfz27_3
                try clear hfz28_0
                try clear hfz28_1
                try clear hfz28_2
                try clear hfz28_3
                try clear hfz31_0
                try clear hfz31_1
                try clear hfz31_2
                try clear hfz31_3
                try clear hfz43_0
                try clear hfz43_1
                try clear hfz43_2
                try clear hfz43_3
                try clear hx182_0
                try clear hx182_1
                try clear hx182_2
                try clear hx182_3
                try clear hx182_4
                try clear hx183_0
                try clear hx183_1
                try clear hx183_2
                try clear hx183_3
                try clear hx183_4
                try clear p182
                try clear p183
                try clear p2
                try clear q182
                try clear q183
                obtain ⟨x60_3, rfl, HA, HK3, BK179, BK180, HB⟩ := hrel
                cases gk with
                | zero => exact absurd HA.out (by simp [provisoplain_SameModule.l1])
                | succ k3 =>
                  have H := HA.out
                  clear HA
                  simp only [provisoplain_SameModule.l1] at H
                  by_cases c44 : x60_3 < (l0_3.length : Int)
                  · rw [if_pos c44] at H
                    have c44b0 : decide (x60_3 < (l0_3.length : Int)) = true := decide_eq_true c44
                    clear c44
                    by_cases c45 : 0 ≤ x60_3
                    · rw [if_pos c45] at H
                      have c45b0 : decide (0 ≤ x60_3) = true := decide_eq_true c45
                      clear c45
                      by_cases c46 : x60_3 < (l0_3.length : Int)
                      · rw [if_pos c46] at H
                        have c46b0 : decide (x60_3 < (l0_3.length : Int)) = true := decide_eq_true c46
                        clear c46
                        by_cases c47 : x60_3 < (l1_3.length : Int)
                        · rw [if_pos c47] at H
                          have c47b0 : decide (x60_3 < (l1_3.length : Int)) = true := decide_eq_true c47
                          clear c47
                          replace H := Option.bind_eq_some_iff.mp H
                          obtain ⟨t187, A480, H⟩ := H
                          replace H : (if t187 = true then (provisoplain_SameModule.l1 k3 (l0_3.length : Int) (wrap64 (x60_3 + 1)) a0_0 l0_1 l0_2 l0_3 a1_0 l1_1 l1_2 l1_3) else (some false)) = some r := H
                          have A48 := Aside0.mk A480
                          clear A480
                          by_cases c49 : t187 = true
                          · subst c49
                            have H1 : (provisoplain_SameModule.l1 k3 (l0_3.length : Int) (wrap64 (x60_3 + 1)) a0_0 l0_1 l0_2 l0_3 a1_0 l1_1 l1_2 l1_3) = some r := by rw [if_pos rfl] at H; exact H
                            clear H
                            have H := H1
                            clear H1
                            have H' := Aside0.mk H
                            clear H
                            try go_wp2
                            have n0_ := Aside0.mk (blk_drew BK179.out)
                            have n1_ := Aside0.mk (blk_drew BK180.out)
                            have n2_ := Aside0.mk (below_drew1 HB.out)
                            clear BK179
                            clear BK180
                            clear HB
                            have BK179 := n0_
                            have BK180 := n1_
                            have HB := n2_
                            clear n0_ n1_ n2_
                            have p185 : 0 ≤ (x60_3 : Int) := of_decide_eq_true (by first | (with_reducible assumption) | assumption)
                            have q185 : x60_3 < (l0_3.length : Int) := of_decide_eq_true (by first | (with_reducible assumption) | assumption)
                            obtain ⟨ad185, A185_0, c185_0, e185, hx185_0, hl185_0, hi185_0⟩ := at_L5 HR0_3.out x60_3 p185 q185
                            have hw185_0 := hx185_0
                            cases e185
                            replace hx185_0 := (HB.out.cell (World.block_lt_of_cell? w _ hx185_0)).trans hx185_0
                            have HR185_0 := Aside0.mk hi185_0
                            have HC185_0 := Aside0.mk hl185_0
                            clear hi185_0 hl185_0
                            replace p185 := eq_true p185
                            replace q185 := eq_true q185
                            have p186 : 0 ≤ (x60_3 : Int) := of_decide_eq_true (by first | (with_reducible assumption) | assumption)
                            have q186 : x60_3 < (l1_3.length : Int) := of_decide_eq_true (by first | (with_reducible assumption) | assumption)
                            obtain ⟨ad186, A186_0, c186_0, e186, hx186_0, hl186_0, hi186_0⟩ := at_L5 HR1_3.out x60_3 p186 q186
                            have hw186_0 := hx186_0
                            cases e186
                            replace hx186_0 := (HB.out.cell (World.block_lt_of_cell? w _ hx186_0)).trans hx186_0
                            have HR186_0 := Aside0.mk hi186_0
                            have HC186_0 := Aside0.mk hl186_0
                            clear hi186_0 hl186_0
                            replace p186 := eq_true p186
                            replace q186 := eq_true q186
                            refine start_ (n := 12) (S := fun w' => w'.cell? ⟨gb179, 0, none⟩ = some (.string a0_0) ∧ w'.cell? ⟨gb179, 1, none⟩ = some (.slice A0_1 l0_1.length c0_1) ∧ w'.cell? ⟨gb179, 2, none⟩ = some (.slice A0_2 l0_2.length c0_2) ∧ w'.cell? ⟨gb179, 3, none⟩ = some (.slice (some ad185) l0_3.length c0_3) ∧ w'.cell? ⟨gb180, 0, none⟩ = some (.string a1_0) ∧ w'.cell? ⟨gb180, 1, none⟩ = some (.slice A1_1 l1_1.length c1_1) ∧ w'.cell? ⟨gb180, 2, none⟩ = some (.slice A1_2 l1_2.length c1_2) ∧ w'.cell? ⟨gb180, 3, none⟩ = some (.slice (some ad186) l1_3.length c1_3) ∧ w'.cell? (ad185.add (x60_3).toNat) = some (.slice A185_0 (rd_L5 l0_3 x60_3).length c185_0) ∧ w'.cell? (ad186.add (x60_3).toNat) = some (.slice A186_0 (rd_L5 l1_3 x60_3).length c186_0)) (ds := []) #[false, false, false, false, false, false, false, false, false, false, false, false] (by kernel_rfl) rfl rfl ⟨(blk_cell BK179.out 0).trans rfl, (blk_cell BK179.out 1).trans rfl, (blk_cell BK179.out 2).trans rfl, (blk_cell BK179.out 3).trans rfl, (blk_cell BK180.out 0).trans rfl, (blk_cell BK180.out 1).trans rfl, (blk_cell BK180.out 2).trans rfl, (blk_cell BK180.out 3).trans rfl, ((HB.out.cell (World.block_lt_of_cell? w _ hw185_0)).trans hw185_0), ((HB.out.cell (World.block_lt_of_cell? w _ hw186_0)).trans hw186_0)⟩ (fun hHeld => ?_); refine with_tabW provisoplain_SameModule.tab12 provisoplain_SameModule.bits12 (fun HT_ HW_ => ?_)
                            generalize wr.drew = w50 at BK179 BK180 HB HR185_0 HR186_0 hx185_0 hx186_0 hHeld ⊢
                            refine pure_ (i := 0) (N := some 63) (v := ?_) (a' := ?_) #[true, false, false, false, false, false, false, false, false, false, false, false] rfl rfl (any_of HT_.out (by kernel_rfl)) (fun _ _ _ h => h) (Or.inl ⟨by rfl, ?_⟩) ?_ ?_
                            rotate_left
                            · intro w'
                              go_simp
                              with_reducible rfl
                            rotate_left
                            · simp only [Act.put, List.setIfInBounds_toArray, List.set_cons_zero, List.set_cons_succ, i64_w, i32_w]
                              rfl
                            refine pure_ (i := 2) (N := some 65) (v := ?_) (a' := ?_) #[true, false, true, false, false, false, false, false, false, false, false, false] rfl rfl (any_of HT_.out (by kernel_rfl)) (fun _ _ _ h => h) (Or.inl ⟨by rfl, ?_⟩) ?_ ?_
                            rotate_left
                            · intro w'
                              go_simp
                              with_reducible rfl
                            rotate_left
                            · simp only [Act.put, List.setIfInBounds_toArray, List.set_cons_zero, List.set_cons_succ, i64_w, i32_w]
                              rfl
                            refine pure_ (i := 5) (N := some 68) (v := ?_) (a' := ?_) #[true, false, true, false, false, true, false, false, false, false, false, false] rfl rfl (any_of HT_.out (by kernel_rfl)) (fun _ _ _ h => h) (Or.inl ⟨by rfl, ?_⟩) ?_ ?_
                            rotate_left
                            · intro w'
                              go_simp
                              with_reducible rfl
                            rotate_left
                            · simp only [Act.put, List.setIfInBounds_toArray, List.set_cons_zero, List.set_cons_succ, i64_w, i32_w]
                              rfl
                            refine pure_ (i := 7) (N := some 70) (v := ?_) (a' := ?_) #[true, false, true, false, false, true, false, true, false, false, false, false] rfl rfl (any_of HT_.out (by kernel_rfl)) (fun _ _ _ h => h) (Or.inl ⟨by rfl, ?_⟩) ?_ ?_
                            rotate_left
                            · intro w'
                              go_simp
                              with_reducible rfl
                            rotate_left
                            · simp only [Act.put, List.setIfInBounds_toArray, List.set_cons_zero, List.set_cons_succ, i64_w, i32_w]
                              rfl
                            refine take_ (i := 1) (N := some 64) (v := ?_) (a' := ?_) #[true, true, true, false, false, true, false, true, false, false, false, false] rfl rfl (take_ofW HT_.out HW_.out (by kernel_rfl)) (fun _ _ _ h => h) (Or.inl ⟨by rfl, ?_⟩) hHeld ?_ ?_
                            rotate_left
                            · rintro w' ⟨s0, s1, s2, s3, s4, s5, s6, s7, s8, s9⟩
                              go_simp
                              with_reducible rfl
                            rotate_left
                            · simp only [Act.put, List.setIfInBounds_toArray, List.set_cons_zero, List.set_cons_succ, i64_w, i32_w]
                              rfl
                            refine pure_ (i := 3) (N := some 66) (v := ?_) (a' := ?_) #[true, true, true, true, false, true, false, true, false, false, false, false] rfl rfl (any_of HT_.out (by kernel_rfl)) (fun _ _ _ h => h) (Or.inl ⟨by rfl, ?_⟩) ?_ ?_
                            rotate_left
                            · intro w'
                              go_simp
                              with_reducible rfl
                            rotate_left
                            · simp only [Act.put, List.setIfInBounds_toArray, List.set_cons_zero, List.set_cons_succ, i64_w, i32_w]
                              rfl
                            refine take_ (i := 4) (N := some 67) (v := ?_) (a' := ?_) #[true, true, true, true, true, true, false, true, false, false, false, false] rfl rfl (take_ofW HT_.out HW_.out (by kernel_rfl)) (fun _ _ _ h => h) (Or.inl ⟨by rfl, ?_⟩) hHeld ?_ ?_
                            rotate_left
                            · rintro w' ⟨s0, s1, s2, s3, s4, s5, s6, s7, s8, s9⟩
                              go_simp
                              with_reducible rfl
                            rotate_left
                            · simp only [Act.put, List.setIfInBounds_toArray, List.set_cons_zero, List.set_cons_succ, i64_w, i32_w]
                              rfl
                            refine take_ (i := 6) (N := some 69) (v := ?_) (a' := ?_) #[true, true, true, true, true, true, true, true, false, false, false, false] rfl rfl (take_ofW HT_.out HW_.out (by kernel_rfl)) (fun _ _ _ h => h) (Or.inl ⟨by rfl, ?_⟩) hHeld ?_ ?_
                            rotate_left
                            · rintro w' ⟨s0, s1, s2, s3, s4, s5, s6, s7, s8, s9⟩
                              go_simp
                              with_reducible rfl
                            rotate_left
                            · simp only [Act.put, List.setIfInBounds_toArray, List.set_cons_zero, List.set_cons_succ, i64_w, i32_w]
                              rfl
                            refine pure_ (i := 8) (N := some 71) (v := ?_) (a' := ?_) #[true, true, true, true, true, true, true, true, true, false, false, false] rfl rfl (any_of HT_.out (by kernel_rfl)) (fun _ _ _ h => h) (Or.inl ⟨by rfl, ?_⟩) ?_ ?_
                            rotate_left
                            · intro w'
                              go_simp
                              with_reducible rfl
                            rotate_left
                            · simp only [Act.put, List.setIfInBounds_toArray, List.set_cons_zero, List.set_cons_succ, i64_w, i32_w]
                              rfl
                            refine take_ (i := 9) (N := some 72) (v := ?_) (a' := ?_) #[true, true, true, true, true, true, true, true, true, true, false, false] rfl rfl (take_ofW HT_.out HW_.out (by kernel_rfl)) (fun _ _ _ h => h) (Or.inl ⟨by rfl, ?_⟩) hHeld ?_ ?_
                            rotate_left
                            · rintro w' ⟨s0, s1, s2, s3, s4, s5, s6, s7, s8, s9⟩
                              go_simp
                              with_reducible rfl
                            rotate_left
                            · simp only [Act.put, List.setIfInBounds_toArray, List.set_cons_zero, List.set_cons_succ, i64_w, i32_w]
                              rfl
                            refine one_ (i := 10) (N := some 73) #[true, true, true, true, true, true, true, true, true, true, true, false] rfl rfl (one_of HT_.out (by kernel_rfl)) (by decide) (fun K hK => ?_)
                            refine goes_ Try.func19 (by kernel_rfl) rfl #[.slice A185_0 (rd_L5 l0_3 x60_3).length c185_0, .slice A186_0 (rd_L5 l1_3 x60_3).length c186_0] (by rfl) rfl rfl (by (try simp only [List.map_toArray, List.map_cons, List.map_nil]); first | done | rfl | (simp only [List.length_drop, List.length_take]; rfl)) ?_
                            with_reducible refine (slices_Equal_byte_byte.calls k3 _ _ (rd_L5 l0_3 x60_3) _ _ (rd_L5 l1_3 x60_3) true _ ?side1 ?side2 ?side3 ?side4 A48.out).mono ?_
                            (case side1 => repeat (first | exact (Kd.C_below HR185_0.out HB.out) | (with_reducible refine Kd.C_alloc ?_ _) | (with_reducible refine Kd.C_drewN ?_ _) | (with_reducible refine Kd.C_drew ?_)))
                            (case side2 => exact HC185_0.out)
                            (case side3 => repeat (first | exact (Kd.C_below HR186_0.out HB.out) | (with_reducible refine Kd.C_alloc ?_ _) | (with_reducible refine Kd.C_drewN ?_ _) | (with_reducible refine Kd.C_drew ?_)))
                            (case side4 => exact HC186_0.out)
                            rintro e w' ⟨rfl, ⟨nd, rfl⟩⟩
                            refine ⟨_, rfl, ?_⟩
                            refine hK.out _ _ ⟨(blk_cell BK179.out 0).trans rfl, (blk_cell BK179.out 1).trans rfl, (blk_cell BK179.out 2).trans rfl, (blk_cell BK179.out 3).trans rfl, (blk_cell BK180.out 0).trans rfl, (blk_cell BK180.out 1).trans rfl, (blk_cell BK180.out 2).trans rfl, (blk_cell BK180.out 3).trans rfl, ((HB.out.cell (World.block_lt_of_cell? w _ hw185_0)).trans hw185_0), ((HB.out.cell (World.block_lt_of_cell? w _ hw186_0)).trans hw186_0)⟩ (fun hHeld => ?_)
                            clear hK K
                            refine norm_ (a' := ?_) ?_ ?_
                            rotate_left
                            · show Act.put _ (some 73) _ = _
                              simp only [Act.put, List.setIfInBounds_toArray, List.set_cons_zero, List.set_cons_succ, i64_w, i32_w]
                              rfl
                            refine pure_ (i := 11) (N := some 74) (v := ?_) (a' := ?_) #[true, true, true, true, true, true, true, true, true, true, true, true] rfl rfl (any_of HT_.out (by kernel_rfl)) (fun _ _ _ h => h) (Or.inl ⟨by rfl, ?_⟩) ?_ ?_
                            rotate_left
                            · intro w'
                              go_simp
                              with_reducible rfl
                            rotate_left
                            · simp only [Act.put, List.setIfInBounds_toArray, List.set_cons_zero, List.set_cons_succ, i64_w, i32_w]
                              rfl
                            refine done_ (done_of HT_.out (by kernel_rfl)) ?_
                            try go_wp2
                            go_roundg k3
                            case measure => have := HJ2.out; have := HK2.out; have := HK3.out; omega
                            case rel => exact ⟨(wrap64 (x60_3 + 1)), (by first | rfl | (simp; done) | (simp [*]; done)), H', ⟨by have := HJ2.out; have := HK2.out; have := HK3.out; omega⟩, ⟨by (with_reducible repeat (first | refine blk_drewN ?_ _ | refine blk_drew ?_ | refine blk_alloc ?_ _)); exact BK179.out⟩, ⟨by (with_reducible repeat (first | refine blk_drewN ?_ _ | refine blk_drew ?_ | refine blk_alloc ?_ _)); exact BK180.out⟩, ⟨by repeat (first | (with_reducible first | exact HB.out | apply below_alloc | apply pw_below_drewN | apply below_drew1 | refine below_set ?_ GE179.out | refine below_set ?_ GE180.out) | exact HB.out)⟩⟩
                          · replace c49 := Bool.eq_false_iff.mpr c49
                            subst c49
                            have H1 : (some false) = some r := by rw [if_neg (show ¬ (false = true) by decide)] at H; exact H
                            clear H
                            have H := H1
                            clear H1
                            obtain rfl := Option.some.inj H
                            try go_wp2
                            have n0_ := Aside0.mk (blk_drew BK179.out)
                            have n1_ := Aside0.mk (blk_drew BK180.out)
                            have n2_ := Aside0.mk (below_drew1 HB.out)
                            clear BK179
                            clear BK180
                            clear HB
                            have BK179 := n0_
                            have BK180 := n1_
                            have HB := n2_
                            clear n0_ n1_ n2_
                            have p185 : 0 ≤ (x60_3 : Int) := of_decide_eq_true (by first | (with_reducible assumption) | assumption)
                            have q185 : x60_3 < (l0_3.length : Int) := of_decide_eq_true (by first | (with_reducible assumption) | assumption)
                            obtain ⟨ad185, A185_0, c185_0, e185, hx185_0, hl185_0, hi185_0⟩ := at_L5 HR0_3.out x60_3 p185 q185
                            have hw185_0 := hx185_0
                            cases e185
                            replace hx185_0 := (HB.out.cell (World.block_lt_of_cell? w _ hx185_0)).trans hx185_0
                            have HR185_0 := Aside0.mk hi185_0
                            have HC185_0 := Aside0.mk hl185_0
                            clear hi185_0 hl185_0
                            replace p185 := eq_true p185
                            replace q185 := eq_true q185
                            have p186 : 0 ≤ (x60_3 : Int) := of_decide_eq_true (by first | (with_reducible assumption) | assumption)
                            have q186 : x60_3 < (l1_3.length : Int) := of_decide_eq_true (by first | (with_reducible assumption) | assumption)
                            obtain ⟨ad186, A186_0, c186_0, e186, hx186_0, hl186_0, hi186_0⟩ := at_L5 HR1_3.out x60_3 p186 q186
                            have hw186_0 := hx186_0
                            cases e186
                            replace hx186_0 := (HB.out.cell (World.block_lt_of_cell? w _ hx186_0)).trans hx186_0
                            have HR186_0 := Aside0.mk hi186_0
                            have HC186_0 := Aside0.mk hl186_0
                            clear hi186_0 hl186_0
                            replace p186 := eq_true p186
                            replace q186 := eq_true q186
                            refine start_ (n := 12) (S := fun w' => w'.cell? ⟨gb179, 0, none⟩ = some (.string a0_0) ∧ w'.cell? ⟨gb179, 1, none⟩ = some (.slice A0_1 l0_1.length c0_1) ∧ w'.cell? ⟨gb179, 2, none⟩ = some (.slice A0_2 l0_2.length c0_2) ∧ w'.cell? ⟨gb179, 3, none⟩ = some (.slice (some ad185) l0_3.length c0_3) ∧ w'.cell? ⟨gb180, 0, none⟩ = some (.string a1_0) ∧ w'.cell? ⟨gb180, 1, none⟩ = some (.slice A1_1 l1_1.length c1_1) ∧ w'.cell? ⟨gb180, 2, none⟩ = some (.slice A1_2 l1_2.length c1_2) ∧ w'.cell? ⟨gb180, 3, none⟩ = some (.slice (some ad186) l1_3.length c1_3) ∧ w'.cell? (ad185.add (x60_3).toNat) = some (.slice A185_0 (rd_L5 l0_3 x60_3).length c185_0) ∧ w'.cell? (ad186.add (x60_3).toNat) = some (.slice A186_0 (rd_L5 l1_3 x60_3).length c186_0)) (ds := []) #[false, false, false, false, false, false, false, false, false, false, false, false] (by kernel_rfl) rfl rfl ⟨(blk_cell BK179.out 0).trans rfl, (blk_cell BK179.out 1).trans rfl, (blk_cell BK179.out 2).trans rfl, (blk_cell BK179.out 3).trans rfl, (blk_cell BK180.out 0).trans rfl, (blk_cell BK180.out 1).trans rfl, (blk_cell BK180.out 2).trans rfl, (blk_cell BK180.out 3).trans rfl, ((HB.out.cell (World.block_lt_of_cell? w _ hw185_0)).trans hw185_0), ((HB.out.cell (World.block_lt_of_cell? w _ hw186_0)).trans hw186_0)⟩ (fun hHeld => ?_); refine with_tabW provisoplain_SameModule.tab12 provisoplain_SameModule.bits12 (fun HT_ HW_ => ?_)
                            generalize wr.drew = w51 at BK179 BK180 HB HR185_0 HR186_0 hx185_0 hx186_0 hHeld ⊢
                            refine pure_ (i := 0) (N := some 63) (v := ?_) (a' := ?_) #[true, false, false, false, false, false, false, false, false, false, false, false] rfl rfl (any_of HT_.out (by kernel_rfl)) (fun _ _ _ h => h) (Or.inl ⟨by rfl, ?_⟩) ?_ ?_
                            rotate_left
                            · intro w'
                              go_simp
                              with_reducible rfl
                            rotate_left
                            · simp only [Act.put, List.setIfInBounds_toArray, List.set_cons_zero, List.set_cons_succ, i64_w, i32_w]
                              rfl
                            refine pure_ (i := 2) (N := some 65) (v := ?_) (a' := ?_) #[true, false, true, false, false, false, false, false, false, false, false, false] rfl rfl (any_of HT_.out (by kernel_rfl)) (fun _ _ _ h => h) (Or.inl ⟨by rfl, ?_⟩) ?_ ?_
                            rotate_left
                            · intro w'
                              go_simp
                              with_reducible rfl
                            rotate_left
                            · simp only [Act.put, List.setIfInBounds_toArray, List.set_cons_zero, List.set_cons_succ, i64_w, i32_w]
                              rfl
                            refine pure_ (i := 5) (N := some 68) (v := ?_) (a' := ?_) #[true, false, true, false, false, true, false, false, false, false, false, false] rfl rfl (any_of HT_.out (by kernel_rfl)) (fun _ _ _ h => h) (Or.inl ⟨by rfl, ?_⟩) ?_ ?_
                            rotate_left
                            · intro w'
                              go_simp
                              with_reducible rfl
                            rotate_left
                            · simp only [Act.put, List.setIfInBounds_toArray, List.set_cons_zero, List.set_cons_succ, i64_w, i32_w]
                              rfl
                            refine pure_ (i := 7) (N := some 70) (v := ?_) (a' := ?_) #[true, false, true, false, false, true, false, true, false, false, false, false] rfl rfl (any_of HT_.out (by kernel_rfl)) (fun _ _ _ h => h) (Or.inl ⟨by rfl, ?_⟩) ?_ ?_
                            rotate_left
                            · intro w'
                              go_simp
                              with_reducible rfl
                            rotate_left
                            · simp only [Act.put, List.setIfInBounds_toArray, List.set_cons_zero, List.set_cons_succ, i64_w, i32_w]
                              rfl
                            refine take_ (i := 1) (N := some 64) (v := ?_) (a' := ?_) #[true, true, true, false, false, true, false, true, false, false, false, false] rfl rfl (take_ofW HT_.out HW_.out (by kernel_rfl)) (fun _ _ _ h => h) (Or.inl ⟨by rfl, ?_⟩) hHeld ?_ ?_
                            rotate_left
                            · rintro w' ⟨s0, s1, s2, s3, s4, s5, s6, s7, s8, s9⟩
                              go_simp
                              with_reducible rfl
                            rotate_left
                            · simp only [Act.put, List.setIfInBounds_toArray, List.set_cons_zero, List.set_cons_succ, i64_w, i32_w]
                              rfl
                            refine pure_ (i := 3) (N := some 66) (v := ?_) (a' := ?_) #[true, true, true, true, false, true, false, true, false, false, false, false] rfl rfl (any_of HT_.out (by kernel_rfl)) (fun _ _ _ h => h) (Or.inl ⟨by rfl, ?_⟩) ?_ ?_
                            rotate_left
                            · intro w'
                              go_simp
                              with_reducible rfl
                            rotate_left
                            · simp only [Act.put, List.setIfInBounds_toArray, List.set_cons_zero, List.set_cons_succ, i64_w, i32_w]
                              rfl
                            refine take_ (i := 4) (N := some 67) (v := ?_) (a' := ?_) #[true, true, true, true, true, true, false, true, false, false, false, false] rfl rfl (take_ofW HT_.out HW_.out (by kernel_rfl)) (fun _ _ _ h => h) (Or.inl ⟨by rfl, ?_⟩) hHeld ?_ ?_
                            rotate_left
                            · rintro w' ⟨s0, s1, s2, s3, s4, s5, s6, s7, s8, s9⟩
                              go_simp
                              with_reducible rfl
                            rotate_left
                            · simp only [Act.put, List.setIfInBounds_toArray, List.set_cons_zero, List.set_cons_succ, i64_w, i32_w]
                              rfl
                            refine take_ (i := 6) (N := some 69) (v := ?_) (a' := ?_) #[true, true, true, true, true, true, true, true, false, false, false, false] rfl rfl (take_ofW HT_.out HW_.out (by kernel_rfl)) (fun _ _ _ h => h) (Or.inl ⟨by rfl, ?_⟩) hHeld ?_ ?_
                            rotate_left
                            · rintro w' ⟨s0, s1, s2, s3, s4, s5, s6, s7, s8, s9⟩
                              go_simp
                              with_reducible rfl
                            rotate_left
                            · simp only [Act.put, List.setIfInBounds_toArray, List.set_cons_zero, List.set_cons_succ, i64_w, i32_w]
                              rfl
                            refine pure_ (i := 8) (N := some 71) (v := ?_) (a' := ?_) #[true, true, true, true, true, true, true, true, true, false, false, false] rfl rfl (any_of HT_.out (by kernel_rfl)) (fun _ _ _ h => h) (Or.inl ⟨by rfl, ?_⟩) ?_ ?_
                            rotate_left
                            · intro w'
                              go_simp
                              with_reducible rfl
                            rotate_left
                            · simp only [Act.put, List.setIfInBounds_toArray, List.set_cons_zero, List.set_cons_succ, i64_w, i32_w]
                              rfl
                            refine take_ (i := 9) (N := some 72) (v := ?_) (a' := ?_) #[true, true, true, true, true, true, true, true, true, true, false, false] rfl rfl (take_ofW HT_.out HW_.out (by kernel_rfl)) (fun _ _ _ h => h) (Or.inl ⟨by rfl, ?_⟩) hHeld ?_ ?_
                            rotate_left
                            · rintro w' ⟨s0, s1, s2, s3, s4, s5, s6, s7, s8, s9⟩
                              go_simp
                              with_reducible rfl
                            rotate_left
                            · simp only [Act.put, List.setIfInBounds_toArray, List.set_cons_zero, List.set_cons_succ, i64_w, i32_w]
                              rfl
                            refine one_ (i := 10) (N := some 73) #[true, true, true, true, true, true, true, true, true, true, true, false] rfl rfl (one_of HT_.out (by kernel_rfl)) (by decide) (fun K hK => ?_)
                            refine goes_ Try.func19 (by kernel_rfl) rfl #[.slice A185_0 (rd_L5 l0_3 x60_3).length c185_0, .slice A186_0 (rd_L5 l1_3 x60_3).length c186_0] (by rfl) rfl rfl (by (try simp only [List.map_toArray, List.map_cons, List.map_nil]); first | done | rfl | (simp only [List.length_drop, List.length_take]; rfl)) ?_
                            with_reducible refine (slices_Equal_byte_byte.calls k3 _ _ (rd_L5 l0_3 x60_3) _ _ (rd_L5 l1_3 x60_3) false _ ?side1 ?side2 ?side3 ?side4 A48.out).mono ?_
                            (case side1 => repeat (first | exact (Kd.C_below HR185_0.out HB.out) | (with_reducible refine Kd.C_alloc ?_ _) | (with_reducible refine Kd.C_drewN ?_ _) | (with_reducible refine Kd.C_drew ?_)))
                            (case side2 => exact HC185_0.out)
                            (case side3 => repeat (first | exact (Kd.C_below HR186_0.out HB.out) | (with_reducible refine Kd.C_alloc ?_ _) | (with_reducible refine Kd.C_drewN ?_ _) | (with_reducible refine Kd.C_drew ?_)))
                            (case side4 => exact HC186_0.out)
                            rintro e w' ⟨rfl, ⟨nd, rfl⟩⟩
                            refine ⟨_, rfl, ?_⟩
                            refine hK.out _ _ ⟨(blk_cell BK179.out 0).trans rfl, (blk_cell BK179.out 1).trans rfl, (blk_cell BK179.out 2).trans rfl, (blk_cell BK179.out 3).trans rfl, (blk_cell BK180.out 0).trans rfl, (blk_cell BK180.out 1).trans rfl, (blk_cell BK180.out 2).trans rfl, (blk_cell BK180.out 3).trans rfl, ((HB.out.cell (World.block_lt_of_cell? w _ hw185_0)).trans hw185_0), ((HB.out.cell (World.block_lt_of_cell? w _ hw186_0)).trans hw186_0)⟩ (fun hHeld => ?_)
                            clear hK K
                            refine norm_ (a' := ?_) ?_ ?_
                            rotate_left
                            · show Act.put _ (some 73) _ = _
                              simp only [Act.put, List.setIfInBounds_toArray, List.set_cons_zero, List.set_cons_succ, i64_w, i32_w]
                              rfl
                            refine pure_ (i := 11) (N := some 74) (v := ?_) (a' := ?_) #[true, true, true, true, true, true, true, true, true, true, true, true] rfl rfl (any_of HT_.out (by kernel_rfl)) (fun _ _ _ h => h) (Or.inl ⟨by rfl, ?_⟩) ?_ ?_
                            rotate_left
                            · intro w'
                              go_simp
                              with_reducible rfl
                            rotate_left
                            · simp only [Act.put, List.setIfInBounds_toArray, List.set_cons_zero, List.set_cons_succ, i64_w, i32_w]
                              rfl
                            refine done_ (done_of HT_.out (by kernel_rfl)) ?_
                            try go_wp2
                            go_ret
                            exact ⟨by first | rfl | (simp [errW_none, errW_some] <;> rfl) | (simp [*, errW_none, errW_some] <;> rfl), by repeat (first | (with_reducible first | exact HB.out | apply below_alloc | apply pw_below_drewN | apply below_drew1 | refine below_set ?_ GE179.out | refine below_set ?_ GE180.out) | exact HB.out)⟩
                        · rw [if_neg c47] at H
                          exact absurd H (by simp)
                      · rw [if_neg c46] at H
                        exact absurd H (by simp)
                    · rw [if_neg c45] at H
                      exact absurd H (by simp)
                  · rw [if_neg c44] at H
                    have c44b0 : decide (x60_3 < (l0_3.length : Int)) = false := decide_eq_false c44
                    clear c44
                    obtain rfl := Option.some.inj H
                    go_wp2
                    go_ret
                    exact ⟨by first | rfl | (simp [errW_none, errW_some] <;> rfl) | (simp [*, errW_none, errW_some] <;> rfl), by repeat (first | (with_reducible first | exact HB.out | apply below_alloc | apply pw_below_drewN | apply below_drew1 | refine below_set ?_ GE179.out | refine below_set ?_ GE180.out) | exact HB.out)⟩

end Go.Proofs.Ytdlmcjchnoeebaa.P

end

section
namespace Go.Proofs.Ytdlmcjchnoeebaa.P
open Go.RowKit Go.Proofs.YtdlmcjchnoeebaaW.PrintWords Go.Proofs.YtdlmcjchnoeebaaW.PrintLast Go.Proofs.YtdlmcjchnoeebaaW.PrintMore
attribute [local go_sem] max2_int min2_int max_two min_two max_three min_three max_four min_four   -- for this text's walks alone
set_option linter.unusedVariables false
set_option linter.unusedSimpArgs false

section
variable {P : Program} {ops : Array Oper} {rest : List Oper} {o : Oper} {a : Act} {Q : Exit → Act → World → Prop} {K : Act → World → Prop}
structure Rws (w0 : World) (l : List (Nat × TypeId × Array Value)) (W : World) : Prop where
  lies : ∀ p ∈ l, W.heap[p.1]? = some (.cells p.2.2 p.2.1 (0, 0)) ∧ w0.heap.size ≤ p.1
  ne : (l.map Prod.fst).Nodup
  below : Below w0.heap.size w0 W
theorem Rws.nil (w : World) : Rws w [] w := ⟨fun _ h => by simp at h, by simp, Below.refl _ _⟩
theorem Rws.step {w0 W W1 : World} {l : List (Nat × TypeId × Array Value)} (h : Rws w0 l W) (hb : Below W.heap.size W W1) : Rws w0 l W1 := ⟨fun p hp => ⟨blk_below (h.lies p hp).1 hb, (h.lies p hp).2⟩, h.ne, below_step h.below hb⟩
theorem Rws.drewN {w0 W : World} {l : List (Nat × TypeId × Array Value)} (h : Rws w0 l W) (m : Nat) : Rws w0 l (W.drewN m) := h.step (pw_below_drewN (Below.refl _ _) m)
theorem Rws.mem {w0 W : World} {l : List (Nat × TypeId × Array Value)} (h : Rws w0 l W) {g : Nat} {t : TypeId} {cs : Array Value} (hm : (g, t, cs) ∈ l) : W.heap[g]? = some (.cells cs t (0, 0)) := (h.lies _ hm).1
theorem Rws.add {w0 W : World} {l : List (Nat × TypeId × Array Value)} (h : Rws w0 l W) (t : TypeId) (cs : Array Value) : Rws w0 ((W.heap.size, t, cs) :: l) (W.alloc (.cells cs t (0, 0))) := by
  have hb : Below W.heap.size W (W.alloc (.cells cs t (0, 0))) := below_alloc (Below.refl _ _) _
  refine ⟨fun p hp => ?_, ?_, below_step h.below hb⟩
  · rcases List.mem_cons.1 hp with rfl | hp
    · exact ⟨blk_new W _, h.below.size⟩
    · exact ⟨blk_below (h.lies p hp).1 hb, (h.lies p hp).2⟩
  · rw [List.map_cons, List.nodup_cons]
    refine ⟨fun hm => ?_, h.ne⟩
    obtain ⟨p, hp, e⟩ := List.mem_map.1 hm
    have := blk_lt (h.lies p hp).1
    have e : p.1 = W.heap.size := e
    omega
theorem Rws.tail {w0 W : World} {p : Nat × TypeId × Array Value} {l : List (Nat × TypeId × Array Value)} (h : Rws w0 (p :: l) W) : Rws w0 l W := ⟨fun q hq => h.lies q (List.mem_cons_of_mem _ hq), (List.nodup_cons.1 h.ne).2, h.below⟩
theorem Rws.swap {w0 W : World} {p q : Nat × TypeId × Array Value} {l : List (Nat × TypeId × Array Value)} (h : Rws w0 (p :: q :: l) W) : Rws w0 (q :: p :: l) W := ⟨fun r hr => h.lies r (by
  rcases List.mem_cons.1 hr with rfl | hr
  · exact List.mem_cons_of_mem _ List.mem_cons_self
  · rcases List.mem_cons.1 hr with rfl | hr
    · exact List.mem_cons_self
    · exact List.mem_cons_of_mem _ (List.mem_cons_of_mem _ hr)), (by
  have h1 := h.ne
  simp only [List.map_cons, List.nodup_cons, List.mem_cons, not_or] at h1 ⊢
  exact ⟨⟨fun e => h1.1.1 e.symm, h1.2.1⟩, h1.1.2, h1.2.2⟩), h.below⟩
theorem Rws.put {w0 W W1 : World} (l1 : List (Nat × TypeId × Array Value)) {l2 : List (Nat × TypeId × Array Value)} {g : Nat} {t : TypeId} {cs cs' : Array Value} (h : Rws w0 (l1 ++ (g, t, cs) :: l2) W) (hx : W1.heap[g]? = some (.cells cs' t (0, 0))) (hk : Kept W W1 (fun k => k = g)) (hb : ∀ (B : Nat) (w0 : World), B ≤ g → Below B w0 W → Below B w0 W1) : Rws w0 (l1 ++ (g, t, cs') :: l2) W1 := by
  have hn : ((l1 ++ (g, t, cs) :: l2).map Prod.fst) = ((l1 ++ (g, t, cs') :: l2).map Prod.fst) := by simp
  have hne := h.ne
  have hge := (h.lies (g, t, cs) (by simp)).2
  refine ⟨fun p hp => ?_, hn ▸ hne, hb _ _ hge h.below⟩
  have hnd : ∀ q ∈ l1 ++ l2, q.1 ≠ g := by
    rw [List.map_append, List.map_cons, List.nodup_append] at hne
    intro q hq e
    rcases List.mem_append.1 hq with hq | hq
    · exact hne.2.2 q.1 (List.mem_map.2 ⟨q, hq, rfl⟩) g (by simp) e
    · have := (List.nodup_cons.1 hne.2.1).1
      exact this (List.mem_map.2 ⟨q, hq, e⟩)
  rcases List.mem_append.1 hp with hp | hp
  · have hq := h.lies p (List.mem_append.2 (.inl hp))
    exact ⟨blk_kept hq.1 hk (fun e => hnd p (List.mem_append.2 (.inl hp)) e), hq.2⟩
  · rcases List.mem_cons.1 hp with rfl | hp
    · exact ⟨hx, hge⟩
    · have hq := h.lies p (List.mem_append.2 (.inr (List.mem_cons_of_mem _ hp)))
      exact ⟨blk_kept hq.1 hk (fun e => hnd p (List.mem_append.2 (.inr hp)) e), hq.2⟩
theorem rw_yields {S : World → Prop} {w0 : World} {l : List (Nat × TypeId × Array Value)} (hw : Region.wanted o (yielded ops a.tmps) = true) (ty : TypeId) {x : Operand} (ho : o.op = .load ty x) {g : Nat} (hx : a.eval x = .pointer (some ⟨g, 0, none⟩)) (hS : ∀ w, S w → Rws w0 l w) {cs : Array Value} (hm : (g, ty, cs) ∈ l) (d : TypeDesc) (hu : P.underlying ty = some d) (hd : (match d with | .struct _ | .array _ _ => true | _ => false) = true) (hi : (P.info? ty).map (·.size) = some cs.size) : YieldsIf P ops S o (.agg cs) a :=
  .inl ⟨hw, fun w hw' => by
    unfold execOp
    simp only [ho, hx, Instr.loadAt, Instr.sureAddr, Sem.run_bind, Sem.run_pure, Result.andThen_ok, run_loadVar_row w g ty ty cs (0, 0) d ((hS w hw').mem hm) hu hd hi]⟩
theorem rw_load (hgd : o.guard = none) (ty : TypeId) {x : Operand} (ho : o.op = .load ty x) {g : Nat} (hx : a.eval x = .pointer (some ⟨g, 0, none⟩)) {w0 W : World} {l : List (Nat × TypeId × Array Value)} (hl : Rws w0 l W) {cs : Array Value} (hm : (g, ty, cs) ∈ l) (d : TypeDesc) (hu : P.underlying ty = some d) (hd : (match d with | .struct _ | .array _ _ => true | _ => false) = true) (hi : (P.info? ty).map (·.size) = some cs.size)
    (h : wpList P ops Q rest (a.put o.dst (.agg cs)) W) : wpList P ops Q (o :: rest) a W :=
  wpList_load_row hgd ty x ho g hx ty cs (0, 0) d (hl.mem hm) hu hd hi h
theorem rw_box (hgd : o.guard = none) (ty : TypeId) {x : Operand} (ho : o.op = .box ty x) {cs : Array Value} (hx : a.eval x = .agg cs) {w0 W : World} {l : List (Nat × TypeId × Array Value)} (hl : Rws w0 l W)
    (h : ∀ g w1, Rws w0 ((g, ty, cs) :: l) w1 → wpList P ops Q rest (a.put o.dst (.pointer (some ⟨g, 0, none⟩))) w1) : wpList P ops Q (o :: rest) a W :=
  Kd.event_run hgd (by
    unfold execOp
    simp only [ho, hx]
    simp [Instr.box, newVar, newRow, Value.cells, Sem.run_bind]) (h W.heap.size _ (hl.add ty cs))
theorem rw_alloc_wp (ty : TypeId) (ho : o.op = .alloc ty) {cs : Array Value} (hz : (P.info? ty).map (·.zero) = some (some (.agg cs))) {w0 W : World} {l : List (Nat × TypeId × Array Value)} (hl : Rws w0 l W)
    (h : ∀ g w1, g = W.heap.size → Rws w0 ((g, ty, cs) :: l) w1 → Below W.heap.size W w1 → K (a.put o.dst (.pointer (some ⟨g, 0, none⟩))) w1) : Oper.wp P o a W K Q := by
  have hrun : (execOp a.eval o).run P W = .ok (.value (.pointer (some ⟨W.heap.size, 0, none⟩))) (W.alloc (.cells cs ty (0, 0))) := by
    unfold execOp
    cases hq : P.info? ty with
    | none => simp [hq] at hz
    | some i =>
      have hs : i.zero = some (.agg cs) := by simpa [hq] using hz
      simp only [ho]
      simp [Instr.alloc, zeroValue, typeInfo, hq, hs, newVar, newRow, Value.cells, Sem.run_bind]
  have hw := h W.heap.size _ rfl (hl.add ty cs) (below_alloc (Below.refl _ _) _)
  unfold Oper.wp
  rw [hrun]
  exact hw
theorem rw_store_wp (ty : TypeId) {x y : Operand} (ho : o.op = .store ty x y) {g : Nat} (hx : a.eval x = .pointer (some ⟨g, 0, none⟩)) {cs' : Array Value} (hy : a.eval y = .agg cs') {w0 W : World} (l1 : List (Nat × TypeId × Array Value)) {l2 : List (Nat × TypeId × Array Value)} {cs : Array Value} (hl : Rws w0 (l1 ++ (g, ty, cs) :: l2) W) (hi : (P.info? ty).map (·.size) = some cs'.size) (hs : cs.size = cs'.size) (h1 : cs'.all (·.oneCell') = true)
    (h : ∀ w1, Rws w0 (l1 ++ (g, ty, cs') :: l2) w1 → Kept W w1 (fun k => k = g) → K (a.put o.dst undef) w1) : Oper.wp P o a W K Q := by
  have hg := hl.mem (g := g) (t := ty) (cs := cs) (by simp)
  have hrun := run_storeVar_row W g ty ty cs cs' hg hi hs h1
  have hk : Kept W (W.setRow g cs') (fun k => k = g) := ⟨by simp, fun i _ hn => setRow_other W g i cs' hn⟩
  unfold Oper.wp execOp
  simp only [ho, hx, hy, Instr.storeAt, Instr.sureAddr, Sem.run_bind, Sem.run_pure, Result.andThen_ok, hrun]
  exact h _ (hl.put l1 (setRow_heap W g cs cs' ty (0, 0) hg) hk (fun B w0 hB hw => ⟨hw.os, hw.tape, hw.output, by simpa using hw.size, fun k hk => (setRow_other W g k cs' (by omega)).trans (hw.block k hk)⟩)) hk
theorem take_dst {S : World → Prop} {md : Region.Mode} {i : Nat} (N : Tmp) {oi : Oper} {v : Value} {fuel : Nat} {listed : Array Bool} {a : Act} {w : World} (hi : ops[i]? = some oi) (hN : oi.dst = some N)
    (hs : Region.noSelect ops = true) (hf : Region.free md ops listed i = true) (hr : (Region.ready md ops listed).contains i = true)
    (hQ : ∀ c a w, Q (.panic c) (a.put (some N) v) w → Q (.panic c) a w) (hy : YieldsIf P ops S oi v a) (hS : S w)
    (h : wpAnyH P md ops Q S fuel (listed.setIfInBounds i true) (a.put (some N) v) w) : wpAnyH P md ops Q S (fuel + 1) listed a w :=
  wpAnyH_take hi hs hf hr (by rw [hN]; exact hQ) hy hS (by rw [hN]; exact h)
end

structure CopyAt (B : Nat) (ok : Nat → Prop) (W : World) (v1 v2 v3 : Value) (l1 : List S64) (l2 : List S49) (l3 : List (List Int)) : Prop where
  r1 : Kd.R k64 64 W B ok v1 l1
  r2 : Kd.R k49 49 W B ok v2 l2
  r3 : Kd.R (Kd.slice 5 (Kd.int .u8)) 36 W B ok v3 l3
theorem CopyAt.s1 {B : Nat} {ok : Nat → Prop} {W : World} {v1 v2 v3 : Value} {l1 : List S64} {l2 : List S49} {l3 : List (List Int)} (h : CopyAt B ok W v1 v2 v3 l1 l2 l3) : ∃ A c, v1 = .slice A l1.length c := Kd.R_slice h.r1
theorem CopyAt.s2 {B : Nat} {ok : Nat → Prop} {W : World} {v1 v2 v3 : Value} {l1 : List S64} {l2 : List S49} {l3 : List (List Int)} (h : CopyAt B ok W v1 v2 v3 l1 l2 l3) : ∃ A c, v2 = .slice A l2.length c := Kd.R_slice h.r2
theorem CopyAt.s3 {B : Nat} {ok : Nat → Prop} {W : World} {v1 v2 v3 : Value} {l1 : List S64} {l2 : List S49} {l3 : List (List Int)} (h : CopyAt B ok W v1 v2 v3 l1 l2 l3) : ∃ A c, v3 = .slice A l3.length c := Kd.R_slice h.r3
theorem CopyAt.mono {B : Nat} {ok ok' : Nat → Prop} {W : World} {v1 v2 v3 : Value} {l1 : List S64} {l2 : List S49} {l3 : List (List Int)} (h : CopyAt B ok W v1 v2 v3 l1 l2 l3) (hk : ∀ k, ok k → ok' k) : CopyAt B ok' W v1 v2 v3 l1 l2 l3 := ⟨Kd.R_mono h.r1 hk, Kd.R_mono h.r2 hk, Kd.R_mono h.r3 hk⟩
theorem CopyAt.free {B : Nat} {ok : Nat → Prop} {W : World} {v1 v2 v3 : Value} {l1 : List S64} {l2 : List S49} {l3 : List (List Int)} (h : CopyAt B ok W v1 v2 v3 l1 l2 l3) : CopyAt B (fun _ => True) W v1 v2 v3 l1 l2 l3 := h.mono (fun _ _ => trivial)
theorem CopyAt.below {B : Nat} {ok : Nat → Prop} {W W1 : World} {v1 v2 v3 : Value} {l1 : List S64} {l2 : List S49} {l3 : List (List Int)} (h : CopyAt B ok W v1 v2 v3 l1 l2 l3) (hb : Below W.heap.size W W1) : CopyAt B ok W1 v1 v2 v3 l1 l2 l3 := ⟨Kd.R_below h.r1 hb, Kd.R_below h.r2 hb, Kd.R_below h.r3 hb⟩
theorem CopyAt.kept {B : Nat} {ok S : Nat → Prop} {W W1 : World} {v1 v2 v3 : Value} {l1 : List S64} {l2 : List S49} {l3 : List (List Int)} (h : CopyAt B ok W v1 v2 v3 l1 l2 l3) (hk : Kept W W1 S) (hn : ∀ k, ok k → ¬ S k) : CopyAt B (fun k => ok k ∧ (¬ S k ∧ k < W.heap.size)) W1 v1 v2 v3 l1 l2 l3 := ⟨Kd.R_keptB h.r1 hk hn, Kd.R_keptB h.r2 hk hn, Kd.R_keptB h.r3 hk hn⟩
theorem CopyAt.alloc {B : Nat} {gs : List Nat} {W W1 : World} {v1 v2 v3 : Value} {l1 : List S64} {l2 : List S49} {l3 : List (List Int)} (h : CopyAt B (fun k => k ∉ gs) W v1 v2 v3 l1 l2 l3) {g : Nat} (hg : g = W.heap.size) (hb : Below W.heap.size W W1) : CopyAt B (fun k => k ∉ g :: gs) W1 v1 v2 v3 l1 l2 l3 := by
  have hn : ∀ k, (k ∉ gs ∧ k < W.heap.size) → k ∉ g :: gs := fun k hk hm => by
    rcases List.mem_cons.1 hm with e | hm
    · omega
    · exact hk.1 hm
  exact CopyAt.below ⟨Kd.R_mono (Kd.R_bound h.r1) (fun k hk => hn k ⟨hk.1, hk.2.2.1⟩), Kd.R_mono (Kd.R_bound h.r2) (fun k hk => hn k ⟨hk.1, hk.2.2.1⟩), Kd.R_mono (Kd.R_bound h.r3) (fun k hk => hn k ⟨hk.1, hk.2.2.1⟩)⟩ hb
theorem CopyAt.made {B b : Nat} {gs : List Nat} {W : World} {v1 v2 v3 : Value} {l1 : List S64} {l2 : List S49} {l3 : List (List Int)} (hB : B ≤ b) (hg : ∀ g ∈ gs, g < b) (h1 : Kd.S k64 64 W b (fun _ => True) v1 l1) (h2 : Kd.S k49 49 W b (fun _ => True) v2 l2) (h3 : Kd.S (Kd.slice 5 (Kd.int .u8)) 36 W b (fun _ => True) v3 l3) : CopyAt B (fun k => k ∉ gs) W v1 v2 v3 l1 l2 l3 := by
  have hn : ∀ k, b ≤ k → k ∉ gs := fun k hk hm => by
    have := hg k hm
    omega
  exact ⟨Kd.R_mono (Kd.R_lower (Kd.R_bound (Kd.S_R h1)) hB) (fun k hk => hn k hk.2.1), Kd.R_mono (Kd.R_lower (Kd.R_bound (Kd.S_R h2)) hB) (fun k hk => hn k hk.2.1), Kd.R_mono (Kd.R_lower (Kd.R_bound (Kd.S_R h3)) hB) (fun k hk => hn k hk.2.1)⟩
theorem region_ask {P : Program} {id : Nat} {ops : Array Oper} {bo : Bool} {Q : Exit → Act → World → Prop} {a : Act} {w : World} (Fact : Nat → Nat → Value → Value → Value → Value → Value → Value → World → Prop) (A : Nat → Nat → Value → Value → Value → Value → Value → Value → Act) (hreg : (Code.region id ops bo).wp P (fun e a' w' => ∃ g h x1 x2 x3 y1 y2 y3, Fact g h x1 x2 x3 y1 y2 y3 w' ∧ e = .normal ∧ a' = A g h x1 x2 x3 y1 y2 y3) a w) (h : ∀ g h x1 x2 x3 y1 y2 y3 w', Fact g h x1 x2 x3 y1 y2 y3 w' → Q .normal (A g h x1 x2 x3 y1 y2 y3) w') : (Code.region id ops bo).wp P Q a w :=
  Code.wp_mono (fun e a w h1 => by obtain ⟨g, g', x1, x2, x3, y1, y2, y3, h2, rfl, rfl⟩ := h1; exact h g g' x1 x2 x3 y1 y2 y3 w h2) hreg
def provisolaw16_ModuleAsks.Facts (a0_0 : ByteArray) (l0_1 : List S64) (l0_2 : List S49) (l0_3 : List (List Int)) (a1_0 : ByteArray) (l1_1 : List S64) (l1_2 : List S49) (l1_3 : List (List Int)) (a2 : ByteArray) : Prop :=
  ∃ (k : Nat) (r1 : Int) (r2 u : Bool), module_Entry.f a0_0 l0_1 l0_2 l0_3 a2 = some (r1, r2) ∧ provisoref16_Entry.f k a0_0 l0_1 l0_2 l0_3 a2 = some (r1, r2) ∧
    provisoplain_Module.f k a0_0 l0_1 l0_2 l0_3 = some (a0_0, l0_1, l0_2, l0_3) ∧ provisoplain_Module.f k a1_0 l1_1 l1_2 l1_3 = some (a1_0, l1_1, l1_2, l1_3) ∧
    module_Same.f k a0_0 l0_1 l0_2 l0_3 a1_0 l1_1 l1_2 l1_3 = some u ∧ provisoplain_SameModule.f k a0_0 l0_1 l0_2 l0_3 a1_0 l1_1 l1_2 l1_3 = some u ∧
    module_Same.f k a0_0 l0_1 l0_2 l0_3 a0_0 l0_1 l0_2 l0_3 = some true
set_option maxHeartbeats 12800000 in
set_option maxRecDepth 100000 in
theorem provisolaw16_ModuleAsks.calls (a0_0 : ByteArray) (A0_1 : Option Addr) (c0_1 : Nat) (l0_1 : List S64) (A0_2 : Option Addr) (c0_2 : Nat) (l0_2 : List S49) (A0_3 : Option Addr) (c0_3 : Nat) (l0_3 : List (List Int)) (a1_0 : ByteArray) (A1_1 : Option Addr) (c1_1 : Nat) (l1_1 : List S64) (A1_2 : Option Addr) (c1_2 : Nat) (l1_2 : List S49) (A1_3 : Option Addr) (c1_3 : Nat) (l1_3 : List (List Int)) (a2 : ByteArray) (w : World) (hr0_1 : Kd.C k64 w A0_1 l0_1.length l0_1) (hc0_1 : l0_1.length ≤ c0_1) (hr0_2 : Kd.C k49 w A0_2 l0_2.length l0_2) (hc0_2 : l0_2.length ≤ c0_2) (hr0_3 : Kd.C (Kd.slice 5 (Kd.int .u8)) w A0_3 l0_3.length l0_3) (hc0_3 : l0_3.length ≤ c0_3) (hr1_1 : Kd.C k64 w A1_1 l1_1.length l1_1) (hc1_1 : l1_1.length ≤ c1_1) (hr1_2 : Kd.C k49 w A1_2 l1_2.length l1_2) (hc1_2 : l1_2.length ≤ c1_2) (hr1_3 : Kd.C (Kd.slice 5 (Kd.int .u8)) w A1_3 l1_3.length l1_3) (hc1_3 : l1_3.length ≤ c1_3) (h : provisolaw16_ModuleAsks.Facts a0_0 l0_1 l0_2 l0_3 a1_0 l1_1 l1_2 l1_3 a2) :
    Calls Try.prog 3 #[.agg #[.string a0_0, .slice A0_1 l0_1.length c0_1, .slice A0_2 l0_2.length c0_2, .slice A0_3 l0_3.length c0_3], .agg #[.string a1_0, .slice A1_1 l1_1.length c1_1, .slice A1_2 l1_2.length c1_2, .slice A1_3 l1_3.length c1_3], .string a2] w fun e w' => e = .returned (.bool true) ∧ Below w.heap.size w w' := by
  obtain ⟨k, r1, r2, u, he1, he2, hm0, hm1, hs1, hs2, hs3⟩ := h
  have HE1 := Aside0.mk he1
  have HE2 := Aside0.mk he2
  have HMC0 := Aside0.mk hm0
  have HMC1 := Aside0.mk hm1
  have HS1 := Aside0.mk hs1
  have HS2 := Aside0.mk hs2
  have HS3 := Aside0.mk hs3
  have HR01 := Aside0.mk hr0_1
  have HN01 := Aside0.mk hc0_1
  have HR02 := Aside0.mk hr0_2
  have HN02 := Aside0.mk hc0_2
  have HR03 := Aside0.mk hr0_3
  have HN03 := Aside0.mk hc0_3
  have HR11 := Aside0.mk hr1_1
  have HN11 := Aside0.mk hc1_1
  have HR12 := Aside0.mk hr1_2
  have HN12 := Aside0.mk hc1_2
  have HR13 := Aside0.mk hr1_3
  have HN13 := Aside0.mk hc1_3
  clear he1 he2 hm0 hm1 hs1 hs2 hs3 hr0_1 hc0_1 hr0_2 hc0_2 hr0_3 hc0_3 hr1_1 hc1_1 hr1_2 hc1_2 hr1_3 hc1_3
  have HA := Aside0.mk (Rws.nil w)
  go_enter Try.func3, Try.ntmps3
  go_wp2_with (first | ((with_reducible refine gate_dst (N := 3) rfl ?_); refine rw_box rfl 26 rfl rfl HA.out ?_; intro ga w_ hA; replace HA := Aside0.mk hA; clear hA) | ((with_reducible refine gate_dst (N := 4) rfl ?_); refine rw_box rfl 26 rfl rfl HA.out ?_; intro gb w_ hA; replace HA := Aside0.mk hA; clear hA) | ((with_reducible refine gate_dst (N := 14) rfl ?_); refine rw_load rfl 26 rfl rfl HA.out (by first | exact List.mem_cons_self | exact List.mem_cons_of_mem _ List.mem_cons_self) _ Try.underlying26 rfl (by kernel_rfl) ?_))
  refine (module_Entry.calls a0_0 A0_1 c0_1 l0_1 A0_2 c0_2 l0_2 A0_3 c0_3 l0_3 a2 r1 r2 _ (Kd.C_below HR01.out HA.out.below) HN01.out (Kd.C_below HR02.out HA.out.below) HN02.out (Kd.C_below HR03.out HA.out.below) HN03.out HE1.out).mono ?_
  rintro e w_ ⟨rfl, hb⟩
  replace HA := Aside0.mk (HA.out.step hb)
  clear hb
  go_wp2_with (first | ((with_reducible refine gate_dst (N := 20) rfl ?_); refine rw_load rfl 26 rfl rfl HA.out (by first | exact List.mem_cons_self | exact List.mem_cons_of_mem _ List.mem_cons_self) _ Try.underlying26 rfl (by kernel_rfl) ?_))
  refine (provisoref16_Entry.calls k a0_0 A0_1 c0_1 l0_1 A0_2 c0_2 l0_2 A0_3 c0_3 l0_3 a2 r1 r2 _ (Kd.C_below HR01.out HA.out.below) HN01.out (Kd.C_below HR02.out HA.out.below) HN02.out (Kd.C_below HR03.out HA.out.below) HN03.out HE2.out).mono ?_
  rintro e w_ ⟨rfl, hb⟩
  replace HA := Aside0.mk (HA.out.step hb)
  clear hb
  go_upto_region 5 with (fail)
  have hA := HA.out
  refine' region_ask (fun g1 g2 x1 x2 x3 y1 y2 y3 w' => Rws w [(g2, 26, #[.string a1_0, y1, y2, y3]), (g1, 26, #[.string a0_0, x1, x2, x3]), (gb, 26, #[.string a1_0, .slice A1_1 l1_1.length c1_1, .slice A1_2 l1_2.length c1_2, .slice A1_3 l1_3.length c1_3]), (ga, 26, #[.string a0_0, .slice A0_1 l0_1.length c0_1, .slice A0_2 l0_2.length c0_2, .slice A0_3 l0_3.length c0_3])] w' ∧ CopyAt w.heap.size (fun _ => True) w' x1 x2 x3 l0_1 l0_2 l0_3 ∧ CopyAt w.heap.size (fun _ => True) w' y1 y2 y3 l1_1 l1_2 l1_3) _ ?hreg5 ?hgo5
  case hreg5 =>
    refine wp_region_noPanic ?_
    refine wp_region_held_drew (S := fun w' => Rws w [(gb, 26, #[.string a1_0, .slice A1_1 l1_1.length c1_1, .slice A1_2 l1_2.length c1_2, .slice A1_3 l1_3.length c1_3]), (ga, 26, #[.string a0_0, .slice A0_1 l0_1.length c0_1, .slice A0_2 l0_2.length c0_2, .slice A0_3 l0_3.length c0_3])] w') (by kernel_rfl) ?_ (fun hHeld => ?_)
    · exact hA.drewN 1
    refine take_dst (i := 0) 33 rfl rfl (by kernel_rfl) (by kernel_rfl) (by kernel_rfl) (fun _ _ _ h => h) (rw_yields rfl 26 rfl rfl (fun _ h => h) (List.mem_cons_of_mem _ List.mem_cons_self) _ Try.underlying26 rfl (by kernel_rfl)) (by assumption) ?_
    (try simp only [Act.put, List.setIfInBounds_toArray, List.set_cons_zero, List.set_cons_succ])
    refine take_dst (i := 2) 35 rfl rfl (by kernel_rfl) (by kernel_rfl) (by kernel_rfl) (fun _ _ _ h => h) (rw_yields rfl 26 rfl rfl (fun _ h => h) List.mem_cons_self _ Try.underlying26 rfl (by kernel_rfl)) (by assumption) ?_
    (try simp only [Act.put, List.setIfInBounds_toArray, List.set_cons_zero, List.set_cons_succ])
    refine wpAnyH_ready (rs := [1, 4, 5]) (by kernel_rfl) (by simp) ?_
    refine (AllReadyH.cons rfl (fun K hK => ?_) (AllReadyH.cons rfl (fun K hK => ?_) (AllReadyH.cons rfl (fun K hK => ?_) AllReadyH.nil)))
    ·
      go_simp
      refine (provisoplain_Module.calls k a0_0 A0_1 c0_1 l0_1 A0_2 c0_2 l0_2 A0_3 c0_3 l0_3 a0_0 l0_1 l0_2 l0_3 _ (Kd.C_below HR01.out hHeld.below) HN01.out (Kd.C_below HR02.out hHeld.below) HN02.out (Kd.C_below HR03.out hHeld.below) HN03.out HMC0.out).mono ?_
      rintro e w9 ⟨x1, x2, x3, rfl, hS1, hS2, hS3, hb⟩
      have HC0 := Aside0.mk (CopyAt.made (gs := []) hHeld.below.size (by simp) hS1 hS2 hS3)
      have h9 : Rws w [(gb, 26, #[.string a1_0, .slice A1_1 l1_1.length c1_1, .slice A1_2 l1_2.length c1_2, .slice A1_3 l1_3.length c1_3]), (ga, 26, #[.string a0_0, .slice A0_1 l0_1.length c0_1, .slice A0_2 l0_2.length c0_2, .slice A0_3 l0_3.length c0_3])] w9 := hHeld.step hb
      clear hS1 hS2 hS3
      go_simp
      refine hK.out _ _ h9 (fun hHeld => ?_)
      (try simp only [Act.put, List.setIfInBounds_toArray, List.set_cons_zero, List.set_cons_succ])
      clear hK K h9 hb
      refine wpAnyH_ready (rs := [3, 4, 5]) (by kernel_rfl) (by simp) ?_
      refine (AllReadyH.cons rfl (fun K hK => ?_) (AllReadyH.cons rfl (fun K hK => ?_) (AllReadyH.cons rfl (fun K hK => ?_) AllReadyH.nil)))
      ·
        go_simp
        refine (provisoplain_Module.calls k a1_0 A1_1 c1_1 l1_1 A1_2 c1_2 l1_2 A1_3 c1_3 l1_3 a1_0 l1_1 l1_2 l1_3 _ (Kd.C_below HR11.out hHeld.below) HN11.out (Kd.C_below HR12.out hHeld.below) HN12.out (Kd.C_below HR13.out hHeld.below) HN13.out HMC1.out).mono ?_
        rintro e w9 ⟨y1, y2, y3, rfl, hS1, hS2, hS3, hb⟩
        have HC1 := Aside0.mk (CopyAt.made (gs := []) hHeld.below.size (by simp) hS1 hS2 hS3)
        have h9 : Rws w [(gb, 26, #[.string a1_0, .slice A1_1 l1_1.length c1_1, .slice A1_2 l1_2.length c1_2, .slice A1_3 l1_3.length c1_3]), (ga, 26, #[.string a0_0, .slice A0_1 l0_1.length c0_1, .slice A0_2 l0_2.length c0_2, .slice A0_3 l0_3.length c0_3])] w9 := hHeld.step hb
        replace HC0 := Aside0.mk (HC0.out.below hb)
        clear hS1 hS2 hS3
        go_simp
        refine hK.out _ _ h9 (fun hHeld => ?_)
        (try simp only [Act.put, List.setIfInBounds_toArray, List.set_cons_zero, List.set_cons_succ])
        clear hK K h9 hb
        refine wpAnyH_ready (rs := [4, 5]) (by kernel_rfl) (by simp) ?_
        refine (AllReadyH.cons rfl (fun K hK => ?_) (AllReadyH.cons rfl (fun K hK => ?_) AllReadyH.nil))
        ·
          refine Eq.mpr (if_pos (by rfl)) ?_
          refine rw_alloc_wp 26 rfl (cs := #[.string ⟨#[]⟩, .slice none 0 0, .slice none 0 0, .slice none 0 0]) (by kernel_rfl) hHeld ?_
          intro g1 w8 hg hX hb
          have h9 : Rws w [(gb, 26, #[.string a1_0, .slice A1_1 l1_1.length c1_1, .slice A1_2 l1_2.length c1_2, .slice A1_3 l1_3.length c1_3]), (ga, 26, #[.string a0_0, .slice A0_1 l0_1.length c0_1, .slice A0_2 l0_2.length c0_2, .slice A0_3 l0_3.length c0_3])] w8 := hHeld.step hb
          replace HC0 := Aside0.mk (HC0.out.alloc hg hb)
          replace HC1 := Aside0.mk (HC1.out.alloc hg hb)
          have HX := Aside0.mk hX
          clear hX hg
          refine hK.out _ _ h9 (fun hHeld => ?_)
          (try simp only [Act.put, List.setIfInBounds_toArray, List.set_cons_zero, List.set_cons_succ])
          clear hK K h9 hb
          refine wpAnyH_ready (rs := [5]) (by kernel_rfl) (by simp) ?_
          refine (AllReadyH.cons rfl (fun K hK => ?_) AllReadyH.nil)
          refine Eq.mpr (if_pos (by rfl)) ?_
          refine rw_alloc_wp 26 rfl (cs := #[.string ⟨#[]⟩, .slice none 0 0, .slice none 0 0, .slice none 0 0]) (by kernel_rfl) HX.out ?_
          intro g2 w8 hg hX hb
          have h9 : Rws w [(gb, 26, #[.string a1_0, .slice A1_1 l1_1.length c1_1, .slice A1_2 l1_2.length c1_2, .slice A1_3 l1_3.length c1_3]), (ga, 26, #[.string a0_0, .slice A0_1 l0_1.length c0_1, .slice A0_2 l0_2.length c0_2, .slice A0_3 l0_3.length c0_3])] w8 := hHeld.step hb
          replace HC0 := Aside0.mk (HC0.out.alloc hg hb)
          replace HC1 := Aside0.mk (HC1.out.alloc hg hb)
          have HX := Aside0.mk hX
          clear hX hg
          refine hK.out _ _ h9 (fun hHeld => ?_)
          (try simp only [Act.put, List.setIfInBounds_toArray, List.set_cons_zero, List.set_cons_succ])
          clear hK K h9 hb
          refine wpAnyH_ready (rs := [6]) (by kernel_rfl) (by simp) ?_
          refine (AllReadyH.cons rfl (fun K hK => ?_) AllReadyH.nil)
          refine Eq.mpr (if_pos (by rfl)) ?_
          refine rw_store_wp 26 rfl rfl (cs' := #[.string a0_0, x1, x2, x3]) rfl [(g2, 26, #[.string ⟨#[]⟩, .slice none 0 0, .slice none 0 0, .slice none 0 0])] HX.out (by kernel_rfl) rfl (by obtain ⟨_, _, q1⟩ := HC0.out.s1; obtain ⟨_, _, q2⟩ := HC0.out.s2; obtain ⟨_, _, q3⟩ := HC0.out.s3; rw [q1, q2, q3]; show _ = _; kernel_rfl) ?_
          intro w8 hX hk
          replace HC0 := Aside0.mk (HC0.out.kept hk (fun k hk2 e => hk2 (by rw [e]; simp)))
          replace HC1 := Aside0.mk (HC1.out.kept hk (fun k hk2 e => hk2 (by rw [e]; simp)))
          have HX := Aside0.mk hX
          refine hK.out _ _ hX.tail.tail (fun hHeld => ?_)
          (try simp only [Act.put, List.setIfInBounds_toArray, List.set_cons_zero, List.set_cons_succ])
          clear hK K hk hX
          refine wpAnyH_ready (rs := [7]) (by kernel_rfl) (by simp) ?_
          refine (AllReadyH.cons rfl (fun K hK => ?_) AllReadyH.nil)
          refine Eq.mpr (if_pos (by rfl)) ?_
          refine rw_store_wp 26 rfl rfl (cs' := #[.string a1_0, y1, y2, y3]) rfl [] HX.out (by kernel_rfl) rfl (by obtain ⟨_, _, q1⟩ := HC1.out.s1; obtain ⟨_, _, q2⟩ := HC1.out.s2; obtain ⟨_, _, q3⟩ := HC1.out.s3; rw [q1, q2, q3]; show _ = _; kernel_rfl) ?_
          intro w9 hX hk
          replace HC0 := Aside0.mk (HC0.out.kept hk (fun k hk2 e => hk2.1 (by rw [e]; simp)))
          replace HC1 := Aside0.mk (HC1.out.kept hk (fun k hk2 e => hk2.1 (by rw [e]; simp)))
          refine hK.out _ _ hX.tail.tail (fun hHeld => ?_)
          (try simp only [Act.put, List.setIfInBounds_toArray, List.set_cons_zero, List.set_cons_succ])
          clear hK K
          refine wpAnyH_done (by kernel_rfl) ?_ _
          refine NoPanic.normal ⟨g1, g2, x1, x2, x3, y1, y2, y3, ⟨hX, HC0.out.free, HC1.out.free⟩, rfl, ?_⟩
          exact Eq.refl _
        ·
          refine Eq.mpr (if_pos (by rfl)) ?_
          refine rw_alloc_wp 26 rfl (cs := #[.string ⟨#[]⟩, .slice none 0 0, .slice none 0 0, .slice none 0 0]) (by kernel_rfl) hHeld ?_
          intro g2 w8 hg hX hb
          have h9 : Rws w [(gb, 26, #[.string a1_0, .slice A1_1 l1_1.length c1_1, .slice A1_2 l1_2.length c1_2, .slice A1_3 l1_3.length c1_3]), (ga, 26, #[.string a0_0, .slice A0_1 l0_1.length c0_1, .slice A0_2 l0_2.length c0_2, .slice A0_3 l0_3.length c0_3])] w8 := hHeld.step hb
          replace HC0 := Aside0.mk (HC0.out.alloc hg hb)
          replace HC1 := Aside0.mk (HC1.out.alloc hg hb)
          have HX := Aside0.mk hX
          clear hX hg
          refine hK.out _ _ h9 (fun hHeld => ?_)
          (try simp only [Act.put, List.setIfInBounds_toArray, List.set_cons_zero, List.set_cons_succ])
          clear hK K h9 hb
          refine wpAnyH_ready (rs := [4]) (by kernel_rfl) (by simp) ?_
          refine (AllReadyH.cons rfl (fun K hK => ?_) AllReadyH.nil)
          refine Eq.mpr (if_pos (by rfl)) ?_
          refine rw_alloc_wp 26 rfl (cs := #[.string ⟨#[]⟩, .slice none 0 0, .slice none 0 0, .slice none 0 0]) (by kernel_rfl) HX.out ?_
          intro g1 w8 hg hX hb
          have h9 : Rws w [(gb, 26, #[.string a1_0, .slice A1_1 l1_1.length c1_1, .slice A1_2 l1_2.length c1_2, .slice A1_3 l1_3.length c1_3]), (ga, 26, #[.string a0_0, .slice A0_1 l0_1.length c0_1, .slice A0_2 l0_2.length c0_2, .slice A0_3 l0_3.length c0_3])] w8 := hHeld.step hb
          replace HC0 := Aside0.mk (HC0.out.alloc hg hb)
          replace HC1 := Aside0.mk (HC1.out.alloc hg hb)
          have HX := Aside0.mk hX
          clear hX hg
          refine hK.out _ _ h9 (fun hHeld => ?_)
          (try simp only [Act.put, List.setIfInBounds_toArray, List.set_cons_zero, List.set_cons_succ])
          clear hK K h9 hb
          refine wpAnyH_ready (rs := [6]) (by kernel_rfl) (by simp) ?_
          refine (AllReadyH.cons rfl (fun K hK => ?_) AllReadyH.nil)
          refine Eq.mpr (if_pos (by rfl)) ?_
          refine rw_store_wp 26 rfl rfl (cs' := #[.string a0_0, x1, x2, x3]) rfl [] HX.out (by kernel_rfl) rfl (by obtain ⟨_, _, q1⟩ := HC0.out.s1; obtain ⟨_, _, q2⟩ := HC0.out.s2; obtain ⟨_, _, q3⟩ := HC0.out.s3; rw [q1, q2, q3]; show _ = _; kernel_rfl) ?_
          intro w8 hX hk
          replace HC0 := Aside0.mk (HC0.out.kept hk (fun k hk2 e => hk2 (by rw [e]; simp)))
          replace HC1 := Aside0.mk (HC1.out.kept hk (fun k hk2 e => hk2 (by rw [e]; simp)))
          have HX := Aside0.mk hX
          refine hK.out _ _ hX.tail.tail (fun hHeld => ?_)
          (try simp only [Act.put, List.setIfInBounds_toArray, List.set_cons_zero, List.set_cons_succ])
          clear hK K hk hX
          refine wpAnyH_ready (rs := [7]) (by kernel_rfl) (by simp) ?_
          refine (AllReadyH.cons rfl (fun K hK => ?_) AllReadyH.nil)
          refine Eq.mpr (if_pos (by rfl)) ?_
          refine rw_store_wp 26 rfl rfl (cs' := #[.string a1_0, y1, y2, y3]) rfl [(g1, 26, #[.string a0_0, x1, x2, x3])] HX.out (by kernel_rfl) rfl (by obtain ⟨_, _, q1⟩ := HC1.out.s1; obtain ⟨_, _, q2⟩ := HC1.out.s2; obtain ⟨_, _, q3⟩ := HC1.out.s3; rw [q1, q2, q3]; show _ = _; kernel_rfl) ?_
          intro w9 hX hk
          replace HC0 := Aside0.mk (HC0.out.kept hk (fun k hk2 e => hk2.1 (by rw [e]; simp)))
          replace HC1 := Aside0.mk (HC1.out.kept hk (fun k hk2 e => hk2.1 (by rw [e]; simp)))
          refine hK.out _ _ hX.tail.tail (fun hHeld => ?_)
          (try simp only [Act.put, List.setIfInBounds_toArray, List.set_cons_zero, List.set_cons_succ])
          clear hK K
          refine wpAnyH_done (by kernel_rfl) ?_ _
          refine NoPanic.normal ⟨g1, g2, x1, x2, x3, y1, y2, y3, ⟨hX.swap, HC0.out.free, HC1.out.free⟩, rfl, ?_⟩
          exact Eq.refl _
      ·
        refine Eq.mpr (if_pos (by rfl)) ?_
        refine rw_alloc_wp 26 rfl (cs := #[.string ⟨#[]⟩, .slice none 0 0, .slice none 0 0, .slice none 0 0]) (by kernel_rfl) hHeld ?_
        intro g1 w8 hg hX hb
        have h9 : Rws w [(gb, 26, #[.string a1_0, .slice A1_1 l1_1.length c1_1, .slice A1_2 l1_2.length c1_2, .slice A1_3 l1_3.length c1_3]), (ga, 26, #[.string a0_0, .slice A0_1 l0_1.length c0_1, .slice A0_2 l0_2.length c0_2, .slice A0_3 l0_3.length c0_3])] w8 := hHeld.step hb
        replace HC0 := Aside0.mk (HC0.out.alloc hg hb)
        have HX := Aside0.mk hX
        clear hX hg
        refine hK.out _ _ h9 (fun hHeld => ?_)
        (try simp only [Act.put, List.setIfInBounds_toArray, List.set_cons_zero, List.set_cons_succ])
        clear hK K h9 hb
        refine wpAnyH_ready (rs := [3, 5]) (by kernel_rfl) (by simp) ?_
        refine (AllReadyH.cons rfl (fun K hK => ?_) (AllReadyH.cons rfl (fun K hK => ?_) AllReadyH.nil))
        ·
          go_simp
          refine (provisoplain_Module.calls k a1_0 A1_1 c1_1 l1_1 A1_2 c1_2 l1_2 A1_3 c1_3 l1_3 a1_0 l1_1 l1_2 l1_3 _ (Kd.C_below HR11.out hHeld.below) HN11.out (Kd.C_below HR12.out hHeld.below) HN12.out (Kd.C_below HR13.out hHeld.below) HN13.out HMC1.out).mono ?_
          rintro e w9 ⟨y1, y2, y3, rfl, hS1, hS2, hS3, hb⟩
          have HC1 := Aside0.mk (CopyAt.made (gs := [g1]) hHeld.below.size (by intro g hg; simp only [List.mem_cons, List.not_mem_nil, or_false] at hg; rw [hg]; first | exact blk_lt (HX.out.mem List.mem_cons_self) ) hS1 hS2 hS3)
          have h9 : Rws w [(gb, 26, #[.string a1_0, .slice A1_1 l1_1.length c1_1, .slice A1_2 l1_2.length c1_2, .slice A1_3 l1_3.length c1_3]), (ga, 26, #[.string a0_0, .slice A0_1 l0_1.length c0_1, .slice A0_2 l0_2.length c0_2, .slice A0_3 l0_3.length c0_3])] w9 := hHeld.step hb
          replace HX := Aside0.mk (HX.out.step hb)
          replace HC0 := Aside0.mk (HC0.out.below hb)
          clear hS1 hS2 hS3
          go_simp
          refine hK.out _ _ h9 (fun hHeld => ?_)
          (try simp only [Act.put, List.setIfInBounds_toArray, List.set_cons_zero, List.set_cons_succ])
          clear hK K h9 hb
          refine wpAnyH_ready (rs := [5]) (by kernel_rfl) (by simp) ?_
          refine (AllReadyH.cons rfl (fun K hK => ?_) AllReadyH.nil)
          refine Eq.mpr (if_pos (by rfl)) ?_
          refine rw_alloc_wp 26 rfl (cs := #[.string ⟨#[]⟩, .slice none 0 0, .slice none 0 0, .slice none 0 0]) (by kernel_rfl) HX.out ?_
          intro g2 w8 hg hX hb
          have h9 : Rws w [(gb, 26, #[.string a1_0, .slice A1_1 l1_1.length c1_1, .slice A1_2 l1_2.length c1_2, .slice A1_3 l1_3.length c1_3]), (ga, 26, #[.string a0_0, .slice A0_1 l0_1.length c0_1, .slice A0_2 l0_2.length c0_2, .slice A0_3 l0_3.length c0_3])] w8 := hHeld.step hb
          replace HC0 := Aside0.mk (HC0.out.alloc hg hb)
          replace HC1 := Aside0.mk (HC1.out.alloc hg hb)
          have HX := Aside0.mk hX
          clear hX hg
          refine hK.out _ _ h9 (fun hHeld => ?_)
          (try simp only [Act.put, List.setIfInBounds_toArray, List.set_cons_zero, List.set_cons_succ])
          clear hK K h9 hb
          refine wpAnyH_ready (rs := [6]) (by kernel_rfl) (by simp) ?_
          refine (AllReadyH.cons rfl (fun K hK => ?_) AllReadyH.nil)
          refine Eq.mpr (if_pos (by rfl)) ?_
          refine rw_store_wp 26 rfl rfl (cs' := #[.string a0_0, x1, x2, x3]) rfl [(g2, 26, #[.string ⟨#[]⟩, .slice none 0 0, .slice none 0 0, .slice none 0 0])] HX.out (by kernel_rfl) rfl (by obtain ⟨_, _, q1⟩ := HC0.out.s1; obtain ⟨_, _, q2⟩ := HC0.out.s2; obtain ⟨_, _, q3⟩ := HC0.out.s3; rw [q1, q2, q3]; show _ = _; kernel_rfl) ?_
          intro w8 hX hk
          replace HC0 := Aside0.mk (HC0.out.kept hk (fun k hk2 e => hk2 (by rw [e]; simp)))
          replace HC1 := Aside0.mk (HC1.out.kept hk (fun k hk2 e => hk2 (by rw [e]; simp)))
          have HX := Aside0.mk hX
          refine hK.out _ _ hX.tail.tail (fun hHeld => ?_)
          (try simp only [Act.put, List.setIfInBounds_toArray, List.set_cons_zero, List.set_cons_succ])
          clear hK K hk hX
          refine wpAnyH_ready (rs := [7]) (by kernel_rfl) (by simp) ?_
          refine (AllReadyH.cons rfl (fun K hK => ?_) AllReadyH.nil)
          refine Eq.mpr (if_pos (by rfl)) ?_
          refine rw_store_wp 26 rfl rfl (cs' := #[.string a1_0, y1, y2, y3]) rfl [] HX.out (by kernel_rfl) rfl (by obtain ⟨_, _, q1⟩ := HC1.out.s1; obtain ⟨_, _, q2⟩ := HC1.out.s2; obtain ⟨_, _, q3⟩ := HC1.out.s3; rw [q1, q2, q3]; show _ = _; kernel_rfl) ?_
          intro w9 hX hk
          replace HC0 := Aside0.mk (HC0.out.kept hk (fun k hk2 e => hk2.1 (by rw [e]; simp)))
          replace HC1 := Aside0.mk (HC1.out.kept hk (fun k hk2 e => hk2.1 (by rw [e]; simp)))
          refine hK.out _ _ hX.tail.tail (fun hHeld => ?_)
          (try simp only [Act.put, List.setIfInBounds_toArray, List.set_cons_zero, List.set_cons_succ])
          clear hK K
          refine wpAnyH_done (by kernel_rfl) ?_ _
          refine NoPanic.normal ⟨g1, g2, x1, x2, x3, y1, y2, y3, ⟨hX, HC0.out.free, HC1.out.free⟩, rfl, ?_⟩
          exact Eq.refl _
        ·
          refine Eq.mpr (if_pos (by rfl)) ?_
          refine rw_alloc_wp 26 rfl (cs := #[.string ⟨#[]⟩, .slice none 0 0, .slice none 0 0, .slice none 0 0]) (by kernel_rfl) HX.out ?_
          intro g2 w8 hg hX hb
          have h9 : Rws w [(gb, 26, #[.string a1_0, .slice A1_1 l1_1.length c1_1, .slice A1_2 l1_2.length c1_2, .slice A1_3 l1_3.length c1_3]), (ga, 26, #[.string a0_0, .slice A0_1 l0_1.length c0_1, .slice A0_2 l0_2.length c0_2, .slice A0_3 l0_3.length c0_3])] w8 := hHeld.step hb
          replace HC0 := Aside0.mk (HC0.out.alloc hg hb)
          have HX := Aside0.mk hX
          clear hX hg
          refine hK.out _ _ h9 (fun hHeld => ?_)
          (try simp only [Act.put, List.setIfInBounds_toArray, List.set_cons_zero, List.set_cons_succ])
          clear hK K h9 hb
          refine wpAnyH_ready (rs := [3]) (by kernel_rfl) (by simp) ?_
          refine (AllReadyH.cons rfl (fun K hK => ?_) AllReadyH.nil)
          go_simp
          refine (provisoplain_Module.calls k a1_0 A1_1 c1_1 l1_1 A1_2 c1_2 l1_2 A1_3 c1_3 l1_3 a1_0 l1_1 l1_2 l1_3 _ (Kd.C_below HR11.out hHeld.below) HN11.out (Kd.C_below HR12.out hHeld.below) HN12.out (Kd.C_below HR13.out hHeld.below) HN13.out HMC1.out).mono ?_
          rintro e w9 ⟨y1, y2, y3, rfl, hS1, hS2, hS3, hb⟩
          have HC1 := Aside0.mk (CopyAt.made (gs := [g2, g1]) hHeld.below.size (by intro g hg; simp only [List.mem_cons, List.not_mem_nil, or_false] at hg; rcases hg with e | e <;> rw [e] <;> first | exact blk_lt (HX.out.mem List.mem_cons_self) | exact blk_lt (HX.out.mem (List.mem_cons_of_mem _ List.mem_cons_self)) ) hS1 hS2 hS3)
          have h9 : Rws w [(gb, 26, #[.string a1_0, .slice A1_1 l1_1.length c1_1, .slice A1_2 l1_2.length c1_2, .slice A1_3 l1_3.length c1_3]), (ga, 26, #[.string a0_0, .slice A0_1 l0_1.length c0_1, .slice A0_2 l0_2.length c0_2, .slice A0_3 l0_3.length c0_3])] w9 := hHeld.step hb
          replace HX := Aside0.mk (HX.out.step hb)
          replace HC0 := Aside0.mk (HC0.out.below hb)
          clear hS1 hS2 hS3
          go_simp
          refine hK.out _ _ h9 (fun hHeld => ?_)
          (try simp only [Act.put, List.setIfInBounds_toArray, List.set_cons_zero, List.set_cons_succ])
          clear hK K h9 hb
          refine wpAnyH_ready (rs := [6]) (by kernel_rfl) (by simp) ?_
          refine (AllReadyH.cons rfl (fun K hK => ?_) AllReadyH.nil)
          refine Eq.mpr (if_pos (by rfl)) ?_
          refine rw_store_wp 26 rfl rfl (cs' := #[.string a0_0, x1, x2, x3]) rfl [(g2, 26, #[.string ⟨#[]⟩, .slice none 0 0, .slice none 0 0, .slice none 0 0])] HX.out (by kernel_rfl) rfl (by obtain ⟨_, _, q1⟩ := HC0.out.s1; obtain ⟨_, _, q2⟩ := HC0.out.s2; obtain ⟨_, _, q3⟩ := HC0.out.s3; rw [q1, q2, q3]; show _ = _; kernel_rfl) ?_
          intro w8 hX hk
          replace HC0 := Aside0.mk (HC0.out.kept hk (fun k hk2 e => hk2 (by rw [e]; simp)))
          replace HC1 := Aside0.mk (HC1.out.kept hk (fun k hk2 e => hk2 (by rw [e]; simp)))
          have HX := Aside0.mk hX
          refine hK.out _ _ hX.tail.tail (fun hHeld => ?_)
          (try simp only [Act.put, List.setIfInBounds_toArray, List.set_cons_zero, List.set_cons_succ])
          clear hK K hk hX
          refine wpAnyH_ready (rs := [7]) (by kernel_rfl) (by simp) ?_
          refine (AllReadyH.cons rfl (fun K hK => ?_) AllReadyH.nil)
          refine Eq.mpr (if_pos (by rfl)) ?_
          refine rw_store_wp 26 rfl rfl (cs' := #[.string a1_0, y1, y2, y3]) rfl [] HX.out (by kernel_rfl) rfl (by obtain ⟨_, _, q1⟩ := HC1.out.s1; obtain ⟨_, _, q2⟩ := HC1.out.s2; obtain ⟨_, _, q3⟩ := HC1.out.s3; rw [q1, q2, q3]; show _ = _; kernel_rfl) ?_
          intro w9 hX hk
          replace HC0 := Aside0.mk (HC0.out.kept hk (fun k hk2 e => hk2.1 (by rw [e]; simp)))
          replace HC1 := Aside0.mk (HC1.out.kept hk (fun k hk2 e => hk2.1 (by rw [e]; simp)))
          refine hK.out _ _ hX.tail.tail (fun hHeld => ?_)
          (try simp only [Act.put, List.setIfInBounds_toArray, List.set_cons_zero, List.set_cons_succ])
          clear hK K
          refine wpAnyH_done (by kernel_rfl) ?_ _
          refine NoPanic.normal ⟨g1, g2, x1, x2, x3, y1, y2, y3, ⟨hX, HC0.out.free, HC1.out.free⟩, rfl, ?_⟩
          exact Eq.refl _
      ·
        refine Eq.mpr (if_pos (by rfl)) ?_
        refine rw_alloc_wp 26 rfl (cs := #[.string ⟨#[]⟩, .slice none 0 0, .slice none 0 0, .slice none 0 0]) (by kernel_rfl) hHeld ?_
        intro g2 w8 hg hX hb
        have h9 : Rws w [(gb, 26, #[.string a1_0, .slice A1_1 l1_1.length c1_1, .slice A1_2 l1_2.length c1_2, .slice A1_3 l1_3.length c1_3]), (ga, 26, #[.string a0_0, .slice A0_1 l0_1.length c0_1, .slice A0_2 l0_2.length c0_2, .slice A0_3 l0_3.length c0_3])] w8 := hHeld.step hb
        replace HC0 := Aside0.mk (HC0.out.alloc hg hb)
        have HX := Aside0.mk hX
        clear hX hg
        refine hK.out _ _ h9 (fun hHeld => ?_)
        (try simp only [Act.put, List.setIfInBounds_toArray, List.set_cons_zero, List.set_cons_succ])
        clear hK K h9 hb
        refine wpAnyH_ready (rs := [3, 4]) (by kernel_rfl) (by simp) ?_
        refine (AllReadyH.cons rfl (fun K hK => ?_) (AllReadyH.cons rfl (fun K hK => ?_) AllReadyH.nil))
        ·
          go_simp
          refine (provisoplain_Module.calls k a1_0 A1_1 c1_1 l1_1 A1_2 c1_2 l1_2 A1_3 c1_3 l1_3 a1_0 l1_1 l1_2 l1_3 _ (Kd.C_below HR11.out hHeld.below) HN11.out (Kd.C_below HR12.out hHeld.below) HN12.out (Kd.C_below HR13.out hHeld.below) HN13.out HMC1.out).mono ?_
          rintro e w9 ⟨y1, y2, y3, rfl, hS1, hS2, hS3, hb⟩
          have HC1 := Aside0.mk (CopyAt.made (gs := [g2]) hHeld.below.size (by intro g hg; simp only [List.mem_cons, List.not_mem_nil, or_false] at hg; rw [hg]; first | exact blk_lt (HX.out.mem List.mem_cons_self) ) hS1 hS2 hS3)
          have h9 : Rws w [(gb, 26, #[.string a1_0, .slice A1_1 l1_1.length c1_1, .slice A1_2 l1_2.length c1_2, .slice A1_3 l1_3.length c1_3]), (ga, 26, #[.string a0_0, .slice A0_1 l0_1.length c0_1, .slice A0_2 l0_2.length c0_2, .slice A0_3 l0_3.length c0_3])] w9 := hHeld.step hb
          replace HX := Aside0.mk (HX.out.step hb)
          replace HC0 := Aside0.mk (HC0.out.below hb)
          clear hS1 hS2 hS3
          go_simp
          refine hK.out _ _ h9 (fun hHeld => ?_)
          (try simp only [Act.put, List.setIfInBounds_toArray, List.set_cons_zero, List.set_cons_succ])
          clear hK K h9 hb
          refine wpAnyH_ready (rs := [4]) (by kernel_rfl) (by simp) ?_
          refine (AllReadyH.cons rfl (fun K hK => ?_) AllReadyH.nil)
          refine Eq.mpr (if_pos (by rfl)) ?_
          refine rw_alloc_wp 26 rfl (cs := #[.string ⟨#[]⟩, .slice none 0 0, .slice none 0 0, .slice none 0 0]) (by kernel_rfl) HX.out ?_
          intro g1 w8 hg hX hb
          have h9 : Rws w [(gb, 26, #[.string a1_0, .slice A1_1 l1_1.length c1_1, .slice A1_2 l1_2.length c1_2, .slice A1_3 l1_3.length c1_3]), (ga, 26, #[.string a0_0, .slice A0_1 l0_1.length c0_1, .slice A0_2 l0_2.length c0_2, .slice A0_3 l0_3.length c0_3])] w8 := hHeld.step hb
          replace HC0 := Aside0.mk (HC0.out.alloc hg hb)
          replace HC1 := Aside0.mk (HC1.out.alloc hg hb)
          have HX := Aside0.mk hX
          clear hX hg
          refine hK.out _ _ h9 (fun hHeld => ?_)
          (try simp only [Act.put, List.setIfInBounds_toArray, List.set_cons_zero, List.set_cons_succ])
          clear hK K h9 hb
          refine wpAnyH_ready (rs := [6]) (by kernel_rfl) (by simp) ?_
          refine (AllReadyH.cons rfl (fun K hK => ?_) AllReadyH.nil)
          refine Eq.mpr (if_pos (by rfl)) ?_
          refine rw_store_wp 26 rfl rfl (cs' := #[.string a0_0, x1, x2, x3]) rfl [] HX.out (by kernel_rfl) rfl (by obtain ⟨_, _, q1⟩ := HC0.out.s1; obtain ⟨_, _, q2⟩ := HC0.out.s2; obtain ⟨_, _, q3⟩ := HC0.out.s3; rw [q1, q2, q3]; show _ = _; kernel_rfl) ?_
          intro w8 hX hk
          replace HC0 := Aside0.mk (HC0.out.kept hk (fun k hk2 e => hk2 (by rw [e]; simp)))
          replace HC1 := Aside0.mk (HC1.out.kept hk (fun k hk2 e => hk2 (by rw [e]; simp)))
          have HX := Aside0.mk hX
          refine hK.out _ _ hX.tail.tail (fun hHeld => ?_)
          (try simp only [Act.put, List.setIfInBounds_toArray, List.set_cons_zero, List.set_cons_succ])
          clear hK K hk hX
          refine wpAnyH_ready (rs := [7]) (by kernel_rfl) (by simp) ?_
          refine (AllReadyH.cons rfl (fun K hK => ?_) AllReadyH.nil)
          refine Eq.mpr (if_pos (by rfl)) ?_
          refine rw_store_wp 26 rfl rfl (cs' := #[.string a1_0, y1, y2, y3]) rfl [(g1, 26, #[.string a0_0, x1, x2, x3])] HX.out (by kernel_rfl) rfl (by obtain ⟨_, _, q1⟩ := HC1.out.s1; obtain ⟨_, _, q2⟩ := HC1.out.s2; obtain ⟨_, _, q3⟩ := HC1.out.s3; rw [q1, q2, q3]; show _ = _; kernel_rfl) ?_
          intro w9 hX hk
          replace HC0 := Aside0.mk (HC0.out.kept hk (fun k hk2 e => hk2.1 (by rw [e]; simp)))
          replace HC1 := Aside0.mk (HC1.out.kept hk (fun k hk2 e => hk2.1 (by rw [e]; simp)))
          refine hK.out _ _ hX.tail.tail (fun hHeld => ?_)
          (try simp only [Act.put, List.setIfInBounds_toArray, List.set_cons_zero, List.set_cons_succ])
          clear hK K
          refine wpAnyH_done (by kernel_rfl) ?_ _
          refine NoPanic.normal ⟨g1, g2, x1, x2, x3, y1, y2, y3, ⟨hX.swap, HC0.out.free, HC1.out.free⟩, rfl, ?_⟩
          exact Eq.refl _
        ·
          refine Eq.mpr (if_pos (by rfl)) ?_
          refine rw_alloc_wp 26 rfl (cs := #[.string ⟨#[]⟩, .slice none 0 0, .slice none 0 0, .slice none 0 0]) (by kernel_rfl) HX.out ?_
          intro g1 w8 hg hX hb
          have h9 : Rws w [(gb, 26, #[.string a1_0, .slice A1_1 l1_1.length c1_1, .slice A1_2 l1_2.length c1_2, .slice A1_3 l1_3.length c1_3]), (ga, 26, #[.string a0_0, .slice A0_1 l0_1.length c0_1, .slice A0_2 l0_2.length c0_2, .slice A0_3 l0_3.length c0_3])] w8 := hHeld.step hb
          replace HC0 := Aside0.mk (HC0.out.alloc hg hb)
          have HX := Aside0.mk hX
          clear hX hg
          refine hK.out _ _ h9 (fun hHeld => ?_)
          (try simp only [Act.put, List.setIfInBounds_toArray, List.set_cons_zero, List.set_cons_succ])
          clear hK K h9 hb
          refine wpAnyH_ready (rs := [3]) (by kernel_rfl) (by simp) ?_
          refine (AllReadyH.cons rfl (fun K hK => ?_) AllReadyH.nil)
          go_simp
          refine (provisoplain_Module.calls k a1_0 A1_1 c1_1 l1_1 A1_2 c1_2 l1_2 A1_3 c1_3 l1_3 a1_0 l1_1 l1_2 l1_3 _ (Kd.C_below HR11.out hHeld.below) HN11.out (Kd.C_below HR12.out hHeld.below) HN12.out (Kd.C_below HR13.out hHeld.below) HN13.out HMC1.out).mono ?_
          rintro e w9 ⟨y1, y2, y3, rfl, hS1, hS2, hS3, hb⟩
          have HC1 := Aside0.mk (CopyAt.made (gs := [g1, g2]) hHeld.below.size (by intro g hg; simp only [List.mem_cons, List.not_mem_nil, or_false] at hg; rcases hg with e | e <;> rw [e] <;> first | exact blk_lt (HX.out.mem List.mem_cons_self) | exact blk_lt (HX.out.mem (List.mem_cons_of_mem _ List.mem_cons_self)) ) hS1 hS2 hS3)
          have h9 : Rws w [(gb, 26, #[.string a1_0, .slice A1_1 l1_1.length c1_1, .slice A1_2 l1_2.length c1_2, .slice A1_3 l1_3.length c1_3]), (ga, 26, #[.string a0_0, .slice A0_1 l0_1.length c0_1, .slice A0_2 l0_2.length c0_2, .slice A0_3 l0_3.length c0_3])] w9 := hHeld.step hb
          replace HX := Aside0.mk (HX.out.step hb)
          replace HC0 := Aside0.mk (HC0.out.below hb)
          clear hS1 hS2 hS3
          go_simp
          refine hK.out _ _ h9 (fun hHeld => ?_)
          (try simp only [Act.put, List.setIfInBounds_toArray, List.set_cons_zero, List.set_cons_succ])
          clear hK K h9 hb
          refine wpAnyH_ready (rs := [6]) (by kernel_rfl) (by simp) ?_
          refine (AllReadyH.cons rfl (fun K hK => ?_) AllReadyH.nil)
          refine Eq.mpr (if_pos (by rfl)) ?_
          refine rw_store_wp 26 rfl rfl (cs' := #[.string a0_0, x1, x2, x3]) rfl [] HX.out (by kernel_rfl) rfl (by obtain ⟨_, _, q1⟩ := HC0.out.s1; obtain ⟨_, _, q2⟩ := HC0.out.s2; obtain ⟨_, _, q3⟩ := HC0.out.s3; rw [q1, q2, q3]; show _ = _; kernel_rfl) ?_
          intro w8 hX hk
          replace HC0 := Aside0.mk (HC0.out.kept hk (fun k hk2 e => hk2 (by rw [e]; simp)))
          replace HC1 := Aside0.mk (HC1.out.kept hk (fun k hk2 e => hk2 (by rw [e]; simp)))
          have HX := Aside0.mk hX
          refine hK.out _ _ hX.tail.tail (fun hHeld => ?_)
          (try simp only [Act.put, List.setIfInBounds_toArray, List.set_cons_zero, List.set_cons_succ])
          clear hK K hk hX
          refine wpAnyH_ready (rs := [7]) (by kernel_rfl) (by simp) ?_
          refine (AllReadyH.cons rfl (fun K hK => ?_) AllReadyH.nil)
          refine Eq.mpr (if_pos (by rfl)) ?_
          refine rw_store_wp 26 rfl rfl (cs' := #[.string a1_0, y1, y2, y3]) rfl [(g1, 26, #[.string a0_0, x1, x2, x3])] HX.out (by kernel_rfl) rfl (by obtain ⟨_, _, q1⟩ := HC1.out.s1; obtain ⟨_, _, q2⟩ := HC1.out.s2; obtain ⟨_, _, q3⟩ := HC1.out.s3; rw [q1, q2, q3]; show _ = _; kernel_rfl) ?_
          intro w9 hX hk
          replace HC0 := Aside0.mk (HC0.out.kept hk (fun k hk2 e => hk2.1 (by rw [e]; simp)))
          replace HC1 := Aside0.mk (HC1.out.kept hk (fun k hk2 e => hk2.1 (by rw [e]; simp)))
          refine hK.out _ _ hX.tail.tail (fun hHeld => ?_)
          (try simp only [Act.put, List.setIfInBounds_toArray, List.set_cons_zero, List.set_cons_succ])
          clear hK K
          refine wpAnyH_done (by kernel_rfl) ?_ _
          refine NoPanic.normal ⟨g1, g2, x1, x2, x3, y1, y2, y3, ⟨hX.swap, HC0.out.free, HC1.out.free⟩, rfl, ?_⟩
          exact Eq.refl _
    ·
      refine Eq.mpr (if_pos (by rfl)) ?_
      refine rw_alloc_wp 26 rfl (cs := #[.string ⟨#[]⟩, .slice none 0 0, .slice none 0 0, .slice none 0 0]) (by kernel_rfl) hHeld ?_
      intro g1 w8 hg hX hb
      have h9 : Rws w [(gb, 26, #[.string a1_0, .slice A1_1 l1_1.length c1_1, .slice A1_2 l1_2.length c1_2, .slice A1_3 l1_3.length c1_3]), (ga, 26, #[.string a0_0, .slice A0_1 l0_1.length c0_1, .slice A0_2 l0_2.length c0_2, .slice A0_3 l0_3.length c0_3])] w8 := hHeld.step hb
      have HX := Aside0.mk hX
      clear hX hg
      refine hK.out _ _ h9 (fun hHeld => ?_)
      (try simp only [Act.put, List.setIfInBounds_toArray, List.set_cons_zero, List.set_cons_succ])
      clear hK K h9 hb
      refine wpAnyH_ready (rs := [1, 5]) (by kernel_rfl) (by simp) ?_
      refine (AllReadyH.cons rfl (fun K hK => ?_) (AllReadyH.cons rfl (fun K hK => ?_) AllReadyH.nil))
      ·
        go_simp
        refine (provisoplain_Module.calls k a0_0 A0_1 c0_1 l0_1 A0_2 c0_2 l0_2 A0_3 c0_3 l0_3 a0_0 l0_1 l0_2 l0_3 _ (Kd.C_below HR01.out hHeld.below) HN01.out (Kd.C_below HR02.out hHeld.below) HN02.out (Kd.C_below HR03.out hHeld.below) HN03.out HMC0.out).mono ?_
        rintro e w9 ⟨x1, x2, x3, rfl, hS1, hS2, hS3, hb⟩
        have HC0 := Aside0.mk (CopyAt.made (gs := [g1]) hHeld.below.size (by intro g hg; simp only [List.mem_cons, List.not_mem_nil, or_false] at hg; rw [hg]; first | exact blk_lt (HX.out.mem List.mem_cons_self) ) hS1 hS2 hS3)
        have h9 : Rws w [(gb, 26, #[.string a1_0, .slice A1_1 l1_1.length c1_1, .slice A1_2 l1_2.length c1_2, .slice A1_3 l1_3.length c1_3]), (ga, 26, #[.string a0_0, .slice A0_1 l0_1.length c0_1, .slice A0_2 l0_2.length c0_2, .slice A0_3 l0_3.length c0_3])] w9 := hHeld.step hb
        replace HX := Aside0.mk (HX.out.step hb)
        clear hS1 hS2 hS3
        go_simp
        refine hK.out _ _ h9 (fun hHeld => ?_)
        (try simp only [Act.put, List.setIfInBounds_toArray, List.set_cons_zero, List.set_cons_succ])
        clear hK K h9 hb
        refine wpAnyH_ready (rs := [3, 5]) (by kernel_rfl) (by simp) ?_
        refine (AllReadyH.cons rfl (fun K hK => ?_) (AllReadyH.cons rfl (fun K hK => ?_) AllReadyH.nil))
        ·
          go_simp
          refine (provisoplain_Module.calls k a1_0 A1_1 c1_1 l1_1 A1_2 c1_2 l1_2 A1_3 c1_3 l1_3 a1_0 l1_1 l1_2 l1_3 _ (Kd.C_below HR11.out hHeld.below) HN11.out (Kd.C_below HR12.out hHeld.below) HN12.out (Kd.C_below HR13.out hHeld.below) HN13.out HMC1.out).mono ?_
          rintro e w9 ⟨y1, y2, y3, rfl, hS1, hS2, hS3, hb⟩
          have HC1 := Aside0.mk (CopyAt.made (gs := [g1]) hHeld.below.size (by intro g hg; simp only [List.mem_cons, List.not_mem_nil, or_false] at hg; rw [hg]; first | exact blk_lt (HX.out.mem List.mem_cons_self) ) hS1 hS2 hS3)
          have h9 : Rws w [(gb, 26, #[.string a1_0, .slice A1_1 l1_1.length c1_1, .slice A1_2 l1_2.length c1_2, .slice A1_3 l1_3.length c1_3]), (ga, 26, #[.string a0_0, .slice A0_1 l0_1.length c0_1, .slice A0_2 l0_2.length c0_2, .slice A0_3 l0_3.length c0_3])] w9 := hHeld.step hb
          replace HX := Aside0.mk (HX.out.step hb)
          replace HC0 := Aside0.mk (HC0.out.below hb)
          clear hS1 hS2 hS3
          go_simp
          refine hK.out _ _ h9 (fun hHeld => ?_)
          (try simp only [Act.put, List.setIfInBounds_toArray, List.set_cons_zero, List.set_cons_succ])
          clear hK K h9 hb
          refine wpAnyH_ready (rs := [5]) (by kernel_rfl) (by simp) ?_
          refine (AllReadyH.cons rfl (fun K hK => ?_) AllReadyH.nil)
          refine Eq.mpr (if_pos (by rfl)) ?_
          refine rw_alloc_wp 26 rfl (cs := #[.string ⟨#[]⟩, .slice none 0 0, .slice none 0 0, .slice none 0 0]) (by kernel_rfl) HX.out ?_
          intro g2 w8 hg hX hb
          have h9 : Rws w [(gb, 26, #[.string a1_0, .slice A1_1 l1_1.length c1_1, .slice A1_2 l1_2.length c1_2, .slice A1_3 l1_3.length c1_3]), (ga, 26, #[.string a0_0, .slice A0_1 l0_1.length c0_1, .slice A0_2 l0_2.length c0_2, .slice A0_3 l0_3.length c0_3])] w8 := hHeld.step hb
          replace HC0 := Aside0.mk (HC0.out.alloc hg hb)
          replace HC1 := Aside0.mk (HC1.out.alloc hg hb)
          have HX := Aside0.mk hX
          clear hX hg
          refine hK.out _ _ h9 (fun hHeld => ?_)
          (try simp only [Act.put, List.setIfInBounds_toArray, List.set_cons_zero, List.set_cons_succ])
          clear hK K h9 hb
          refine wpAnyH_ready (rs := [6]) (by kernel_rfl) (by simp) ?_
          refine (AllReadyH.cons rfl (fun K hK => ?_) AllReadyH.nil)
          refine Eq.mpr (if_pos (by rfl)) ?_
          refine rw_store_wp 26 rfl rfl (cs' := #[.string a0_0, x1, x2, x3]) rfl [(g2, 26, #[.string ⟨#[]⟩, .slice none 0 0, .slice none 0 0, .slice none 0 0])] HX.out (by kernel_rfl) rfl (by obtain ⟨_, _, q1⟩ := HC0.out.s1; obtain ⟨_, _, q2⟩ := HC0.out.s2; obtain ⟨_, _, q3⟩ := HC0.out.s3; rw [q1, q2, q3]; show _ = _; kernel_rfl) ?_
          intro w8 hX hk
          replace HC0 := Aside0.mk (HC0.out.kept hk (fun k hk2 e => hk2 (by rw [e]; simp)))
          replace HC1 := Aside0.mk (HC1.out.kept hk (fun k hk2 e => hk2 (by rw [e]; simp)))
          have HX := Aside0.mk hX
          refine hK.out _ _ hX.tail.tail (fun hHeld => ?_)
          (try simp only [Act.put, List.setIfInBounds_toArray, List.set_cons_zero, List.set_cons_succ])
          clear hK K hk hX
          refine wpAnyH_ready (rs := [7]) (by kernel_rfl) (by simp) ?_
          refine (AllReadyH.cons rfl (fun K hK => ?_) AllReadyH.nil)
          refine Eq.mpr (if_pos (by rfl)) ?_
          refine rw_store_wp 26 rfl rfl (cs' := #[.string a1_0, y1, y2, y3]) rfl [] HX.out (by kernel_rfl) rfl (by obtain ⟨_, _, q1⟩ := HC1.out.s1; obtain ⟨_, _, q2⟩ := HC1.out.s2; obtain ⟨_, _, q3⟩ := HC1.out.s3; rw [q1, q2, q3]; show _ = _; kernel_rfl) ?_
          intro w9 hX hk
          replace HC0 := Aside0.mk (HC0.out.kept hk (fun k hk2 e => hk2.1 (by rw [e]; simp)))
          replace HC1 := Aside0.mk (HC1.out.kept hk (fun k hk2 e => hk2.1 (by rw [e]; simp)))
          refine hK.out _ _ hX.tail.tail (fun hHeld => ?_)
          (try simp only [Act.put, List.setIfInBounds_toArray, List.set_cons_zero, List.set_cons_succ])
          clear hK K
          refine wpAnyH_done (by kernel_rfl) ?_ _
          refine NoPanic.normal ⟨g1, g2, x1, x2, x3, y1, y2, y3, ⟨hX, HC0.out.free, HC1.out.free⟩, rfl, ?_⟩
          exact Eq.refl _
        ·
          refine Eq.mpr (if_pos (by rfl)) ?_
          refine rw_alloc_wp 26 rfl (cs := #[.string ⟨#[]⟩, .slice none 0 0, .slice none 0 0, .slice none 0 0]) (by kernel_rfl) HX.out ?_
          intro g2 w8 hg hX hb
          have h9 : Rws w [(gb, 26, #[.string a1_0, .slice A1_1 l1_1.length c1_1, .slice A1_2 l1_2.length c1_2, .slice A1_3 l1_3.length c1_3]), (ga, 26, #[.string a0_0, .slice A0_1 l0_1.length c0_1, .slice A0_2 l0_2.length c0_2, .slice A0_3 l0_3.length c0_3])] w8 := hHeld.step hb
          replace HC0 := Aside0.mk (HC0.out.alloc hg hb)
          have HX := Aside0.mk hX
          clear hX hg
          refine hK.out _ _ h9 (fun hHeld => ?_)
          (try simp only [Act.put, List.setIfInBounds_toArray, List.set_cons_zero, List.set_cons_succ])
          clear hK K h9 hb
          refine wpAnyH_ready (rs := [3]) (by kernel_rfl) (by simp) ?_
          refine (AllReadyH.cons rfl (fun K hK => ?_) AllReadyH.nil)
          go_simp
          refine (provisoplain_Module.calls k a1_0 A1_1 c1_1 l1_1 A1_2 c1_2 l1_2 A1_3 c1_3 l1_3 a1_0 l1_1 l1_2 l1_3 _ (Kd.C_below HR11.out hHeld.below) HN11.out (Kd.C_below HR12.out hHeld.below) HN12.out (Kd.C_below HR13.out hHeld.below) HN13.out HMC1.out).mono ?_
          rintro e w9 ⟨y1, y2, y3, rfl, hS1, hS2, hS3, hb⟩
          have HC1 := Aside0.mk (CopyAt.made (gs := [g2, g1]) hHeld.below.size (by intro g hg; simp only [List.mem_cons, List.not_mem_nil, or_false] at hg; rcases hg with e | e <;> rw [e] <;> first | exact blk_lt (HX.out.mem List.mem_cons_self) | exact blk_lt (HX.out.mem (List.mem_cons_of_mem _ List.mem_cons_self)) ) hS1 hS2 hS3)
          have h9 : Rws w [(gb, 26, #[.string a1_0, .slice A1_1 l1_1.length c1_1, .slice A1_2 l1_2.length c1_2, .slice A1_3 l1_3.length c1_3]), (ga, 26, #[.string a0_0, .slice A0_1 l0_1.length c0_1, .slice A0_2 l0_2.length c0_2, .slice A0_3 l0_3.length c0_3])] w9 := hHeld.step hb
          replace HX := Aside0.mk (HX.out.step hb)
          replace HC0 := Aside0.mk (HC0.out.below hb)
          clear hS1 hS2 hS3
          go_simp
          refine hK.out _ _ h9 (fun hHeld => ?_)
          (try simp only [Act.put, List.setIfInBounds_toArray, List.set_cons_zero, List.set_cons_succ])
          clear hK K h9 hb
          refine wpAnyH_ready (rs := [6]) (by kernel_rfl) (by simp) ?_
          refine (AllReadyH.cons rfl (fun K hK => ?_) AllReadyH.nil)
          refine Eq.mpr (if_pos (by rfl)) ?_
          refine rw_store_wp 26 rfl rfl (cs' := #[.string a0_0, x1, x2, x3]) rfl [(g2, 26, #[.string ⟨#[]⟩, .slice none 0 0, .slice none 0 0, .slice none 0 0])] HX.out (by kernel_rfl) rfl (by obtain ⟨_, _, q1⟩ := HC0.out.s1; obtain ⟨_, _, q2⟩ := HC0.out.s2; obtain ⟨_, _, q3⟩ := HC0.out.s3; rw [q1, q2, q3]; show _ = _; kernel_rfl) ?_
          intro w8 hX hk
          replace HC0 := Aside0.mk (HC0.out.kept hk (fun k hk2 e => hk2 (by rw [e]; simp)))
          replace HC1 := Aside0.mk (HC1.out.kept hk (fun k hk2 e => hk2 (by rw [e]; simp)))
          have HX := Aside0.mk hX
          refine hK.out _ _ hX.tail.tail (fun hHeld => ?_)
          (try simp only [Act.put, List.setIfInBounds_toArray, List.set_cons_zero, List.set_cons_succ])
          clear hK K hk hX
          refine wpAnyH_ready (rs := [7]) (by kernel_rfl) (by simp) ?_
          refine (AllReadyH.cons rfl (fun K hK => ?_) AllReadyH.nil)
          refine Eq.mpr (if_pos (by rfl)) ?_
          refine rw_store_wp 26 rfl rfl (cs' := #[.string a1_0, y1, y2, y3]) rfl [] HX.out (by kernel_rfl) rfl (by obtain ⟨_, _, q1⟩ := HC1.out.s1; obtain ⟨_, _, q2⟩ := HC1.out.s2; obtain ⟨_, _, q3⟩ := HC1.out.s3; rw [q1, q2, q3]; show _ = _; kernel_rfl) ?_
          intro w9 hX hk
          replace HC0 := Aside0.mk (HC0.out.kept hk (fun k hk2 e => hk2.1 (by rw [e]; simp)))
          replace HC1 := Aside0.mk (HC1.out.kept hk (fun k hk2 e => hk2.1 (by rw [e]; simp)))
          refine hK.out _ _ hX.tail.tail (fun hHeld => ?_)
          (try simp only [Act.put, List.setIfInBounds_toArray, List.set_cons_zero, List.set_cons_succ])
          clear hK K
          refine wpAnyH_done (by kernel_rfl) ?_ _
          refine NoPanic.normal ⟨g1, g2, x1, x2, x3, y1, y2, y3, ⟨hX, HC0.out.free, HC1.out.free⟩, rfl, ?_⟩
          exact Eq.refl _
      ·
        refine Eq.mpr (if_pos (by rfl)) ?_
        refine rw_alloc_wp 26 rfl (cs := #[.string ⟨#[]⟩, .slice none 0 0, .slice none 0 0, .slice none 0 0]) (by kernel_rfl) HX.out ?_
        intro g2 w8 hg hX hb
        have h9 : Rws w [(gb, 26, #[.string a1_0, .slice A1_1 l1_1.length c1_1, .slice A1_2 l1_2.length c1_2, .slice A1_3 l1_3.length c1_3]), (ga, 26, #[.string a0_0, .slice A0_1 l0_1.length c0_1, .slice A0_2 l0_2.length c0_2, .slice A0_3 l0_3.length c0_3])] w8 := hHeld.step hb
        have HX := Aside0.mk hX
        clear hX hg
        refine hK.out _ _ h9 (fun hHeld => ?_)
        (try simp only [Act.put, List.setIfInBounds_toArray, List.set_cons_zero, List.set_cons_succ])
        clear hK K h9 hb
        refine wpAnyH_ready (rs := [1]) (by kernel_rfl) (by simp) ?_
        refine (AllReadyH.cons rfl (fun K hK => ?_) AllReadyH.nil)
        go_simp
        refine (provisoplain_Module.calls k a0_0 A0_1 c0_1 l0_1 A0_2 c0_2 l0_2 A0_3 c0_3 l0_3 a0_0 l0_1 l0_2 l0_3 _ (Kd.C_below HR01.out hHeld.below) HN01.out (Kd.C_below HR02.out hHeld.below) HN02.out (Kd.C_below HR03.out hHeld.below) HN03.out HMC0.out).mono ?_
        rintro e w9 ⟨x1, x2, x3, rfl, hS1, hS2, hS3, hb⟩
        have HC0 := Aside0.mk (CopyAt.made (gs := [g2, g1]) hHeld.below.size (by intro g hg; simp only [List.mem_cons, List.not_mem_nil, or_false] at hg; rcases hg with e | e <;> rw [e] <;> first | exact blk_lt (HX.out.mem List.mem_cons_self) | exact blk_lt (HX.out.mem (List.mem_cons_of_mem _ List.mem_cons_self)) ) hS1 hS2 hS3)
        have h9 : Rws w [(gb, 26, #[.string a1_0, .slice A1_1 l1_1.length c1_1, .slice A1_2 l1_2.length c1_2, .slice A1_3 l1_3.length c1_3]), (ga, 26, #[.string a0_0, .slice A0_1 l0_1.length c0_1, .slice A0_2 l0_2.length c0_2, .slice A0_3 l0_3.length c0_3])] w9 := hHeld.step hb
        replace HX := Aside0.mk (HX.out.step hb)
        clear hS1 hS2 hS3
        go_simp
        refine hK.out _ _ h9 (fun hHeld => ?_)
        (try simp only [Act.put, List.setIfInBounds_toArray, List.set_cons_zero, List.set_cons_succ])
        clear hK K h9 hb
        refine wpAnyH_ready (rs := [3]) (by kernel_rfl) (by simp) ?_
        refine (AllReadyH.cons rfl (fun K hK => ?_) AllReadyH.nil)
        go_simp
        refine (provisoplain_Module.calls k a1_0 A1_1 c1_1 l1_1 A1_2 c1_2 l1_2 A1_3 c1_3 l1_3 a1_0 l1_1 l1_2 l1_3 _ (Kd.C_below HR11.out hHeld.below) HN11.out (Kd.C_below HR12.out hHeld.below) HN12.out (Kd.C_below HR13.out hHeld.below) HN13.out HMC1.out).mono ?_
        rintro e w9 ⟨y1, y2, y3, rfl, hS1, hS2, hS3, hb⟩
        have HC1 := Aside0.mk (CopyAt.made (gs := [g2, g1]) hHeld.below.size (by intro g hg; simp only [List.mem_cons, List.not_mem_nil, or_false] at hg; rcases hg with e | e <;> rw [e] <;> first | exact blk_lt (HX.out.mem List.mem_cons_self) | exact blk_lt (HX.out.mem (List.mem_cons_of_mem _ List.mem_cons_self)) ) hS1 hS2 hS3)
        have h9 : Rws w [(gb, 26, #[.string a1_0, .slice A1_1 l1_1.length c1_1, .slice A1_2 l1_2.length c1_2, .slice A1_3 l1_3.length c1_3]), (ga, 26, #[.string a0_0, .slice A0_1 l0_1.length c0_1, .slice A0_2 l0_2.length c0_2, .slice A0_3 l0_3.length c0_3])] w9 := hHeld.step hb
        replace HX := Aside0.mk (HX.out.step hb)
        replace HC0 := Aside0.mk (HC0.out.below hb)
        clear hS1 hS2 hS3
        go_simp
        refine hK.out _ _ h9 (fun hHeld => ?_)
        (try simp only [Act.put, List.setIfInBounds_toArray, List.set_cons_zero, List.set_cons_succ])
        clear hK K h9 hb
        refine wpAnyH_ready (rs := [6]) (by kernel_rfl) (by simp) ?_
        refine (AllReadyH.cons rfl (fun K hK => ?_) AllReadyH.nil)
        refine Eq.mpr (if_pos (by rfl)) ?_
        refine rw_store_wp 26 rfl rfl (cs' := #[.string a0_0, x1, x2, x3]) rfl [(g2, 26, #[.string ⟨#[]⟩, .slice none 0 0, .slice none 0 0, .slice none 0 0])] HX.out (by kernel_rfl) rfl (by obtain ⟨_, _, q1⟩ := HC0.out.s1; obtain ⟨_, _, q2⟩ := HC0.out.s2; obtain ⟨_, _, q3⟩ := HC0.out.s3; rw [q1, q2, q3]; show _ = _; kernel_rfl) ?_
        intro w8 hX hk
        replace HC0 := Aside0.mk (HC0.out.kept hk (fun k hk2 e => hk2 (by rw [e]; simp)))
        replace HC1 := Aside0.mk (HC1.out.kept hk (fun k hk2 e => hk2 (by rw [e]; simp)))
        have HX := Aside0.mk hX
        refine hK.out _ _ hX.tail.tail (fun hHeld => ?_)
        (try simp only [Act.put, List.setIfInBounds_toArray, List.set_cons_zero, List.set_cons_succ])
        clear hK K hk hX
        refine wpAnyH_ready (rs := [7]) (by kernel_rfl) (by simp) ?_
        refine (AllReadyH.cons rfl (fun K hK => ?_) AllReadyH.nil)
        refine Eq.mpr (if_pos (by rfl)) ?_
        refine rw_store_wp 26 rfl rfl (cs' := #[.string a1_0, y1, y2, y3]) rfl [] HX.out (by kernel_rfl) rfl (by obtain ⟨_, _, q1⟩ := HC1.out.s1; obtain ⟨_, _, q2⟩ := HC1.out.s2; obtain ⟨_, _, q3⟩ := HC1.out.s3; rw [q1, q2, q3]; show _ = _; kernel_rfl) ?_
        intro w9 hX hk
        replace HC0 := Aside0.mk (HC0.out.kept hk (fun k hk2 e => hk2.1 (by rw [e]; simp)))
        replace HC1 := Aside0.mk (HC1.out.kept hk (fun k hk2 e => hk2.1 (by rw [e]; simp)))
        refine hK.out _ _ hX.tail.tail (fun hHeld => ?_)
        (try simp only [Act.put, List.setIfInBounds_toArray, List.set_cons_zero, List.set_cons_succ])
        clear hK K
        refine wpAnyH_done (by kernel_rfl) ?_ _
        refine NoPanic.normal ⟨g1, g2, x1, x2, x3, y1, y2, y3, ⟨hX, HC0.out.free, HC1.out.free⟩, rfl, ?_⟩
        exact Eq.refl _
    ·
      refine Eq.mpr (if_pos (by rfl)) ?_
      refine rw_alloc_wp 26 rfl (cs := #[.string ⟨#[]⟩, .slice none 0 0, .slice none 0 0, .slice none 0 0]) (by kernel_rfl) hHeld ?_
      intro g2 w8 hg hX hb
      have h9 : Rws w [(gb, 26, #[.string a1_0, .slice A1_1 l1_1.length c1_1, .slice A1_2 l1_2.length c1_2, .slice A1_3 l1_3.length c1_3]), (ga, 26, #[.string a0_0, .slice A0_1 l0_1.length c0_1, .slice A0_2 l0_2.length c0_2, .slice A0_3 l0_3.length c0_3])] w8 := hHeld.step hb
      have HX := Aside0.mk hX
      clear hX hg
      refine hK.out _ _ h9 (fun hHeld => ?_)
      (try simp only [Act.put, List.setIfInBounds_toArray, List.set_cons_zero, List.set_cons_succ])
      clear hK K h9 hb
      refine wpAnyH_ready (rs := [1, 4]) (by kernel_rfl) (by simp) ?_
      refine (AllReadyH.cons rfl (fun K hK => ?_) (AllReadyH.cons rfl (fun K hK => ?_) AllReadyH.nil))
      ·
        go_simp
        refine (provisoplain_Module.calls k a0_0 A0_1 c0_1 l0_1 A0_2 c0_2 l0_2 A0_3 c0_3 l0_3 a0_0 l0_1 l0_2 l0_3 _ (Kd.C_below HR01.out hHeld.below) HN01.out (Kd.C_below HR02.out hHeld.below) HN02.out (Kd.C_below HR03.out hHeld.below) HN03.out HMC0.out).mono ?_
        rintro e w9 ⟨x1, x2, x3, rfl, hS1, hS2, hS3, hb⟩
        have HC0 := Aside0.mk (CopyAt.made (gs := [g2]) hHeld.below.size (by intro g hg; simp only [List.mem_cons, List.not_mem_nil, or_false] at hg; rw [hg]; first | exact blk_lt (HX.out.mem List.mem_cons_self) ) hS1 hS2 hS3)
        have h9 : Rws w [(gb, 26, #[.string a1_0, .slice A1_1 l1_1.length c1_1, .slice A1_2 l1_2.length c1_2, .slice A1_3 l1_3.length c1_3]), (ga, 26, #[.string a0_0, .slice A0_1 l0_1.length c0_1, .slice A0_2 l0_2.length c0_2, .slice A0_3 l0_3.length c0_3])] w9 := hHeld.step hb
        replace HX := Aside0.mk (HX.out.step hb)
        clear hS1 hS2 hS3
        go_simp
        refine hK.out _ _ h9 (fun hHeld => ?_)
        (try simp only [Act.put, List.setIfInBounds_toArray, List.set_cons_zero, List.set_cons_succ])
        clear hK K h9 hb
        refine wpAnyH_ready (rs := [3, 4]) (by kernel_rfl) (by simp) ?_
        refine (AllReadyH.cons rfl (fun K hK => ?_) (AllReadyH.cons rfl (fun K hK => ?_) AllReadyH.nil))
        ·
          go_simp
          refine (provisoplain_Module.calls k a1_0 A1_1 c1_1 l1_1 A1_2 c1_2 l1_2 A1_3 c1_3 l1_3 a1_0 l1_1 l1_2 l1_3 _ (Kd.C_below HR11.out hHeld.below) HN11.out (Kd.C_below HR12.out hHeld.below) HN12.out (Kd.C_below HR13.out hHeld.below) HN13.out HMC1.out).mono ?_
          rintro e w9 ⟨y1, y2, y3, rfl, hS1, hS2, hS3, hb⟩
          have HC1 := Aside0.mk (CopyAt.made (gs := [g2]) hHeld.below.size (by intro g hg; simp only [List.mem_cons, List.not_mem_nil, or_false] at hg; rw [hg]; first | exact blk_lt (HX.out.mem List.mem_cons_self) ) hS1 hS2 hS3)
          have h9 : Rws w [(gb, 26, #[.string a1_0, .slice A1_1 l1_1.length c1_1, .slice A1_2 l1_2.length c1_2, .slice A1_3 l1_3.length c1_3]), (ga, 26, #[.string a0_0, .slice A0_1 l0_1.length c0_1, .slice A0_2 l0_2.length c0_2, .slice A0_3 l0_3.length c0_3])] w9 := hHeld.step hb
          replace HX := Aside0.mk (HX.out.step hb)
          replace HC0 := Aside0.mk (HC0.out.below hb)
          clear hS1 hS2 hS3
          go_simp
          refine hK.out _ _ h9 (fun hHeld => ?_)
          (try simp only [Act.put, List.setIfInBounds_toArray, List.set_cons_zero, List.set_cons_succ])
          clear hK K h9 hb
          refine wpAnyH_ready (rs := [4]) (by kernel_rfl) (by simp) ?_
          refine (AllReadyH.cons rfl (fun K hK => ?_) AllReadyH.nil)
          refine Eq.mpr (if_pos (by rfl)) ?_
          refine rw_alloc_wp 26 rfl (cs := #[.string ⟨#[]⟩, .slice none 0 0, .slice none 0 0, .slice none 0 0]) (by kernel_rfl) HX.out ?_
          intro g1 w8 hg hX hb
          have h9 : Rws w [(gb, 26, #[.string a1_0, .slice A1_1 l1_1.length c1_1, .slice A1_2 l1_2.length c1_2, .slice A1_3 l1_3.length c1_3]), (ga, 26, #[.string a0_0, .slice A0_1 l0_1.length c0_1, .slice A0_2 l0_2.length c0_2, .slice A0_3 l0_3.length c0_3])] w8 := hHeld.step hb
          replace HC0 := Aside0.mk (HC0.out.alloc hg hb)
          replace HC1 := Aside0.mk (HC1.out.alloc hg hb)
          have HX := Aside0.mk hX
          clear hX hg
          refine hK.out _ _ h9 (fun hHeld => ?_)
          (try simp only [Act.put, List.setIfInBounds_toArray, List.set_cons_zero, List.set_cons_succ])
          clear hK K h9 hb
          refine wpAnyH_ready (rs := [6]) (by kernel_rfl) (by simp) ?_
          refine (AllReadyH.cons rfl (fun K hK => ?_) AllReadyH.nil)
          refine Eq.mpr (if_pos (by rfl)) ?_
          refine rw_store_wp 26 rfl rfl (cs' := #[.string a0_0, x1, x2, x3]) rfl [] HX.out (by kernel_rfl) rfl (by obtain ⟨_, _, q1⟩ := HC0.out.s1; obtain ⟨_, _, q2⟩ := HC0.out.s2; obtain ⟨_, _, q3⟩ := HC0.out.s3; rw [q1, q2, q3]; show _ = _; kernel_rfl) ?_
          intro w8 hX hk
          replace HC0 := Aside0.mk (HC0.out.kept hk (fun k hk2 e => hk2 (by rw [e]; simp)))
          replace HC1 := Aside0.mk (HC1.out.kept hk (fun k hk2 e => hk2 (by rw [e]; simp)))
          have HX := Aside0.mk hX
          refine hK.out _ _ hX.tail.tail (fun hHeld => ?_)
          (try simp only [Act.put, List.setIfInBounds_toArray, List.set_cons_zero, List.set_cons_succ])
          clear hK K hk hX
          refine wpAnyH_ready (rs := [7]) (by kernel_rfl) (by simp) ?_
          refine (AllReadyH.cons rfl (fun K hK => ?_) AllReadyH.nil)
          refine Eq.mpr (if_pos (by rfl)) ?_
          refine rw_store_wp 26 rfl rfl (cs' := #[.string a1_0, y1, y2, y3]) rfl [(g1, 26, #[.string a0_0, x1, x2, x3])] HX.out (by kernel_rfl) rfl (by obtain ⟨_, _, q1⟩ := HC1.out.s1; obtain ⟨_, _, q2⟩ := HC1.out.s2; obtain ⟨_, _, q3⟩ := HC1.out.s3; rw [q1, q2, q3]; show _ = _; kernel_rfl) ?_
          intro w9 hX hk
          replace HC0 := Aside0.mk (HC0.out.kept hk (fun k hk2 e => hk2.1 (by rw [e]; simp)))
          replace HC1 := Aside0.mk (HC1.out.kept hk (fun k hk2 e => hk2.1 (by rw [e]; simp)))
          refine hK.out _ _ hX.tail.tail (fun hHeld => ?_)
          (try simp only [Act.put, List.setIfInBounds_toArray, List.set_cons_zero, List.set_cons_succ])
          clear hK K
          refine wpAnyH_done (by kernel_rfl) ?_ _
          refine NoPanic.normal ⟨g1, g2, x1, x2, x3, y1, y2, y3, ⟨hX.swap, HC0.out.free, HC1.out.free⟩, rfl, ?_⟩
          exact Eq.refl _
        ·
          refine Eq.mpr (if_pos (by rfl)) ?_
          refine rw_alloc_wp 26 rfl (cs := #[.string ⟨#[]⟩, .slice none 0 0, .slice none 0 0, .slice none 0 0]) (by kernel_rfl) HX.out ?_
          intro g1 w8 hg hX hb
          have h9 : Rws w [(gb, 26, #[.string a1_0, .slice A1_1 l1_1.length c1_1, .slice A1_2 l1_2.length c1_2, .slice A1_3 l1_3.length c1_3]), (ga, 26, #[.string a0_0, .slice A0_1 l0_1.length c0_1, .slice A0_2 l0_2.length c0_2, .slice A0_3 l0_3.length c0_3])] w8 := hHeld.step hb
          replace HC0 := Aside0.mk (HC0.out.alloc hg hb)
          have HX := Aside0.mk hX
          clear hX hg
          refine hK.out _ _ h9 (fun hHeld => ?_)
          (try simp only [Act.put, List.setIfInBounds_toArray, List.set_cons_zero, List.set_cons_succ])
          clear hK K h9 hb
          refine wpAnyH_ready (rs := [3]) (by kernel_rfl) (by simp) ?_
          refine (AllReadyH.cons rfl (fun K hK => ?_) AllReadyH.nil)
          go_simp
          refine (provisoplain_Module.calls k a1_0 A1_1 c1_1 l1_1 A1_2 c1_2 l1_2 A1_3 c1_3 l1_3 a1_0 l1_1 l1_2 l1_3 _ (Kd.C_below HR11.out hHeld.below) HN11.out (Kd.C_below HR12.out hHeld.below) HN12.out (Kd.C_below HR13.out hHeld.below) HN13.out HMC1.out).mono ?_
          rintro e w9 ⟨y1, y2, y3, rfl, hS1, hS2, hS3, hb⟩
          have HC1 := Aside0.mk (CopyAt.made (gs := [g1, g2]) hHeld.below.size (by intro g hg; simp only [List.mem_cons, List.not_mem_nil, or_false] at hg; rcases hg with e | e <;> rw [e] <;> first | exact blk_lt (HX.out.mem List.mem_cons_self) | exact blk_lt (HX.out.mem (List.mem_cons_of_mem _ List.mem_cons_self)) ) hS1 hS2 hS3)
          have h9 : Rws w [(gb, 26, #[.string a1_0, .slice A1_1 l1_1.length c1_1, .slice A1_2 l1_2.length c1_2, .slice A1_3 l1_3.length c1_3]), (ga, 26, #[.string a0_0, .slice A0_1 l0_1.length c0_1, .slice A0_2 l0_2.length c0_2, .slice A0_3 l0_3.length c0_3])] w9 := hHeld.step hb
          replace HX := Aside0.mk (HX.out.step hb)
          replace HC0 := Aside0.mk (HC0.out.below hb)
          clear hS1 hS2 hS3
          go_simp
          refine hK.out _ _ h9 (fun hHeld => ?_)
          (try simp only [Act.put, List.setIfInBounds_toArray, List.set_cons_zero, List.set_cons_succ])
          clear hK K h9 hb
          refine wpAnyH_ready (rs := [6]) (by kernel_rfl) (by simp) ?_
          refine (AllReadyH.cons rfl (fun K hK => ?_) AllReadyH.nil)
          refine Eq.mpr (if_pos (by rfl)) ?_
          refine rw_store_wp 26 rfl rfl (cs' := #[.string a0_0, x1, x2, x3]) rfl [] HX.out (by kernel_rfl) rfl (by obtain ⟨_, _, q1⟩ := HC0.out.s1; obtain ⟨_, _, q2⟩ := HC0.out.s2; obtain ⟨_, _, q3⟩ := HC0.out.s3; rw [q1, q2, q3]; show _ = _; kernel_rfl) ?_
          intro w8 hX hk
          replace HC0 := Aside0.mk (HC0.out.kept hk (fun k hk2 e => hk2 (by rw [e]; simp)))
          replace HC1 := Aside0.mk (HC1.out.kept hk (fun k hk2 e => hk2 (by rw [e]; simp)))
          have HX := Aside0.mk hX
          refine hK.out _ _ hX.tail.tail (fun hHeld => ?_)
          (try simp only [Act.put, List.setIfInBounds_toArray, List.set_cons_zero, List.set_cons_succ])
          clear hK K hk hX
          refine wpAnyH_ready (rs := [7]) (by kernel_rfl) (by simp) ?_
          refine (AllReadyH.cons rfl (fun K hK => ?_) AllReadyH.nil)
          refine Eq.mpr (if_pos (by rfl)) ?_
          refine rw_store_wp 26 rfl rfl (cs' := #[.string a1_0, y1, y2, y3]) rfl [(g1, 26, #[.string a0_0, x1, x2, x3])] HX.out (by kernel_rfl) rfl (by obtain ⟨_, _, q1⟩ := HC1.out.s1; obtain ⟨_, _, q2⟩ := HC1.out.s2; obtain ⟨_, _, q3⟩ := HC1.out.s3; rw [q1, q2, q3]; show _ = _; kernel_rfl) ?_
          intro w9 hX hk
          replace HC0 := Aside0.mk (HC0.out.kept hk (fun k hk2 e => hk2.1 (by rw [e]; simp)))
          replace HC1 := Aside0.mk (HC1.out.kept hk (fun k hk2 e => hk2.1 (by rw [e]; simp)))
          refine hK.out _ _ hX.tail.tail (fun hHeld => ?_)
          (try simp only [Act.put, List.setIfInBounds_toArray, List.set_cons_zero, List.set_cons_succ])
          clear hK K
          refine wpAnyH_done (by kernel_rfl) ?_ _
          refine NoPanic.normal ⟨g1, g2, x1, x2, x3, y1, y2, y3, ⟨hX.swap, HC0.out.free, HC1.out.free⟩, rfl, ?_⟩
          exact Eq.refl _
      ·
        refine Eq.mpr (if_pos (by rfl)) ?_
        refine rw_alloc_wp 26 rfl (cs := #[.string ⟨#[]⟩, .slice none 0 0, .slice none 0 0, .slice none 0 0]) (by kernel_rfl) HX.out ?_
        intro g1 w8 hg hX hb
        have h9 : Rws w [(gb, 26, #[.string a1_0, .slice A1_1 l1_1.length c1_1, .slice A1_2 l1_2.length c1_2, .slice A1_3 l1_3.length c1_3]), (ga, 26, #[.string a0_0, .slice A0_1 l0_1.length c0_1, .slice A0_2 l0_2.length c0_2, .slice A0_3 l0_3.length c0_3])] w8 := hHeld.step hb
        have HX := Aside0.mk hX
        clear hX hg
        refine hK.out _ _ h9 (fun hHeld => ?_)
        (try simp only [Act.put, List.setIfInBounds_toArray, List.set_cons_zero, List.set_cons_succ])
        clear hK K h9 hb
        refine wpAnyH_ready (rs := [1]) (by kernel_rfl) (by simp) ?_
        refine (AllReadyH.cons rfl (fun K hK => ?_) AllReadyH.nil)
        go_simp
        refine (provisoplain_Module.calls k a0_0 A0_1 c0_1 l0_1 A0_2 c0_2 l0_2 A0_3 c0_3 l0_3 a0_0 l0_1 l0_2 l0_3 _ (Kd.C_below HR01.out hHeld.below) HN01.out (Kd.C_below HR02.out hHeld.below) HN02.out (Kd.C_below HR03.out hHeld.below) HN03.out HMC0.out).mono ?_
        rintro e w9 ⟨x1, x2, x3, rfl, hS1, hS2, hS3, hb⟩
        have HC0 := Aside0.mk (CopyAt.made (gs := [g1, g2]) hHeld.below.size (by intro g hg; simp only [List.mem_cons, List.not_mem_nil, or_false] at hg; rcases hg with e | e <;> rw [e] <;> first | exact blk_lt (HX.out.mem List.mem_cons_self) | exact blk_lt (HX.out.mem (List.mem_cons_of_mem _ List.mem_cons_self)) ) hS1 hS2 hS3)
        have h9 : Rws w [(gb, 26, #[.string a1_0, .slice A1_1 l1_1.length c1_1, .slice A1_2 l1_2.length c1_2, .slice A1_3 l1_3.length c1_3]), (ga, 26, #[.string a0_0, .slice A0_1 l0_1.length c0_1, .slice A0_2 l0_2.length c0_2, .slice A0_3 l0_3.length c0_3])] w9 := hHeld.step hb
        replace HX := Aside0.mk (HX.out.step hb)
        clear hS1 hS2 hS3
        go_simp
        refine hK.out _ _ h9 (fun hHeld => ?_)
        (try simp only [Act.put, List.setIfInBounds_toArray, List.set_cons_zero, List.set_cons_succ])
        clear hK K h9 hb
        refine wpAnyH_ready (rs := [3]) (by kernel_rfl) (by simp) ?_
        refine (AllReadyH.cons rfl (fun K hK => ?_) AllReadyH.nil)
        go_simp
        refine (provisoplain_Module.calls k a1_0 A1_1 c1_1 l1_1 A1_2 c1_2 l1_2 A1_3 c1_3 l1_3 a1_0 l1_1 l1_2 l1_3 _ (Kd.C_below HR11.out hHeld.below) HN11.out (Kd.C_below HR12.out hHeld.below) HN12.out (Kd.C_below HR13.out hHeld.below) HN13.out HMC1.out).mono ?_
        rintro e w9 ⟨y1, y2, y3, rfl, hS1, hS2, hS3, hb⟩
        have HC1 := Aside0.mk (CopyAt.made (gs := [g1, g2]) hHeld.below.size (by intro g hg; simp only [List.mem_cons, List.not_mem_nil, or_false] at hg; rcases hg with e | e <;> rw [e] <;> first | exact blk_lt (HX.out.mem List.mem_cons_self) | exact blk_lt (HX.out.mem (List.mem_cons_of_mem _ List.mem_cons_self)) ) hS1 hS2 hS3)
        have h9 : Rws w [(gb, 26, #[.string a1_0, .slice A1_1 l1_1.length c1_1, .slice A1_2 l1_2.length c1_2, .slice A1_3 l1_3.length c1_3]), (ga, 26, #[.string a0_0, .slice A0_1 l0_1.length c0_1, .slice A0_2 l0_2.length c0_2, .slice A0_3 l0_3.length c0_3])] w9 := hHeld.step hb
        replace HX := Aside0.mk (HX.out.step hb)
        replace HC0 := Aside0.mk (HC0.out.below hb)
        clear hS1 hS2 hS3
        go_simp
        refine hK.out _ _ h9 (fun hHeld => ?_)
        (try simp only [Act.put, List.setIfInBounds_toArray, List.set_cons_zero, List.set_cons_succ])
        clear hK K h9 hb
        refine wpAnyH_ready (rs := [6]) (by kernel_rfl) (by simp) ?_
        refine (AllReadyH.cons rfl (fun K hK => ?_) AllReadyH.nil)
        refine Eq.mpr (if_pos (by rfl)) ?_
        refine rw_store_wp 26 rfl rfl (cs' := #[.string a0_0, x1, x2, x3]) rfl [] HX.out (by kernel_rfl) rfl (by obtain ⟨_, _, q1⟩ := HC0.out.s1; obtain ⟨_, _, q2⟩ := HC0.out.s2; obtain ⟨_, _, q3⟩ := HC0.out.s3; rw [q1, q2, q3]; show _ = _; kernel_rfl) ?_
        intro w8 hX hk
        replace HC0 := Aside0.mk (HC0.out.kept hk (fun k hk2 e => hk2 (by rw [e]; simp)))
        replace HC1 := Aside0.mk (HC1.out.kept hk (fun k hk2 e => hk2 (by rw [e]; simp)))
        have HX := Aside0.mk hX
        refine hK.out _ _ hX.tail.tail (fun hHeld => ?_)
        (try simp only [Act.put, List.setIfInBounds_toArray, List.set_cons_zero, List.set_cons_succ])
        clear hK K hk hX
        refine wpAnyH_ready (rs := [7]) (by kernel_rfl) (by simp) ?_
        refine (AllReadyH.cons rfl (fun K hK => ?_) AllReadyH.nil)
        refine Eq.mpr (if_pos (by rfl)) ?_
        refine rw_store_wp 26 rfl rfl (cs' := #[.string a1_0, y1, y2, y3]) rfl [(g1, 26, #[.string a0_0, x1, x2, x3])] HX.out (by kernel_rfl) rfl (by obtain ⟨_, _, q1⟩ := HC1.out.s1; obtain ⟨_, _, q2⟩ := HC1.out.s2; obtain ⟨_, _, q3⟩ := HC1.out.s3; rw [q1, q2, q3]; show _ = _; kernel_rfl) ?_
        intro w9 hX hk
        replace HC0 := Aside0.mk (HC0.out.kept hk (fun k hk2 e => hk2.1 (by rw [e]; simp)))
        replace HC1 := Aside0.mk (HC1.out.kept hk (fun k hk2 e => hk2.1 (by rw [e]; simp)))
        refine hK.out _ _ hX.tail.tail (fun hHeld => ?_)
        (try simp only [Act.put, List.setIfInBounds_toArray, List.set_cons_zero, List.set_cons_succ])
        clear hK K
        refine wpAnyH_done (by kernel_rfl) ?_ _
        refine NoPanic.normal ⟨g1, g2, x1, x2, x3, y1, y2, y3, ⟨hX.swap, HC0.out.free, HC1.out.free⟩, rfl, ?_⟩
        exact Eq.refl _
  intro g1 g2 x1 x2 x3 y1 y2 y3 w5 hX
  obtain ⟨hX, hx, hy⟩ := hX
  obtain ⟨X1, dx1, rfl, hxl1, hxc1⟩ := Kd.R_reads hx.r1
  obtain ⟨X2, dx2, rfl, hxl2, hxc2⟩ := Kd.R_reads hx.r2
  obtain ⟨X3, dx3, rfl, hxl3, hxc3⟩ := Kd.R_reads hx.r3
  obtain ⟨Y1, dy1, rfl, hyl1, hyc1⟩ := Kd.R_reads hy.r1
  obtain ⟨Y2, dy2, rfl, hyl2, hyc2⟩ := Kd.R_reads hy.r2
  obtain ⟨Y3, dy3, rfl, hyl3, hyc3⟩ := Kd.R_reads hy.r3
  have Hx1 := Aside0.mk hxc1
  have HxL1 := Aside0.mk hxl1
  have Hx2 := Aside0.mk hxc2
  have HxL2 := Aside0.mk hxl2
  have Hx3 := Aside0.mk hxc3
  have HxL3 := Aside0.mk hxl3
  have Hy1 := Aside0.mk hyc1
  have HyL1 := Aside0.mk hyl1
  have Hy2 := Aside0.mk hyc2
  have HyL2 := Aside0.mk hyl2
  have Hy3 := Aside0.mk hyc3
  have HyL3 := Aside0.mk hyl3
  clear hA hx hy hxc1 hxl1 hxc2 hxl2 hxc3 hxl3 hyc1 hyl1 hyc2 hyl2 hyc3 hyl3
  clear HA
  have HA := Aside0.mk hX
  clear hX
  go_upto_region 6 with (fail)
  have hA := HA.out
  refine wp_region_held_drew (S := (fun w' => Rws w [(g2, 26, #[.string a1_0, .slice Y1 l1_1.length dy1, .slice Y2 l1_2.length dy2, .slice Y3 l1_3.length dy3]), (g1, 26, #[.string a0_0, .slice X1 l0_1.length dx1, .slice X2 l0_2.length dx2, .slice X3 l0_3.length dx3]), (gb, 26, #[.string a1_0, .slice A1_1 l1_1.length c1_1, .slice A1_2 l1_2.length c1_2, .slice A1_3 l1_3.length c1_3]), (ga, 26, #[.string a0_0, .slice A0_1 l0_1.length c0_1, .slice A0_2 l0_2.length c0_2, .slice A0_3 l0_3.length c0_3])] w' ∧ Rws w5 [] w')) (by kernel_rfl) ?_ (fun hHeld => ?_)
  · exact ⟨hA.drewN 1, (Rws.nil w5).drewN 1⟩
  refine take_dst (i := 0) 37 rfl rfl (by kernel_rfl) (by kernel_rfl) (by kernel_rfl) (fun _ _ _ h => h) (rw_yields rfl 26 rfl rfl (fun _ h => h.1) (List.mem_cons_of_mem _ List.mem_cons_self) _ Try.underlying26 rfl (by kernel_rfl)) (by assumption) ?_
  (try simp only [Act.put, List.setIfInBounds_toArray, List.set_cons_zero, List.set_cons_succ])
  refine take_dst (i := 1) 38 rfl rfl (by kernel_rfl) (by kernel_rfl) (by kernel_rfl) (fun _ _ _ h => h) (rw_yields rfl 26 rfl rfl (fun _ h => h.1) List.mem_cons_self _ Try.underlying26 rfl (by kernel_rfl)) (by assumption) ?_
  (try simp only [Act.put, List.setIfInBounds_toArray, List.set_cons_zero, List.set_cons_succ])
  refine take_dst (i := 3) 40 rfl rfl (by kernel_rfl) (by kernel_rfl) (by kernel_rfl) (fun _ _ _ h => h) (rw_yields rfl 26 rfl rfl (fun _ h => h.1) (List.mem_cons_of_mem _ (List.mem_cons_of_mem _ (List.mem_cons_of_mem _ List.mem_cons_self))) _ Try.underlying26 rfl (by kernel_rfl)) (by assumption) ?_
  (try simp only [Act.put, List.setIfInBounds_toArray, List.set_cons_zero, List.set_cons_succ])
  refine take_dst (i := 4) 41 rfl rfl (by kernel_rfl) (by kernel_rfl) (by kernel_rfl) (fun _ _ _ h => h) (rw_yields rfl 26 rfl rfl (fun _ h => h.1) (List.mem_cons_of_mem _ (List.mem_cons_of_mem _ List.mem_cons_self)) _ Try.underlying26 rfl (by kernel_rfl)) (by assumption) ?_
  (try simp only [Act.put, List.setIfInBounds_toArray, List.set_cons_zero, List.set_cons_succ])
  refine wpAnyH_ready (rs := [2]) (by kernel_rfl) (by simp) ?_
  refine (AllReadyH.cons rfl (fun K hK => ?_) AllReadyH.nil)
  go_simp
  refine (module_Same.calls k a0_0 X1 dx1 l0_1 X2 dx2 l0_2 X3 dx3 l0_3 a1_0 Y1 dy1 l1_1 Y2 dy2 l1_2 Y3 dy3 l1_3 u _ (Kd.C_below Hx1.out hHeld.2.below) HxL1.out (Kd.C_below Hx2.out hHeld.2.below) HxL2.out (Kd.C_below Hx3.out hHeld.2.below) HxL3.out (Kd.C_below Hy1.out hHeld.2.below) HyL1.out (Kd.C_below Hy2.out hHeld.2.below) HyL2.out (Kd.C_below Hy3.out hHeld.2.below) HyL3.out HS1.out).mono ?_
  rintro e w9 ⟨rfl, hb⟩
  have h9 : Rws w [(g2, 26, #[.string a1_0, .slice Y1 l1_1.length dy1, .slice Y2 l1_2.length dy2, .slice Y3 l1_3.length dy3]), (g1, 26, #[.string a0_0, .slice X1 l0_1.length dx1, .slice X2 l0_2.length dx2, .slice X3 l0_3.length dx3]), (gb, 26, #[.string a1_0, .slice A1_1 l1_1.length c1_1, .slice A1_2 l1_2.length c1_2, .slice A1_3 l1_3.length c1_3]), (ga, 26, #[.string a0_0, .slice A0_1 l0_1.length c0_1, .slice A0_2 l0_2.length c0_2, .slice A0_3 l0_3.length c0_3])] w9 ∧ Rws w5 [] w9 := ⟨hHeld.1.step hb, hHeld.2.step hb⟩
  go_simp
  refine hK.out _ _ h9 (fun hHeld => ?_)
  (try simp only [Act.put, List.setIfInBounds_toArray, List.set_cons_zero, List.set_cons_succ])
  clear hK K h9 hb
  refine wpAnyH_ready (rs := [5]) (by kernel_rfl) (by simp) ?_
  refine (AllReadyH.cons rfl (fun K hK => ?_) AllReadyH.nil)
  go_simp
  refine (provisoplain_SameModule.calls k a0_0 A0_1 c0_1 l0_1 A0_2 c0_2 l0_2 A0_3 c0_3 l0_3 a1_0 A1_1 c1_1 l1_1 A1_2 c1_2 l1_2 A1_3 c1_3 l1_3 u _ (Kd.C_below HR01.out hHeld.1.below) HN01.out (Kd.C_below HR02.out hHeld.1.below) HN02.out (Kd.C_below HR03.out hHeld.1.below) HN03.out (Kd.C_below HR11.out hHeld.1.below) HN11.out (Kd.C_below HR12.out hHeld.1.below) HN12.out (Kd.C_below HR13.out hHeld.1.below) HN13.out HS2.out).mono ?_
  rintro e w9 ⟨rfl, hb⟩
  have h9 : Rws w [(g2, 26, #[.string a1_0, .slice Y1 l1_1.length dy1, .slice Y2 l1_2.length dy2, .slice Y3 l1_3.length dy3]), (g1, 26, #[.string a0_0, .slice X1 l0_1.length dx1, .slice X2 l0_2.length dx2, .slice X3 l0_3.length dx3]), (gb, 26, #[.string a1_0, .slice A1_1 l1_1.length c1_1, .slice A1_2 l1_2.length c1_2, .slice A1_3 l1_3.length c1_3]), (ga, 26, #[.string a0_0, .slice A0_1 l0_1.length c0_1, .slice A0_2 l0_2.length c0_2, .slice A0_3 l0_3.length c0_3])] w9 ∧ Rws w5 [] w9 := ⟨hHeld.1.step hb, hHeld.2.step hb⟩
  go_simp
  refine hK.out _ _ h9 (fun hHeld => ?_)
  (try simp only [Act.put, List.setIfInBounds_toArray, List.set_cons_zero, List.set_cons_succ])
  clear hK K h9 hb
  refine take_dst (i := 6) (v := ?_) 43 rfl rfl (by kernel_rfl) (by kernel_rfl) (by kernel_rfl) (fun _ _ _ h => h) (Or.inl ⟨by rfl, ?_⟩) (by assumption) ?_
  rotate_left
  · intro w hSw
    go_simp
    try with_reducible rfl
  (try simp only [Act.put, List.setIfInBounds_toArray, List.set_cons_zero, List.set_cons_succ])
  refine take_dst (i := 7) (v := ?_) 44 rfl rfl (by kernel_rfl) (by kernel_rfl) (by kernel_rfl) (fun _ _ _ h => h) (Or.inl ⟨by rfl, ?_⟩) (by assumption) ?_
  rotate_left
  · intro w hSw
    go_simp
    try with_reducible rfl
  (try simp only [Act.put, List.setIfInBounds_toArray, List.set_cons_zero, List.set_cons_succ])
  refine take_dst (i := 8) 45 rfl rfl (by kernel_rfl) (by kernel_rfl) (by kernel_rfl) (fun _ _ _ h => h) (rw_yields rfl 26 rfl rfl (fun _ h => h.1) (List.mem_cons_of_mem _ List.mem_cons_self) _ Try.underlying26 rfl (by kernel_rfl)) (by assumption) ?_
  (try simp only [Act.put, List.setIfInBounds_toArray, List.set_cons_zero, List.set_cons_succ])
  refine take_dst (i := 9) 46 rfl rfl (by kernel_rfl) (by kernel_rfl) (by kernel_rfl) (fun _ _ _ h => h) (rw_yields rfl 26 rfl rfl (fun _ h => h.1) (List.mem_cons_of_mem _ List.mem_cons_self) _ Try.underlying26 rfl (by kernel_rfl)) (by assumption) ?_
  (try simp only [Act.put, List.setIfInBounds_toArray, List.set_cons_zero, List.set_cons_succ])
  refine wpAnyH_ready (rs := [10]) (by kernel_rfl) (by simp) ?_
  refine (AllReadyH.cons rfl (fun K hK => ?_) AllReadyH.nil)
  go_simp
  refine (provisoplain_Module.calls k a0_0 X1 dx1 l0_1 X2 dx2 l0_2 X3 dx3 l0_3 a0_0 l0_1 l0_2 l0_3 _ (Kd.C_below Hx1.out hHeld.2.below) HxL1.out (Kd.C_below Hx2.out hHeld.2.below) HxL2.out (Kd.C_below Hx3.out hHeld.2.below) HxL3.out HMC0.out).mono ?_
  rintro e w9 ⟨z1, z2, z3, rfl, hS1, hS2, hS3, hb⟩
  obtain ⟨Z1, dz1, rfl, hzl1, hzc1⟩ := Kd.R_reads (Kd.S_R hS1)
  obtain ⟨Z2, dz2, rfl, hzl2, hzc2⟩ := Kd.R_reads (Kd.S_R hS2)
  obtain ⟨Z3, dz3, rfl, hzl3, hzc3⟩ := Kd.R_reads (Kd.S_R hS3)
  have Hz1 := Aside0.mk hzc1
  have HzL1 := Aside0.mk hzl1
  have Hz2 := Aside0.mk hzc2
  have HzL2 := Aside0.mk hzl2
  have Hz3 := Aside0.mk hzc3
  have HzL3 := Aside0.mk hzl3
  clear hS1 hS2 hS3 hzl1 hzl2 hzl3 hzc1 hzc2 hzc3
  have h9 : Rws w [(g2, 26, #[.string a1_0, .slice Y1 l1_1.length dy1, .slice Y2 l1_2.length dy2, .slice Y3 l1_3.length dy3]), (g1, 26, #[.string a0_0, .slice X1 l0_1.length dx1, .slice X2 l0_2.length dx2, .slice X3 l0_3.length dx3]), (gb, 26, #[.string a1_0, .slice A1_1 l1_1.length c1_1, .slice A1_2 l1_2.length c1_2, .slice A1_3 l1_3.length c1_3]), (ga, 26, #[.string a0_0, .slice A0_1 l0_1.length c0_1, .slice A0_2 l0_2.length c0_2, .slice A0_3 l0_3.length c0_3])] w9 ∧ Rws w5 [] w9 := ⟨hHeld.1.step hb, hHeld.2.step hb⟩
  go_simp
  refine hK.out _ _ h9 (fun hHeld => ?_)
  (try simp only [Act.put, List.setIfInBounds_toArray, List.set_cons_zero, List.set_cons_succ])
  clear hK K h9 hb
  refine wpAnyH_ready (rs := [11]) (by kernel_rfl) (by simp) ?_
  refine (AllReadyH.cons rfl (fun K hK => ?_) AllReadyH.nil)
  go_simp
  refine (module_Same.calls k a0_0 X1 dx1 l0_1 X2 dx2 l0_2 X3 dx3 l0_3 a0_0 Z1 dz1 l0_1 Z2 dz2 l0_2 Z3 dz3 l0_3 true _ (Kd.C_below Hx1.out hHeld.2.below) HxL1.out (Kd.C_below Hx2.out hHeld.2.below) HxL2.out (Kd.C_below Hx3.out hHeld.2.below) HxL3.out Hz1.out HzL1.out Hz2.out HzL2.out Hz3.out HzL3.out HS3.out).mono ?_
  rintro e w9 ⟨rfl, hb⟩
  have h9 : Rws w [(g2, 26, #[.string a1_0, .slice Y1 l1_1.length dy1, .slice Y2 l1_2.length dy2, .slice Y3 l1_3.length dy3]), (g1, 26, #[.string a0_0, .slice X1 l0_1.length dx1, .slice X2 l0_2.length dx2, .slice X3 l0_3.length dx3]), (gb, 26, #[.string a1_0, .slice A1_1 l1_1.length c1_1, .slice A1_2 l1_2.length c1_2, .slice A1_3 l1_3.length c1_3]), (ga, 26, #[.string a0_0, .slice A0_1 l0_1.length c0_1, .slice A0_2 l0_2.length c0_2, .slice A0_3 l0_3.length c0_3])] w9 ∧ Rws w5 [] w9 := ⟨hHeld.1.step hb, hHeld.2.step hb⟩
  go_simp
  refine hK.out _ _ h9 (fun hHeld => ?_)
  (try simp only [Act.put, List.setIfInBounds_toArray, List.set_cons_zero, List.set_cons_succ])
  clear hK K h9 hb
  refine take_dst (i := 12) (v := ?_) 49 rfl rfl (by kernel_rfl) (by kernel_rfl) (by kernel_rfl) (fun _ _ _ h => h) (Or.inl ⟨by rfl, ?_⟩) (by assumption) ?_
  rotate_left
  · intro w hSw
    go_simp
    try with_reducible rfl
  (try simp only [Act.put, List.setIfInBounds_toArray, List.set_cons_zero, List.set_cons_succ])
  refine take_dst (i := 13) (v := ?_) 6 rfl rfl (by kernel_rfl) (by kernel_rfl) (by kernel_rfl) (fun _ _ _ h => h) (Or.inl ⟨by rfl, ?_⟩) (by assumption) ?_
  rotate_left
  · intro w hSw
    go_simp
    try with_reducible rfl
  (try simp only [Act.put, List.setIfInBounds_toArray, List.set_cons_zero, List.set_cons_succ])
  refine wpAnyH_done (by kernel_rfl) ?_ _
  have HA := Aside0.mk hHeld.1
  clear hHeld
  go_wp2
  go_ret
  exact ⟨rfl, HA.out.below⟩

end Go.Proofs.Ytdlmcjchnoeebaa.P

end

section
namespace Go.Proofs.Ytdlmcjchnoeebaa.P
open Go.RowKit Go.Proofs.YtdlmcjchnoeebaaW.PrintWords
def provisolaw16_ModuleAsks.Pure : Prop := ∀ (a0_0 : ByteArray) (a0_1 : List (S64)) (a0_2 : List (S49)) (a0_3 : List (List (Int))) (a1_0 : ByteArray) (a1_1 : List (S64)) (a1_2 : List (S49)) (a1_3 : List (List (Int))) (a2 : ByteArray), (fun s : ByteArray => s.size ≤ 140737488351232) a0_0 → (fun l : List (S64) => l.length ≤ 9223372036854775807 ∧ l.length * 48 ≤ 140737488351232 ∧ ∀ x ∈ l, Ok64 x) a0_1 → (fun l : List (S49) => l.length ≤ 9223372036854775807 ∧ l.length * 80 ≤ 140737488351232 ∧ ∀ x ∈ l, Ok49 x) a0_2 → (fun l : List (List (Int)) => l.length ≤ 9223372036854775807 ∧ l.length * 24 ≤ 140737488351232 ∧ ∀ x ∈ l, (fun l : List (Int) => l.length ≤ 9223372036854775807 ∧ l.length * 1 ≤ 140737488351232 ∧ ∀ x ∈ l, (fun n : Int => (Lit.int .u8 n).wf = true) x) x) a0_3 → (fun s : ByteArray => s.size ≤ 140737488351232) a1_0 → (fun l : List (S64) => l.length ≤ 9223372036854775807 ∧ l.length * 48 ≤ 140737488351232 ∧ ∀ x ∈ l, Ok64 x) a1_1 → (fun l : List (S49) => l.length ≤ 9223372036854775807 ∧ l.length * 80 ≤ 140737488351232 ∧ ∀ x ∈ l, Ok49 x) a1_2 → (fun l : List (List (Int)) => l.length ≤ 9223372036854775807 ∧ l.length * 24 ≤ 140737488351232 ∧ ∀ x ∈ l, (fun l : List (Int) => l.length ≤ 9223372036854775807 ∧ l.length * 1 ≤ 140737488351232 ∧ ∀ x ∈ l, (fun n : Int => (Lit.int .u8 n).wf = true) x) x) a1_3 → (fun s : ByteArray => s.size ≤ 140737488351232) a2 → provisolaw16_ModuleAsks.Facts a0_0 a0_1 a0_2 a0_3 a1_0 a1_1 a1_2 a1_3 a2
end Go.Proofs.Ytdlmcjchnoeebaa.P

end

section
namespace Go.Proofs.Ytdlmcjchnoeebaa.Pure
open Go.RowKit Go.Proofs.Ytdlmcjchnoeebaa.P Go.Proofs.YtdlmcjchnoeebaaW.PrintWords
set_option linter.unusedSimpArgs false
set_option linter.unusedVariables false
def pairs {α : Type} (p : α → α → Bool) : List α → List α → Bool
  | x :: xs, y :: ys => p x y && pairs p xs ys
  | _, _ => true
def eqL {α : Type} (p : α → α → Bool) (l m : List α) : Bool := decide (l.length = m.length) && pairs p l m
theorem pairs_self {α : Type} {p : α → α → Bool} (h : ∀ x, p x x = true) : ∀ l : List α, pairs p l l = true
  | [] => rfl
  | x :: xs => by
    show (p x x && pairs p xs xs) = true
    rw [h x, pairs_self h xs]
    rfl
theorem eqL_self {α : Type} {p : α → α → Bool} (h : ∀ x, p x x = true) (l : List α) : eqL p l l = true := by
  unfold eqL
  rw [pairs_self h l, decide_eq_true rfl]
  rfl
theorem loop_pairs {α : Type} (z : α) (p : α → α → Bool) (L : Nat → Int → Option Bool) (l m : List α) (hl : l.length = m.length)
    (hend : Ev (fun k => L k (l.length : Int)) true)
    (hstep : ∀ i : Nat, i < l.length → ∀ b, Ev (fun k => L k ((i + 1 : Nat) : Int)) b → Ev (fun k => L k (i : Int)) (p (l.getD i z) (m.getD i z) && b)) :
    ∀ (d i : Nat), l.length - i = d → i ≤ l.length → Ev (fun k => L k (i : Int)) (pairs p (l.drop i) (m.drop i))
  | 0, i, hd, hi => by
    obtain rfl : i = l.length := by omega
    rw [List.drop_length]
    exact hend
  | d + 1, i, hd, hi => by
    have h1 : i < l.length := by omega
    have h2 : i < m.length := by omega
    have ih := loop_pairs z p L l m hl hend hstep d (i + 1) (by omega) (by omega)
    have h3 := hstep i h1 _ ih
    rw [List.drop_eq_getElem_cons h1, List.drop_eq_getElem_cons h2]
    rw [List.getD_eq_getElem?_getD, List.getD_eq_getElem?_getD, List.getElem?_eq_getElem h1, List.getElem?_eq_getElem h2] at h3
    exact h3
theorem wrap_one {i n : Nat} (h : i < n) (hn : n ≤ 9223372036854775807) : wrap64 ((i : Int) + 1) = ((i + 1 : Nat) : Int) := by unfold wrap64; omega
theorem and_true_ {a b : Bool} (h : a = true) : (a && b) = b := by rw [h]; rfl
theorem and_false_ {a b : Bool} (h : a = false) : (a && b) = false := by rw [h]; rfl
theorem ev_byte (l m : List Int) (hb : l.length ≤ 9223372036854775807) : Ev (fun k => slices_Equal_byte_byte.f k l m) (eqL (fun x y => decide (x = y)) l m) := by
  by_cases hl : l.length = m.length
  · have h := loop_pairs (0 : Int) (fun x y => decide (x = y)) (fun k i => slices_Equal_byte_byte.l0 k l m (l.length : Int) i) l m hl
      (Ev.step (f := fun _ => some true) (fun k => by simp only [slices_Equal_byte_byte.l0]; rw [if_neg (by omega)]) (Ev.now _))
      (fun i hi b hb2 => by
        by_cases e : rd l (i : Int) = rd m (i : Int)
        · have e0 : l.getD i 0 = m.getD i 0 := e
          rw [and_true_ (decide_eq_true e0)]
          refine Ev.step (fun k => ?_) hb2
          simp only [slices_Equal_byte_byte.l0]
          rw [if_pos (by omega), if_pos (by omega), if_pos (by omega), if_pos (by omega), if_pos e, wrap_one hi hb]
        · have e0 : ¬ l.getD i 0 = m.getD i 0 := e
          rw [and_false_ (decide_eq_false e0)]
          refine Ev.step (f := fun _ => some false) (fun k => ?_) (Ev.now _)
          simp only [slices_Equal_byte_byte.l0]
          rw [if_pos (by omega), if_pos (by omega), if_pos (by omega), if_pos (by omega), if_neg e]) l.length 0 (by omega) (by omega)
    unfold eqL
    rw [and_true_ (decide_eq_true hl)]
    refine Ev.congr (fun k => ?_) h
    unfold slices_Equal_byte_byte.f
    rw [if_pos (by omega)]
    rfl
  · unfold eqL
    rw [and_false_ (decide_eq_false hl)]
    refine Ev.congr (f := fun _ => some false) (fun k => ?_) (Ev.now _)
    unfold slices_Equal_byte_byte.f
    rw [if_neg (by omega)]
theorem ev_type (l m : List Int) (hb : l.length ≤ 9223372036854775807) : Ev (fun k => api_Type_62.f k l m) (eqL (fun x y => decide (x = y)) l m) := by
  by_cases hl : l.length = m.length
  · have h := loop_pairs (0 : Int) (fun x y => decide (x = y)) (fun k i => api_Type_62.l0 k l m (l.length : Int) i) l m hl
      (Ev.step (f := fun _ => some true) (fun k => by simp only [api_Type_62.l0]; rw [if_neg (by omega)]) (Ev.now _))
      (fun i hi b hb2 => by
        by_cases e : rd l (i : Int) = rd m (i : Int)
        · have e0 : l.getD i 0 = m.getD i 0 := e
          rw [and_true_ (decide_eq_true e0)]
          refine Ev.step (fun k => ?_) hb2
          simp only [api_Type_62.l0]
          rw [if_pos (by omega), if_pos (by omega), if_pos (by omega), if_pos (by omega), if_pos e, wrap_one hi hb]
        · have e0 : ¬ l.getD i 0 = m.getD i 0 := e
          rw [and_false_ (decide_eq_false e0)]
          refine Ev.step (f := fun _ => some false) (fun k => ?_) (Ev.now _)
          simp only [api_Type_62.l0]
          rw [if_pos (by omega), if_pos (by omega), if_pos (by omega), if_pos (by omega), if_neg e]) l.length 0 (by omega) (by omega)
    unfold eqL
    rw [and_true_ (decide_eq_true hl)]
    refine Ev.congr (fun k => ?_) h
    unfold api_Type_62.f
    rw [if_pos (by omega)]
    rfl
  · unfold eqL
    rw [and_false_ (decide_eq_false hl)]
    refine Ev.congr (f := fun _ => some false) (fun k => ?_) (Ev.now _)
    unfold api_Type_62.f
    rw [if_neg (by omega)]
def pF (x y : S99) : Bool := (x.f0.toList == y.f0.toList) && (x.f1 == y.f1)
theorem ev_field (l m : List S99) (hb : l.length ≤ 9223372036854775807) : Ev (fun k => api_Field_61.f k l m) (eqL pF l m) := by
  by_cases hl : l.length = m.length
  · have h := loop_pairs z99 pF (fun k i => api_Field_61.l0 k l m (l.length : Int) i) l m hl
      (Ev.step (f := fun _ => some true) (fun k => by simp only [api_Field_61.l0]; rw [if_neg (by omega)]) (Ev.now _))
      (fun i hi b hb2 => by
        by_cases e : pF (rd_T99 l (i : Int)) (rd_T99 m (i : Int)) = true
        · have e2 : ¬ ((!((((rd_T99 l (i : Int)).f0).toList) == (((rd_T99 m (i : Int)).f0).toList)) || (!(((rd_T99 l (i : Int)).f1) == ((rd_T99 m (i : Int)).f1)))) = true) := by
            unfold pF at e
            rw [Bool.and_eq_true] at e
            rw [e.1, e.2]
            decide
          have e : pF (l.getD i z99) (m.getD i z99) = true := e
          rw [and_true_ e]
          refine Ev.step (fun k => ?_) hb2
          simp only [api_Field_61.l0]
          rw [if_pos (by omega), if_pos (by omega), if_pos (by omega), if_pos (by omega), if_neg e2, wrap_one hi hb]
        · have e2 : (!((((rd_T99 l (i : Int)).f0).toList) == (((rd_T99 m (i : Int)).f0).toList)) || (!(((rd_T99 l (i : Int)).f1) == ((rd_T99 m (i : Int)).f1)))) = true := by
            unfold pF at e
            rw [Bool.and_eq_true, Classical.not_and_iff_not_or_not] at e
            rcases e with e | e <;> rw [Bool.eq_false_iff.mpr e] <;> simp
          have e : pF (l.getD i z99) (m.getD i z99) = false := Bool.eq_false_iff.mpr e
          rw [and_false_ e]
          refine Ev.step (f := fun _ => some false) (fun k => ?_) (Ev.now _)
          simp only [api_Field_61.l0]
          rw [if_pos (by omega), if_pos (by omega), if_pos (by omega), if_pos (by omega), if_pos e2]) l.length 0 (by omega) (by omega)
    unfold eqL
    rw [and_true_ (decide_eq_true hl)]
    refine Ev.congr (fun k => ?_) h
    unfold api_Field_61.f
    rw [if_pos (by omega)]
    rfl
  · unfold eqL
    rw [and_false_ (decide_eq_false hl)]
    refine Ev.congr (f := fun _ => some false) (fun k => ?_) (Ev.now _)
    unfold api_Field_61.f
    rw [if_neg (by omega)]
theorem ev_if {p : Prop} [Decidable p] {g : Nat → Option Bool} {b : Bool} (h : Ev g b) : Ev (fun k => if p then g k else some false) (decide p && b) := by
  by_cases hp : p
  · rw [and_true_ (decide_eq_true hp)]
    exact Ev.congr (fun k => by rw [if_pos hp]) h
  · rw [and_false_ (decide_eq_false hp)]
    exact Ev.congr (f := fun _ => some false) (fun k => by rw [if_neg hp]) (Ev.now _)
theorem ev_and {g1 g2 : Nat → Option Bool} {b1 b2 : Bool} (h1 : Ev g1 b1) (h2 : Ev g2 b2) : Ev (fun k => (g1 k).bind fun t => if t = true then g2 k else some false) (b1 && b2) := by
  refine Ev.bind (f := fun k t => if t = true then g2 k else some false) h1 ?_
  cases b1 with
  | true => exact Ev.congr (fun k => by rw [if_pos rfl]) h2
  | false => exact Ev.congr (f := fun _ => some false) (fun k => by rw [if_neg (by decide)]) (Ev.now _)
theorem ev_some {g : Nat → Option Bool} {b : Bool} (h : Ev g b) : Ev (fun k => (g k).bind fun t => some t) b := Ev.bind (f := fun _ t => some t) h (Ev.now _)
def cE (x y : S64) : Bool := decide (x.f0.toList = y.f0.toList) && (decide (x.f1 = y.f1) && eqL pF x.f2 y.f2)
def bE (x y : List Int) : Bool := eqL (fun x y => decide (x = y)) x y
def fE (x y : S49) : Bool := decide (x.f0.toList = y.f0.toList) && (bE x.f1.f0 y.f1.f0 && (decide (x.f1.f1 = y.f1.f1) && (decide (x.f2 = y.f2) && bE x.f3 y.f3)))
theorem bE_self (x : List Int) : bE x x = true := eqL_self (p := fun x y => decide (x = y)) (fun x => decide_eq_true rfl) x
theorem pF_self (x : S99) : pF x x = true := by unfold pF; simp
theorem cE_self (x : S64) : cE x x = true := by unfold cE; rw [eqL_self pF_self]; simp
theorem fE_self (x : S49) : fE x x = true := by unfold fE; rw [bE_self, bE_self]; simp
theorem ev_sameClass (x y : S64) (hb : x.f2.length ≤ 9223372036854775807) : Ev (fun k => module_sameClass.f k x.f0 x.f1 x.f2 y.f0 y.f1 y.f2) (cE x y) :=
  ev_if (ev_if (ev_some (ev_field _ _ hb)))
theorem ev_sameFunc (x y : S49) (h1 : x.f1.f0.length ≤ 9223372036854775807) (h3 : x.f3.length ≤ 9223372036854775807) : Ev (fun k => module_sameFunc.f k x.f0 x.f1.f0 x.f1.f1 x.f2 x.f3 y.f0 y.f1.f0 y.f1.f1 y.f2 y.f3) (fE x y) :=
  ev_if (ev_and (ev_type _ _ h1) (ev_if (ev_if (ev_some (ev_byte _ _ h3)))))
theorem ev_allQ {α : Type} (q : Nat → α → α → Option Bool) (p : α → α → Bool) : ∀ (l m : List α), (∀ x ∈ l, ∀ y, Ev (fun k => q k x y) (p x y)) → Ev (fun k => allQ (q k) l m) (pairs p l m)
  | [], m, _ => Ev.now _
  | x :: xs, [], _ => Ev.now _
  | x :: xs, y :: ys, h => ev_and (h x List.mem_cons_self y) (ev_allQ q p xs ys (fun z hz => h z (List.mem_cons_of_mem _ hz)))
theorem ev_eqs {α : Type} (q : Nat → α → α → Option Bool) (p : α → α → Bool) (l m : List α) (h : ∀ x ∈ l, ∀ y, Ev (fun k => q k x y) (p x y)) : Ev (fun k => eqs (q k) l m) (eqL p l m) := ev_if (ev_allQ q p l m h)
def mE (a0 : ByteArray) (a1 : List S64) (a2 : List S49) (a3 : List (List Int)) (b0 : ByteArray) (b1 : List S64) (b2 : List S49) (b3 : List (List Int)) : Bool :=
  decide (a0.toList = b0.toList) && (eqL cE a1 b1 && (eqL fE a2 b2 && eqL bE a3 b3))
structure ModOk (a1 : List S64) (a2 : List S49) (a3 : List (List Int)) : Prop where
  cl : a1.length ≤ 2932031007320
  cf : ∀ x ∈ a1, x.f2.length ≤ 5864062014640
  fl : a2.length ≤ 1759218604390
  fp : ∀ x ∈ a2, x.f1.f0.length ≤ 140737488351232
  fc : ∀ x ∈ a2, x.f3.length ≤ 140737488351232
  bl : a3.length ≤ 5864062014640
  bb : ∀ x ∈ a3, x.length ≤ 140737488351232
theorem ev_same (a0 : ByteArray) (a1 : List S64) (a2 : List S49) (a3 : List (List Int)) (b0 : ByteArray) (b1 : List S64) (b2 : List S49) (b3 : List (List Int)) (h : ModOk a1 a2 a3) : Ev (fun k => module_Same.f k a0 a1 a2 a3 b0 b1 b2 b3) (mE a0 a1 a2 a3 b0 b1 b2 b3) :=
  ev_if (ev_and (ev_eqs qClass cE a1 b1 (fun x hx y => ev_sameClass x y (by have := h.cf x hx; omega))) (ev_and (ev_eqs qFunc fE a2 b2 (fun x hx y => ev_sameFunc x y (by have := h.fp x hx; omega) (by have := h.fc x hx; omega))) (ev_eqs qBytes bE a3 b3 (fun x hx y => ev_byte x y (by have := h.bb x hx; omega)))))
theorem rd_c {l : List S64} {i : Nat} (h : i < l.length) : rd_T64 l (i : Int) ∈ l := by
  have : rd_T64 l (i : Int) = l[i] := by simp [rd_T64, List.getD_eq_getElem?_getD, h]
  rw [this]
  exact List.getElem_mem h
theorem rd_f {l : List S49} {i : Nat} (h : i < l.length) : rd_T49 l (i : Int) = l[i] := by simp [rd_T49, List.getD_eq_getElem?_getD, h]
theorem rd_cl {l : List S64} {i : Nat} (h : i < l.length) : rd_T64 l (i : Int) = l[i] := by simp [rd_T64, List.getD_eq_getElem?_getD, h]
theorem rd_b {l : List (List Int)} {i : Nat} (h : i < l.length) : rd_L5 l (i : Int) = l[i] := by simp [rd_L5, List.getD_eq_getElem?_getD, h]
theorem ev_sameClasses (l m : List S64) (hs : l.length ≤ 2932031007320) (hf : ∀ x ∈ l, x.f2.length ≤ 5864062014640) : Ev (fun k => provisoplain_SameClasses.f k l m) (eqL cE l m) := by
  by_cases hl : l.length = m.length
  · have h := loop_pairs z64 cE (fun k i => provisoplain_SameClasses.l0 k l m (l.length : Int) i) l m hl
      (Ev.step (f := fun _ => some true) (fun k => by simp only [provisoplain_SameClasses.l0]; rw [if_neg (by omega)]) (Ev.now _))
      (fun i hi b hb2 => by
        have h2 := hf _ (rd_c hi)
        have e : (cE (l.getD i z64) (m.getD i z64) && b) = (decide ((rd_T64 l (i : Int)).f0.toList = (rd_T64 m (i : Int)).f0.toList) && (decide ((rd_T64 l (i : Int)).f1 = (rd_T64 m (i : Int)).f1) && (eqL pF (rd_T64 l (i : Int)).f2 (rd_T64 m (i : Int)).f2 && b))) := by
          show (cE (rd_T64 l (i : Int)) (rd_T64 m (i : Int)) && b) = _
          unfold cE
          rw [Bool.and_assoc, Bool.and_assoc]
        rw [e]
        refine Ev.step (fun k => ?_) (ev_if (ev_if (ev_and (ev_field (rd_T64 l (i : Int)).f2 (rd_T64 m (i : Int)).f2 (by omega)) hb2)))
        simp only [provisoplain_SameClasses.l0]
        rw [if_pos (by omega), if_pos (by omega), if_pos (by omega), if_pos (by omega), wrap_one hi (by omega)]) l.length 0 (by omega) (by omega)
    unfold eqL
    rw [and_true_ (decide_eq_true hl)]
    refine Ev.congr (fun k => ?_) h
    unfold provisoplain_SameClasses.f
    rw [if_pos (by omega)]
    rfl
  · unfold eqL
    rw [and_false_ (decide_eq_false hl)]
    refine Ev.congr (f := fun _ => some false) (fun k => ?_) (Ev.now _)
    unfold provisoplain_SameClasses.f
    rw [if_neg (by omega)]
theorem ev_refFunc (x y : S49) (h1 : x.f1.f0.length ≤ 9223372036854775807) (h3 : x.f3.length ≤ 9223372036854775807) : Ev (fun k => provisoplain_SameFunc.f k x.f0 x.f1.f0 x.f1.f1 x.f2 x.f3 y.f0 y.f1.f0 y.f1.f1 y.f2 y.f3) (fE x y) := by
  have e : fE x y = (decide (x.f0.toList = y.f0.toList) && ((decide (x.f1.f1 = y.f1.f1) && bE x.f1.f0 y.f1.f0) && (decide (x.f2 = y.f2) && bE x.f3 y.f3))) := by
    unfold fE
    cases decide (x.f1.f1 = y.f1.f1) <;> cases bE x.f1.f0 y.f1.f0 <;> rfl
  rw [e]
  exact ev_if (ev_and (ev_if (ev_some (ev_type _ _ h1))) (ev_if (ev_some (ev_byte _ _ h3))))
end Go.Proofs.Ytdlmcjchnoeebaa.Pure

end

section
namespace Go.Proofs.Ytdlmcjchnoeebaa.Pure
open Go.RowKit Go.Proofs.Ytdlmcjchnoeebaa.P Go.Proofs.YtdlmcjchnoeebaaW.PrintWords
set_option linter.unusedSimpArgs false
set_option linter.unusedVariables false
theorem ev_refModule (a0 : ByteArray) (a1 : List S64) (a2 : List S49) (a3 : List (List Int)) (b0 : ByteArray) (b1 : List S64) (b2 : List S49) (b3 : List (List Int)) (h : ModOk a1 a2 a3) : Ev (fun k => provisoplain_SameModule.f k a0 a1 a2 a3 b0 b1 b2 b3) (mE a0 a1 a2 a3 b0 b1 b2 b3) := by
  have hcl := ev_sameClasses a1 b1 h.cl h.cf
  have jf : Ev (fun k => provisoplain_SameModule.j0 k true a0 a1 a2 a3 b0 b1 b2 b3) false := Ev.step (f := fun _ => some false) (fun k => by simp only [provisoplain_SameModule.j0, if_true]) (Ev.now _)
  unfold mE
  by_cases hn : a0.toList = b0.toList
  · rw [and_true_ (decide_eq_true hn)]
    refine Ev.congr (fun k => by unfold provisoplain_SameModule.f; rw [if_pos hn]) (Ev.bind (f := fun k t => if t = true then (if (a2.length : Int) = (b2.length : Int) then (provisoplain_SameModule.j0 k ((a3.length : Int) != (b3.length : Int)) a0 a1 a2 a3 b0 b1 b2 b3) else (provisoplain_SameModule.j0 k true a0 a1 a2 a3 b0 b1 b2 b3)) else (provisoplain_SameModule.j0 k true a0 a1 a2 a3 b0 b1 b2 b3)) hcl ?_)
    cases eqL cE a1 b1 with
    | false => exact Ev.congr (fun k => by rw [if_neg (by decide)]) jf
    | true =>
      rw [Bool.true_and]
      by_cases h2 : a2.length = b2.length
      · by_cases h3 : a3.length = b3.length
        · have e : (eqL fE a2 b2 && eqL bE a3 b3) = (pairs fE a2 b2 && pairs bE a3 b3) := by
            unfold eqL
            rw [and_true_ (decide_eq_true h2), and_true_ (decide_eq_true h3)]
          rw [e]
          have hl1 := loop_pairs ([] : List Int) bE (fun k i => provisoplain_SameModule.l1 k (a3.length : Int) i a0 a1 a2 a3 b0 b1 b2 b3) a3 b3 h3
            (Ev.step (f := fun _ => some true) (fun k => by simp only [provisoplain_SameModule.l1]; rw [if_neg (by omega)]) (Ev.now _))
            (fun i hi b hb2 => by
              have hbb := h.bb _ (List.getElem_mem hi)
              rw [← rd_b hi] at hbb
              show Ev _ (bE (rd_L5 a3 (i : Int)) (rd_L5 b3 (i : Int)) && b)
              refine Ev.step (fun k => ?_) (ev_and (ev_byte (rd_L5 a3 (i : Int)) (rd_L5 b3 (i : Int)) (by omega)) hb2)
              simp only [provisoplain_SameModule.l1]
              rw [if_pos (by omega), if_pos (by omega), if_pos (by omega), if_pos (by omega), wrap_one hi (by have := h.bl; omega)]) a3.length 0 (by omega) (by omega)
          have hl0 : ∀ (d i : Nat), a2.length - i = d → i ≤ a2.length → Ev (fun k => provisoplain_SameModule.l0 k (a2.length : Int) (i : Int) a0 a1 a2 a3 b0 b1 b2 b3) (pairs fE (a2.drop i) (b2.drop i) && pairs bE a3 b3) := by
            intro d
            induction d with
            | zero =>
              intro i hd hi
              obtain rfl : i = a2.length := by omega
              rw [List.drop_length]
              show Ev _ (pairs bE a3 b3)
              refine Ev.step (fun k => ?_) hl1
              simp only [provisoplain_SameModule.l0]
              rw [if_neg (by omega)]
              rfl
            | succ d ih =>
              intro i hd hi
              have hi1 : i < a2.length := by omega
              have hi2 : i < b2.length := by omega
              have ih := ih (i + 1) (by omega) (by omega)
              have hp := h.fp _ (List.getElem_mem hi1)
              have hc := h.fc _ (List.getElem_mem hi1)
              rw [← rd_f hi1] at hp hc
              have e : (pairs fE (a2.drop i) (b2.drop i) && pairs bE a3 b3) = (fE (rd_T49 a2 (i : Int)) (rd_T49 b2 (i : Int)) && (pairs fE (a2.drop (i + 1)) (b2.drop (i + 1)) && pairs bE a3 b3)) := by
                rw [List.drop_eq_getElem_cons hi1, List.drop_eq_getElem_cons hi2, rd_f hi1, rd_f hi2]
                exact Bool.and_assoc _ _ _
              rw [e]
              refine Ev.step (fun k => ?_) (ev_and (ev_refFunc (rd_T49 a2 (i : Int)) (rd_T49 b2 (i : Int)) (by omega) (by omega)) ih)
              simp only [provisoplain_SameModule.l0]
              rw [if_pos (by omega), if_pos (by omega), if_pos (by omega), if_pos (by omega), wrap_one hi1 (by have := h.fl; omega)]
          have hz := hl0 a2.length 0 (by omega) (by omega)
          refine Ev.congr (fun k => by rw [if_pos rfl, if_pos (by omega), bne_eq_false_iff_eq.mpr (show (a3.length : Int) = (b3.length : Int) by omega)]) ?_
          refine Ev.step (fun k => ?_) hz
          simp only [provisoplain_SameModule.j0]
          rw [if_neg (by decide)]
          rfl
        · have e : (eqL fE a2 b2 && eqL bE a3 b3) = false := by
            unfold eqL
            rw [decide_eq_false h3, Bool.false_and, Bool.and_false]
          rw [e]
          exact Ev.congr (fun k => by rw [if_pos rfl, if_pos (by omega), bne_iff_ne.mpr (show (a3.length : Int) ≠ (b3.length : Int) by omega)]) jf
      · have e : (eqL fE a2 b2 && eqL bE a3 b3) = false := by
          unfold eqL
          rw [decide_eq_false h2, Bool.false_and, Bool.false_and]
        rw [e]
        exact Ev.congr (fun k => by rw [if_pos rfl, if_neg (by omega)]) jf
  · rw [and_false_ (decide_eq_false hn)]
    exact Ev.congr (fun k => by unfold provisoplain_SameModule.f; rw [if_neg hn]) jf
def entP (n : Int) : Int × Bool := if n < 0 then (0, false) else (n, true)
theorem ev_entry (a0 : ByteArray) (a1 : List S64) (a2 : List S49) (a3 : List (List Int)) (n : ByteArray) (hl : a2.length ≤ 1759218604390) : ∀ (d i : Nat), a2.length - i = d → i ≤ a2.length → Ev (fun k => provisoref16_Entry.l0 k n (i : Int) a0 a1 a2 a3) (entP (firstFromFunc (fun x => x.f0.toList == n.toList) a2 d i))
  | 0, i, hd, hi => by
    refine Ev.step (f := fun _ => some (0, false)) (fun k => ?_) (Ev.now _)
    simp only [provisoref16_Entry.l0]
    rw [if_neg (by omega)]
  | d + 1, i, hd, hi => by
    have ih := ev_entry a0 a1 a2 a3 n hl d (i + 1) (by omega) (by omega)
    by_cases e : (rd_T49 a2 (i : Int)).f0.toList = n.toList
    · have e2 : firstFromFunc (fun x => x.f0.toList == n.toList) a2 (d + 1) i = (i : Int) := by
        show (if _ then _ else _) = _
        rw [if_pos (beq_iff_eq.mpr e)]
      rw [e2]
      unfold entP
      rw [if_neg (by omega)]
      refine Ev.step (f := fun _ => some ((i : Int), true)) (fun k => ?_) (Ev.now _)
      simp only [provisoref16_Entry.l0]
      rw [if_pos (by omega), if_pos (by omega), if_pos e]
    · have e2 : firstFromFunc (fun x => x.f0.toList == n.toList) a2 (d + 1) i = firstFromFunc (fun x => x.f0.toList == n.toList) a2 d (i + 1) := by
        show (if _ then _ else _) = _
        rw [if_neg (fun h => e (beq_iff_eq.mp h))]
      rw [e2]
      refine Ev.step (fun k => ?_) ih
      simp only [provisoref16_Entry.l0]
      rw [if_pos (by omega), if_pos (by omega), if_neg e, wrap_one (n := a2.length) (by omega) (by omega)]
theorem ev_classes (l : List S64) (hs : l.length ≤ 2932031007320) (hf : ∀ x ∈ l, x.f2.length ≤ 5864062014640) : ∀ (d i : Nat), l.length - i = d → i ≤ l.length → Ev (fun k => provisoplain_Classes.l0 k (l.take i) l (l.length : Int) (i : Int)) l
  | 0, i, hd, hi => by
    obtain rfl : i = l.length := by omega
    rw [List.take_length]
    exact Ev.step (f := fun _ => some l) (fun k => by simp only [provisoplain_Classes.l0]; rw [if_neg (by omega)]) (Ev.now _)
  | d + 1, i, hd, hi => by
    have hlt : i < l.length := by omega
    have ih := ev_classes l hs hf d (i + 1) (by omega) (by omega)
    have hx := hf _ (List.getElem_mem hlt)
    refine Ev.step (fun k => ?_) ih
    simp only [provisoplain_Classes.l0]
    rw [if_pos (by omega), if_pos (by omega), if_pos (by omega), rd_cl hlt]
    unfold api_Field_59.f
    rw [if_pos (by omega)]
    simp only [Option.bind_some]
    rw [if_pos (by rw [List.length_take]; omega), wrap_one hlt (by omega), List.take_succ_eq_append_getElem hlt]
theorem ev_certs (x0 : ByteArray) (x1 : List S64) (x2 : List S49) (l : List (List Int)) (hs : l.length ≤ 5864062014640) (hf : ∀ x ∈ l, x.length ≤ 140737488351232) : ∀ (d i : Nat), l.length - i = d → i ≤ l.length → Ev (fun k => provisoplain_Module.l1 k l (l.length : Int) (i : Int) x0 x1 x2 (l.take i)) (x0, x1, x2, l)
  | 0, i, hd, hi => by
    obtain rfl : i = l.length := by omega
    rw [List.take_length]
    exact Ev.step (f := fun _ => some (x0, x1, x2, l)) (fun k => by simp only [provisoplain_Module.l1]; rw [if_neg (by omega)]) (Ev.now _)
  | d + 1, i, hd, hi => by
    have hlt : i < l.length := by omega
    have ih := ev_certs x0 x1 x2 l hs hf d (i + 1) (by omega) (by omega)
    have hx := hf _ (List.getElem_mem hlt)
    refine Ev.step (fun k => ?_) ih
    simp only [provisoplain_Module.l1]
    rw [if_pos (by omega), if_pos (by omega), if_pos (by omega), rd_b hlt]
    unfold slices_Clone_byte_byte.f
    rw [if_pos (by omega)]
    simp only [Option.bind_some]
    rw [if_pos (by rw [List.length_take]; omega), wrap_one hlt (by omega), List.take_succ_eq_append_getElem hlt]
theorem ev_funcs (a0 : ByteArray) (a1 : List S64) (a2 : List S49) (a3 : List (List Int)) (h : ModOk a1 a2 a3) : ∀ (d i : Nat), a2.length - i = d → i ≤ a2.length → Ev (fun k => provisoplain_Module.l0 k a2 (a2.length : Int) (i : Int) a0 a1 a2 a3 a0 a1 (a2.take i)) (a0, a1, a2, a3)
  | 0, i, hd, hi => by
    obtain rfl : i = a2.length := by omega
    rw [List.take_length]
    have hc := ev_certs a0 a1 a2 a3 h.bl h.bb a3.length 0 (by omega) (by omega)
    refine Ev.step (fun k => ?_) hc
    simp only [provisoplain_Module.l0]
    rw [if_neg (by omega), List.take_zero]
    rfl
  | d + 1, i, hd, hi => by
    have hlt : i < a2.length := by omega
    have ih := ev_funcs a0 a1 a2 a3 h d (i + 1) (by omega) (by omega)
    have hp := h.fp _ (List.getElem_mem hlt)
    have hc := h.fc _ (List.getElem_mem hlt)
    have hl := h.fl
    refine Ev.step (fun k => ?_) ih
    simp only [provisoplain_Module.l0]
    rw [if_pos (by omega), if_pos (by omega), if_pos (by omega), rd_f hlt]
    unfold provisoplain_Func.f provisoplain_Sig.f api_Type_104.f slices_Clone_byte_byte.f
    rw [if_pos (by omega), if_pos (by omega)]
    simp only [Option.bind_some]
    rw [if_pos (by rw [List.length_take]; omega), wrap_one hlt (by omega), List.take_succ_eq_append_getElem hlt]
theorem ev_module (a0 : ByteArray) (a1 : List S64) (a2 : List S49) (a3 : List (List Int)) (h : ModOk a1 a2 a3) : Ev (fun k => provisoplain_Module.f k a0 a1 a2 a3) (a0, a1, a2, a3) := by
  have hc := ev_classes a1 h.cl h.cf a1.length 0 (by omega) (by omega)
  have hf := ev_funcs a0 a1 a2 a3 h a2.length 0 (by omega) (by omega)
  rw [List.take_zero] at hc hf
  exact Ev.bind (f := fun k t => provisoplain_Module.l0 k a2 (a2.length : Int) 0 a0 a1 a2 a3 a0 t []) (Ev.congr (fun k => rfl) hc) hf
theorem mE_self (a0 : ByteArray) (a1 : List S64) (a2 : List S49) (a3 : List (List Int)) : mE a0 a1 a2 a3 a0 a1 a2 a3 = true := by
  unfold mE
  rw [eqL_self cE_self, eqL_self fE_self, eqL_self bE_self, decide_eq_true rfl]
  rfl
theorem ModuleAsks : provisolaw16_ModuleAsks.Pure := by
  intro a0 a1 a2 a3 b0 b1 b2 b3 n ha0 ha1 ha2 ha3 hb0 hb1 hb2 hb3 hn
  have ok : ∀ (a1 : List S64) (a2 : List S49) (a3 : List (List Int)), (a1.length ≤ 9223372036854775807 ∧ a1.length * 48 ≤ 140737488351232 ∧ ∀ x ∈ a1, Ok64 x) → (a2.length ≤ 9223372036854775807 ∧ a2.length * 80 ≤ 140737488351232 ∧ ∀ x ∈ a2, Ok49 x) → (a3.length ≤ 9223372036854775807 ∧ a3.length * 24 ≤ 140737488351232 ∧ ∀ x ∈ a3, (x.length ≤ 9223372036854775807 ∧ x.length * 1 ≤ 140737488351232 ∧ ∀ y ∈ x, (Lit.int .u8 y).wf = true)) → ModOk a1 a2 a3 := fun a1 a2 a3 h1 h2 h3 =>
    ⟨by have := h1.2.1; omega, fun x hx => by have := (h1.2.2 x hx).2.2.2.1; omega, by have := h2.2.1; omega, fun x hx => by have := (h2.2.2 x hx).2.1.1.2.1; omega, fun x hx => by have := (h2.2.2 x hx).2.2.2.2.1; omega, by have := h3.2.1; omega, fun x hx => by have := (h3.2.2 x hx).2.1; omega⟩
  have oka := ok a1 a2 a3 ha1 ha2 ha3
  have okb := ok b1 b2 b3 hb1 hb2 hb3
  obtain ⟨K1, h1⟩ := ev_entry a0 a1 a2 a3 n oka.fl a2.length 0 (by omega) (by omega)
  obtain ⟨K2, h2⟩ := ev_module a0 a1 a2 a3 oka
  obtain ⟨K3, h3⟩ := ev_module b0 b1 b2 b3 okb
  obtain ⟨K4, h4⟩ := ev_same a0 a1 a2 a3 b0 b1 b2 b3 oka
  obtain ⟨K5, h5⟩ := ev_refModule a0 a1 a2 a3 b0 b1 b2 b3 oka
  obtain ⟨K6, h6⟩ := ev_same a0 a1 a2 a3 a0 a1 a2 a3 oka
  refine ⟨K1 + K2 + K3 + K4 + K5 + K6, (entP (firstFromFunc (fun x => x.f0.toList == n.toList) a2 a2.length 0)).1, (entP (firstFromFunc (fun x => x.f0.toList == n.toList) a2 a2.length 0)).2, mE a0 a1 a2 a3 b0 b1 b2 b3, ?_, h1 _ (by omega), h2 _ (by omega), h3 _ (by omega), h4 _ (by omega), h5 _ (by omega), ?_⟩
  · unfold module_Entry.f entP
    split <;> rfl
  · have := h6 (K1 + K2 + K3 + K4 + K5 + K6) (by omega)
    rw [mE_self] at this
    exact this
end Go.Proofs.Ytdlmcjchnoeebaa.Pure

end

section
namespace Go.Proofs.Ytdlmcjchnoeebaa.moduleAsks
open Go.ChangeShapes Go.WideShapes Go.ChangeAt Go.RowKit Go.Proofs.YtdlmcjchnoeebaaW.PrintWords Go.Proofs.Ytdlmcjchnoeebaa.Sees Go.Proofs.Ytdlmcjchnoeebaa.P
open Go.ChangeMaps (open_string shut_string)
set_option linter.unusedVariables false
set_option linter.unusedSimpArgs false
theorem own : ownKnob Try.prog.godebug = none := by kernel_rfl
theorem laidOut : laidOutB Try.prog = true := by kernel_rfl
set_option maxRecDepth 100000 in
theorem lifted (os : Os) (started : os.Started) (H : Type) (enc : TypeId × Value → H) :
    ReturnsInHanded {} Try.checked os 3 .any (Rows.moduleAsksSpec.pre6 enc Try.prog Try.f3 Rows.moduleAsksRow.domain false) (Rows.moduleAsksSpec.post enc Try.prog Try.f3 false true false false) := by
  refine returnsInHanded_of_change_sized (C := Try.checked) own started (by kernel_rfl) Try.func3
    (ChangeSpec.witness6 (enc := enc) (C := Try.checked) false ⟨#[], #[.agg #[.string ByteArray.empty, .slice none 0 0, .slice none 0 0, .slice none 0 0], .agg #[.string ByteArray.empty, .slice none 0 0, .slice none 0 0, .slice none 0 0], .string ByteArray.empty], []⟩ 8 (by kernel_rfl) (by kernel_rfl) (by kernel_rfl) (by kernel_rfl)) ?_
  intro W base args ds gs before hval0 hW hcnd hsz0 _
  have hsz : (DataW.weightsEach Try.prog (Try.f3.params.toList ++ Rows.moduleAsksSpec.plain.varTypes Try.prog) (ds ++ gs)).all (· ≤ reachBytes) = true := hsz0
  have hval : ∀ (j : Nat) t v, Try.f3.params[j]? = some t → args[j]? = some v → Value.okWide Try.prog W .any base t v := hval0
  have hW' := hW
  obtain ⟨p, q, hA0, hV, rfl, hfz, hnd⟩ := hW
  have hA : DataW.TrodAll enc Try.prog W 0 (fun _ => true) true Try.f3.params.toList args.toList ds p := hA0
  rw [Try.params3] at hA hval hsz
  obtain ⟨v0, vs0, d0, ds0, p0, q0, hargs, rfl, rfl, h0, r0⟩ := trodAll_cons hA
  obtain ⟨v1, vs1, d1, ds1, p1, q1, rfl, rfl, rfl, h1, r1⟩ := trodAll_cons r0
  obtain ⟨v2, vs2, d2, ds2, p2, q2, rfl, rfl, rfl, h2, r2⟩ := trodAll_cons r1
  obtain ⟨rfl, rfl, rfl⟩ := trodAll_nil r2
  obtain rfl : args = #[v0, v1, v2] := by cases args; simp_all
  obtain ⟨rfl, rfl⟩ := trodVars_none hV
  have k0 := h0
  have lt0 : ∀ x ∈ p0, x.block < W.heap.size := by obtain ⟨m, hm⟩ := k0; exact DataW.trod_lt m _ _ _ hm
  obtain ⟨y0, hy0, oy0⟩ := see_arg (j := 0) (t := 26) (sees_struct (fun y => y) (fun y => y) (fun _ => rfl) Try.underlying26 (by kernel_rfl) (sees_more rfl (by kernel_rfl) (sees_string Try.underlying9) (sees_more rfl (by kernel_rfl) (sees_slice (B := 48) Try.underlying22 (by kernel_rfl) (by kernel_rfl) sees64) (sees_more rfl (by kernel_rfl) (sees_slice (B := 80) Try.underlying23 (by kernel_rfl) (by kernel_rfl) sees49) (sees_last rfl (by kernel_rfl) (sees_slice (B := 24) Try.underlying24 (by kernel_rfl) (by kernel_rfl) (sees_slice (B := 1) Try.underlying36 (by kernel_rfl) (by kernel_rfl) (sees_int Try.underlying5)))))))) hsz rfl rfl h0
  obtain ⟨cs0, rfl, hcs0⟩ := okWide_struct Try.underlying26 (hval 0 26 v0 rfl rfl)
  obtain ⟨_, _, e0, rfl, ⟨_, _, rfl, ⟨AA0_0, CC0_0, rfl, HH0_0, RR0_0⟩, ⟨_, _, rfl, ⟨AA0_1, CC0_1, rfl, HH0_1, RR0_1⟩, ⟨AA0_2, CC0_2, rfl, HH0_2, RR0_2⟩⟩⟩⟩ := hy0
  obtain rfl : cs0 = #[.string (y0.1), .slice AA0_0 (y0.2.1).length CC0_0, .slice AA0_1 (y0.2.2.1).length CC0_1, .slice AA0_2 (y0.2.2.2).length CC0_2] := by have e_ := congrArg List.toArray e0; simpa [Value.cells] using e_
  have k1 := h1
  have lt1 : ∀ x ∈ p1, x.block < W.heap.size := by obtain ⟨m, hm⟩ := k1; exact DataW.trod_lt m _ _ _ hm
  obtain ⟨y1, hy1, oy1⟩ := see_arg (j := 1) (t := 26) (sees_struct (fun y => y) (fun y => y) (fun _ => rfl) Try.underlying26 (by kernel_rfl) (sees_more rfl (by kernel_rfl) (sees_string Try.underlying9) (sees_more rfl (by kernel_rfl) (sees_slice (B := 48) Try.underlying22 (by kernel_rfl) (by kernel_rfl) sees64) (sees_more rfl (by kernel_rfl) (sees_slice (B := 80) Try.underlying23 (by kernel_rfl) (by kernel_rfl) sees49) (sees_last rfl (by kernel_rfl) (sees_slice (B := 24) Try.underlying24 (by kernel_rfl) (by kernel_rfl) (sees_slice (B := 1) Try.underlying36 (by kernel_rfl) (by kernel_rfl) (sees_int Try.underlying5)))))))) hsz rfl rfl h1
  obtain ⟨cs1, rfl, hcs1⟩ := okWide_struct Try.underlying26 (hval 1 26 v1 rfl rfl)
  obtain ⟨_, _, e1, rfl, ⟨_, _, rfl, ⟨AA1_0, CC1_0, rfl, HH1_0, RR1_0⟩, ⟨_, _, rfl, ⟨AA1_1, CC1_1, rfl, HH1_1, RR1_1⟩, ⟨AA1_2, CC1_2, rfl, HH1_2, RR1_2⟩⟩⟩⟩ := hy1
  obtain rfl : cs1 = #[.string (y1.1), .slice AA1_0 (y1.2.1).length CC1_0, .slice AA1_1 (y1.2.2.1).length CC1_1, .slice AA1_2 (y1.2.2.2).length CC1_2] := by have e_ := congrArg List.toArray e1; simpa [Value.cells] using e_
  have k2 := h2
  have lt2 : ∀ x ∈ p2, x.block < W.heap.size := by obtain ⟨m, hm⟩ := k2; exact DataW.trod_lt m _ _ _ hm
  obtain ⟨y2, hy2, oy2⟩ := see_arg (j := 2) (t := 9) (sees_string Try.underlying9) hsz rfl rfl h2
  obtain ⟨z2, rfl, rfl, rfl, _⟩ := open_string Try.underlying9 (hval 2 9 v2 rfl rfl) h2
  obtain rfl : z2 = y2 := by have e_ := hy2; simp [Kd.int, Kd.bool, Kd.string, Kd.scalar, Value.cells] at e_; exact e_
  clear hA0 hval0 hsz0 hsz
  have hk := Pure.ModuleAsks y0.1 y0.2.1 y0.2.2.1 y0.2.2.2 y1.1 y1.2.1 y1.2.2.1 y1.2.2.2 z2 oy0.1 oy0.2.1 oy0.2.2.1 oy0.2.2.2 oy1.1 oy1.2.1 oy1.2.2.1 oy1.2.2.2 oy2
  refine (provisolaw16_ModuleAsks.calls (y0.1) _ _ y0.2.1 _ _ y0.2.2.1 _ _ y0.2.2.2 (y1.1) _ _ y1.2.1 _ _ y1.2.2.1 _ _ y1.2.2.2 z2 W RR0_0 HH0_0 RR0_1 HH0_1 RR0_2 HH0_2 RR1_0 HH1_0 RR1_1 HH1_1 RR1_2 HH1_2 hk).mono ?_
  rintro e W' ⟨rfl, bel0⟩
  have bel : Below W.heap.size W W' := bel0
  exact ⟨_, rfl, _, _, _, [], _, [], hW', trodAll_mk1 (shut_bool Try.underlying4 _), (trodAll_cons_mk (Below.trod laidOut (by kernel_rfl) (of_decide_eq_true (by kernel_rfl)) k0 bel lt0) (trodAll_cons_mk (Below.trod laidOut (by kernel_rfl) (of_decide_eq_true (by kernel_rfl)) k1 bel lt1) (trodAll_cons_mk (Below.trod laidOut (by kernel_rfl) (of_decide_eq_true (by kernel_rfl)) k2 bel lt2) trodAll_mk0))), rfl, bel.frame _, fun h => by cases h⟩
theorem over : Rows.moduleAsksRow.holds Try.pinned (OpenSpec.ofChange Rows.moduleAsksSpec) :=
  OpenClaim.holds_of_wide 3 Try.f3 rfl rfl rfl rfl rfl rfl rfl ⟨rfl, rfl, rfl, rfl, rfl⟩ rfl rfl rfl rfl rfl (by kernel_rfl) Try.func3 (by kernel_rfl)
    (of_decide_eq_true (by kernel_rfl)) (by unfold Func.isWrapper; first | (rw [if_pos (by decide +kernel)]; kernel_rfl) | (rw [if_neg (by decide +kernel)]; exact ⟨rfl, rfl⟩))
    (fun os started H enc _ => lifted os started H enc)
theorem proved : Rows.ModuleAsksSaid := over
end Go.Proofs.Ytdlmcjchnoeebaa.moduleAsks
namespace Go.Proofs.Ytdlmcjchnoeebaa
theorem moduleAsks_holds : Rows.ModuleAsksSaid := moduleAsks.proved
end Go.Proofs.Ytdlmcjchnoeebaa

end

