/- Proved: the law FramesStarts holds for every input that the row lets in. No condition of ours. -/
import Derived.Test.YtgjnmpgmbhbbhaaBFramesStartsd
section
namespace Go.Proofs.Ytgjnmpgmbhbbhaa.P
open Go.RowKit Go.Proofs.YtgjnmpgmbhbbhaaW.PrintWords Go.Proofs.YtgjnmpgmbhbbhaaW.PrintLast Go.Proofs.YtgjnmpgmbhbbhaaW.PrintMore
attribute [local go_sem] max2_int min2_int max_two min_two max_three min_three max_four min_four   -- for this text's walks alone
set_option linter.unusedVariables false
set_option linter.unusedSimpArgs false

set_option maxHeartbeats 8000000 in
set_option maxRecDepth 100000 in
theorem provisoplain_SameClasses.calls (k : Nat) (A0 : Option Addr) (c0 : Nat) (l0 : List (S59)) (A1 : Option Addr) (c1 : Nat) (l1 : List (S59)) (r : Bool) (w : World) (hr0 : Kd.C k59 w A0 l0.length l0) (hc0 : l0.length ≤ c0) (hr1 : Kd.C k59 w A1 l1.length l1) (hc1 : l1.length ≤ c1) (h : provisoplain_SameClasses.f k l0 l1 = some r) :
    Calls Try.prog 18 #[.slice A0 l0.length c0, .slice A1 l1.length c1] w fun e w' => e = .returned (.bool r) ∧ Below w.heap.size w w' := by
  have HR0 := Aside0.mk hr0
  have HC0 := Aside0.mk hc0
  clear hr0 hc0
  have HR1 := Aside0.mk hr1
  have HC1 := Aside0.mk hc1
  clear hr1 hc1
  have HB := Aside0.mk (Below.refl w.heap.size w)
  have H : (if (l0.length : Int) = (l1.length : Int) then (provisoplain_SameClasses.l0 k l0 l1 (l0.length : Int) 0) else (some false)) = some r := h
  clear h
  by_cases c3 : (l0.length : Int) = (l1.length : Int)
  · rw [if_pos c3] at H
    have c3b0 : ((l0.length : Int) == (l1.length : Int)) = true := beq_iff_eq.mpr c3
    have c3b1 : ((l0.length : Int) != (l1.length : Int)) = false := bne_eq_false_iff_eq.mpr c3
    have c3b2 : (l0.length == l1.length) = true := by first | simpa using c3 | (simp at c3 ⊢; omega)
    clear c3
    have H' := Aside0.mk H
    clear H
    go_enter Try.func18, Try.ntmps18
    go_wp2
    go_loopg [13] k (fun kq v13 w' => ∃ (x13_1 : Int), v13 = .int .i64 x13_1 ∧ Aside0 (provisoplain_SameClasses.l0 kq l0 l1 (l0.length : Int) x13_1 = some r) ∧ Aside0 (kq ≤ k) ∧ Aside0 (Below w.heap.size w w'))
    case atStart => exact ⟨(0), (by first | rfl | (simp; done) | (simp [*]; done)), H', ⟨Nat.le_refl _⟩, ⟨by repeat (first | (with_reducible first | exact HB.out | apply below_alloc | apply pw_below_drewN | apply below_drew1) | exact HB.out)⟩⟩
    case round =>
      clear H'
      try clear c1
      try clear p2
      try clear c3
      try clear c3b0
      try clear c3b1
      try clear c3b2
      obtain ⟨x13_1, rfl, HA, HK1, HB⟩ := hrel
      cases gk with
      | zero => exact absurd HA.out (by simp [provisoplain_SameClasses.l0])
      | succ k1 =>
        have H := HA.out
        clear HA
        simp only [provisoplain_SameClasses.l0] at H
        by_cases c4 : x13_1 < (l0.length : Int)
        · rw [if_pos c4] at H
          have c4b0 : decide (x13_1 < (l0.length : Int)) = true := decide_eq_true c4
          clear c4
          by_cases c5 : 0 ≤ x13_1
          · rw [if_pos c5] at H
            have c5b0 : decide (0 ≤ x13_1) = true := decide_eq_true c5
            clear c5
            by_cases c6 : x13_1 < (l0.length : Int)
            · rw [if_pos c6] at H
              have c6b0 : decide (x13_1 < (l0.length : Int)) = true := decide_eq_true c6
              clear c6
              by_cases c7 : x13_1 < (l1.length : Int)
              · rw [if_pos c7] at H
                have c7b0 : decide (x13_1 < (l1.length : Int)) = true := decide_eq_true c7
                clear c7
                by_cases c8 : ((rd_T59 l0 x13_1).f0).toList = ((rd_T59 l1 x13_1).f0).toList
                · rw [if_pos c8] at H
                  have c8b0 : (((rd_T59 l0 x13_1).f0).toList == ((rd_T59 l1 x13_1).f0).toList) = true := beq_iff_eq.mpr c8
                  have c8b1 : (((rd_T59 l0 x13_1).f0).toList != ((rd_T59 l1 x13_1).f0).toList) = false := bne_eq_false_iff_eq.mpr c8
                  clear c8
                  by_cases c9 : ((rd_T59 l0 x13_1).f1) = ((rd_T59 l1 x13_1).f1)
                  · rw [if_pos c9] at H
                    have c9b0 : (((rd_T59 l0 x13_1).f1) == ((rd_T59 l1 x13_1).f1)) = true := beq_iff_eq.mpr c9
                    have c9b1 : (((rd_T59 l0 x13_1).f1) != ((rd_T59 l1 x13_1).f1)) = false := bne_eq_false_iff_eq.mpr c9
                    clear c9
                    replace H := Option.bind_eq_some_iff.mp H
                    obtain ⟨t155, A100, H⟩ := H
                    replace H : (if t155 = true then (provisoplain_SameClasses.l0 k1 l0 l1 (l0.length : Int) (wrap64 (x13_1 + 1))) else (some false)) = some r := H
                    have A10 := Aside0.mk A100
                    clear A100
                    by_cases c11 : t155 = true
                    · subst c11
                      have H1 : (provisoplain_SameClasses.l0 k1 l0 l1 (l0.length : Int) (wrap64 (x13_1 + 1))) = some r := by rw [if_pos rfl] at H; exact H
                      clear H
                      have H := H1
                      clear H1
                      have H' := Aside0.mk H
                      clear H
                      try go_wp2
                      have n0_ := Aside0.mk (below_drew1 HB.out)
                      clear HB
                      have HB := n0_
                      clear n0_
                      have p149 : 0 ≤ (x13_1 : Int) := of_decide_eq_true (by first | (with_reducible assumption) | assumption)
                      have q149 : x13_1 < (l0.length : Int) := of_decide_eq_true (by first | (with_reducible assumption) | assumption)
                      obtain ⟨ad149, A149_2, c149_2, e149, hx149_0, hx149_1, hx149_2, hl149_2, hi149_2⟩ := at_T59 HR0.out x13_1 p149 q149
                      have hw149_2 := hx149_2
                      have hw149_1 := hx149_1
                      have hw149_0 := hx149_0
                      cases e149
                      replace hx149_0 := (HB.out.cell (World.block_lt_of_cell? w _ hx149_0)).trans hx149_0
                      replace hx149_1 := (HB.out.cell (World.block_lt_of_cell? w _ hx149_1)).trans hx149_1
                      replace hx149_2 := (HB.out.cell (World.block_lt_of_cell? w _ hx149_2)).trans hx149_2
                      have HR149_2 := Aside0.mk hi149_2
                      have HC149_2 := Aside0.mk hl149_2
                      clear hi149_2 hl149_2
                      replace p149 := eq_true p149
                      replace q149 := eq_true q149
                      have p150 : 0 ≤ (x13_1 : Int) := of_decide_eq_true (by first | (with_reducible assumption) | assumption)
                      have q150 : x13_1 < (l1.length : Int) := of_decide_eq_true (by first | (with_reducible assumption) | assumption)
                      obtain ⟨ad150, A150_2, c150_2, e150, hx150_0, hx150_1, hx150_2, hl150_2, hi150_2⟩ := at_T59 HR1.out x13_1 p150 q150
                      have hw150_2 := hx150_2
                      have hw150_1 := hx150_1
                      have hw150_0 := hx150_0
                      cases e150
                      replace hx150_0 := (HB.out.cell (World.block_lt_of_cell? w _ hx150_0)).trans hx150_0
                      replace hx150_1 := (HB.out.cell (World.block_lt_of_cell? w _ hx150_1)).trans hx150_1
                      replace hx150_2 := (HB.out.cell (World.block_lt_of_cell? w _ hx150_2)).trans hx150_2
                      have HR150_2 := Aside0.mk hi150_2
                      have HC150_2 := Aside0.mk hl150_2
                      clear hi150_2 hl150_2
                      replace p150 := eq_true p150
                      replace q150 := eq_true q150
                      have p151 : 0 ≤ (x13_1 : Int) := of_decide_eq_true (by first | (with_reducible assumption) | assumption)
                      have q151 : x13_1 < (l0.length : Int) := of_decide_eq_true (by first | (with_reducible assumption) | assumption)
                      obtain ⟨ad151, A151_2, c151_2, e151, hx151_0, hx151_1, hx151_2, hl151_2, hi151_2⟩ := at_T59 HR0.out x13_1 p151 q151
                      have hw151_2 := hx151_2
                      have hw151_1 := hx151_1
                      have hw151_0 := hx151_0
                      obtain rfl : ad149 = ad151 := (by injection e151)
                      replace hx151_0 := (HB.out.cell (World.block_lt_of_cell? w _ hx151_0)).trans hx151_0
                      replace hx151_1 := (HB.out.cell (World.block_lt_of_cell? w _ hx151_1)).trans hx151_1
                      replace hx151_2 := (HB.out.cell (World.block_lt_of_cell? w _ hx151_2)).trans hx151_2
                      have HR151_2 := Aside0.mk hi151_2
                      have HC151_2 := Aside0.mk hl151_2
                      clear hi151_2 hl151_2
                      replace p151 := eq_true p151
                      replace q151 := eq_true q151
                      have ea_ := Option.some.inj (hx149_2.symm.trans hx151_2)
                      injection ea_ with ea_ en_ ec_
                      subst ea_
                      subst ec_
                      clear en_
                      have p152 : 0 ≤ (x13_1 : Int) := of_decide_eq_true (by first | (with_reducible assumption) | assumption)
                      have q152 : x13_1 < (l1.length : Int) := of_decide_eq_true (by first | (with_reducible assumption) | assumption)
                      obtain ⟨ad152, A152_2, c152_2, e152, hx152_0, hx152_1, hx152_2, hl152_2, hi152_2⟩ := at_T59 HR1.out x13_1 p152 q152
                      have hw152_2 := hx152_2
                      have hw152_1 := hx152_1
                      have hw152_0 := hx152_0
                      obtain rfl : ad150 = ad152 := (by injection e152)
                      replace hx152_0 := (HB.out.cell (World.block_lt_of_cell? w _ hx152_0)).trans hx152_0
                      replace hx152_1 := (HB.out.cell (World.block_lt_of_cell? w _ hx152_1)).trans hx152_1
                      replace hx152_2 := (HB.out.cell (World.block_lt_of_cell? w _ hx152_2)).trans hx152_2
                      have HR152_2 := Aside0.mk hi152_2
                      have HC152_2 := Aside0.mk hl152_2
                      clear hi152_2 hl152_2
                      replace p152 := eq_true p152
                      replace q152 := eq_true q152
                      have ea_ := Option.some.inj (hx150_2.symm.trans hx152_2)
                      injection ea_ with ea_ en_ ec_
                      subst ea_
                      subst ec_
                      clear en_
                      have p153 : 0 ≤ (x13_1 : Int) := of_decide_eq_true (by first | (with_reducible assumption) | assumption)
                      have q153 : x13_1 < (l0.length : Int) := of_decide_eq_true (by first | (with_reducible assumption) | assumption)
                      obtain ⟨ad153, A153_2, c153_2, e153, hx153_0, hx153_1, hx153_2, hl153_2, hi153_2⟩ := at_T59 HR0.out x13_1 p153 q153
                      have hw153_2 := hx153_2
                      have hw153_1 := hx153_1
                      have hw153_0 := hx153_0
                      obtain rfl : ad149 = ad153 := (by injection e153)
                      replace hx153_0 := (HB.out.cell (World.block_lt_of_cell? w _ hx153_0)).trans hx153_0
                      replace hx153_1 := (HB.out.cell (World.block_lt_of_cell? w _ hx153_1)).trans hx153_1
                      replace hx153_2 := (HB.out.cell (World.block_lt_of_cell? w _ hx153_2)).trans hx153_2
                      have HR153_2 := Aside0.mk hi153_2
                      have HC153_2 := Aside0.mk hl153_2
                      clear hi153_2 hl153_2
                      replace p153 := eq_true p153
                      replace q153 := eq_true q153
                      have ea_ := Option.some.inj (hx149_2.symm.trans hx153_2)
                      injection ea_ with ea_ en_ ec_
                      subst ea_
                      subst ec_
                      clear en_
                      have p154 : 0 ≤ (x13_1 : Int) := of_decide_eq_true (by first | (with_reducible assumption) | assumption)
                      have q154 : x13_1 < (l1.length : Int) := of_decide_eq_true (by first | (with_reducible assumption) | assumption)
                      obtain ⟨ad154, A154_2, c154_2, e154, hx154_0, hx154_1, hx154_2, hl154_2, hi154_2⟩ := at_T59 HR1.out x13_1 p154 q154
                      have hw154_2 := hx154_2
                      have hw154_1 := hx154_1
                      have hw154_0 := hx154_0
                      obtain rfl : ad150 = ad154 := (by injection e154)
                      replace hx154_0 := (HB.out.cell (World.block_lt_of_cell? w _ hx154_0)).trans hx154_0
                      replace hx154_1 := (HB.out.cell (World.block_lt_of_cell? w _ hx154_1)).trans hx154_1
                      replace hx154_2 := (HB.out.cell (World.block_lt_of_cell? w _ hx154_2)).trans hx154_2
                      have HR154_2 := Aside0.mk hi154_2
                      have HC154_2 := Aside0.mk hl154_2
                      clear hi154_2 hl154_2
                      replace p154 := eq_true p154
                      replace q154 := eq_true q154
                      have ea_ := Option.some.inj (hx150_2.symm.trans hx154_2)
                      injection ea_ with ea_ en_ ec_
                      subst ea_
                      subst ec_
                      clear en_
                      refine start_ (n := 38) (S := fun w' => w'.cell? (ad149.add ((x13_1).toNat * 3)) = some (.string ((rd_T59 l0 x13_1).f0)) ∧ w'.cell? ⟨(ad149.add ((x13_1).toNat * 3)).block, (ad149.add ((x13_1).toNat * 3)).off + 1, none⟩ = some (.int .i64 ((rd_T59 l0 x13_1).f1)) ∧ w'.cell? ⟨(ad149.add ((x13_1).toNat * 3)).block, (ad149.add ((x13_1).toNat * 3)).off + 2, none⟩ = some (.slice A149_2 ((rd_T59 l0 x13_1).f2).length c149_2) ∧ w'.cell? (ad150.add ((x13_1).toNat * 3)) = some (.string ((rd_T59 l1 x13_1).f0)) ∧ w'.cell? ⟨(ad150.add ((x13_1).toNat * 3)).block, (ad150.add ((x13_1).toNat * 3)).off + 1, none⟩ = some (.int .i64 ((rd_T59 l1 x13_1).f1)) ∧ w'.cell? ⟨(ad150.add ((x13_1).toNat * 3)).block, (ad150.add ((x13_1).toNat * 3)).off + 2, none⟩ = some (.slice A150_2 ((rd_T59 l1 x13_1).f2).length c150_2) ∧ w'.cell? (ad149.add ((x13_1).toNat * 3)) = some (.string ((rd_T59 l0 x13_1).f0)) ∧ w'.cell? ⟨(ad149.add ((x13_1).toNat * 3)).block, (ad149.add ((x13_1).toNat * 3)).off + 1, none⟩ = some (.int .i64 ((rd_T59 l0 x13_1).f1)) ∧ w'.cell? ⟨(ad149.add ((x13_1).toNat * 3)).block, (ad149.add ((x13_1).toNat * 3)).off + 2, none⟩ = some (.slice A149_2 ((rd_T59 l0 x13_1).f2).length c149_2) ∧ w'.cell? (ad150.add ((x13_1).toNat * 3)) = some (.string ((rd_T59 l1 x13_1).f0)) ∧ w'.cell? ⟨(ad150.add ((x13_1).toNat * 3)).block, (ad150.add ((x13_1).toNat * 3)).off + 1, none⟩ = some (.int .i64 ((rd_T59 l1 x13_1).f1)) ∧ w'.cell? ⟨(ad150.add ((x13_1).toNat * 3)).block, (ad150.add ((x13_1).toNat * 3)).off + 2, none⟩ = some (.slice A150_2 ((rd_T59 l1 x13_1).f2).length c150_2) ∧ w'.cell? (ad149.add ((x13_1).toNat * 3)) = some (.string ((rd_T59 l0 x13_1).f0)) ∧ w'.cell? ⟨(ad149.add ((x13_1).toNat * 3)).block, (ad149.add ((x13_1).toNat * 3)).off + 1, none⟩ = some (.int .i64 ((rd_T59 l0 x13_1).f1)) ∧ w'.cell? ⟨(ad149.add ((x13_1).toNat * 3)).block, (ad149.add ((x13_1).toNat * 3)).off + 2, none⟩ = some (.slice A149_2 ((rd_T59 l0 x13_1).f2).length c149_2) ∧ w'.cell? (ad150.add ((x13_1).toNat * 3)) = some (.string ((rd_T59 l1 x13_1).f0)) ∧ w'.cell? ⟨(ad150.add ((x13_1).toNat * 3)).block, (ad150.add ((x13_1).toNat * 3)).off + 1, none⟩ = some (.int .i64 ((rd_T59 l1 x13_1).f1)) ∧ w'.cell? ⟨(ad150.add ((x13_1).toNat * 3)).block, (ad150.add ((x13_1).toNat * 3)).off + 2, none⟩ = some (.slice A150_2 ((rd_T59 l1 x13_1).f2).length c150_2)) (ds := []) #[false, false, false, false, false, false, false, false, false, false, false, false, false, false, false, false, false, false, false, false, false, false, false, false, false, false, false, false, false, false, false, false, false, false, false, false, false, false] (by kernel_rfl) rfl rfl ⟨((HB.out.cell (World.block_lt_of_cell? w _ hw149_0)).trans hw149_0), ((HB.out.cell (World.block_lt_of_cell? w _ hw149_1)).trans hw149_1), ((HB.out.cell (World.block_lt_of_cell? w _ hw149_2)).trans hw149_2), ((HB.out.cell (World.block_lt_of_cell? w _ hw150_0)).trans hw150_0), ((HB.out.cell (World.block_lt_of_cell? w _ hw150_1)).trans hw150_1), ((HB.out.cell (World.block_lt_of_cell? w _ hw150_2)).trans hw150_2), ((HB.out.cell (World.block_lt_of_cell? w _ hw151_0)).trans hw151_0), ((HB.out.cell (World.block_lt_of_cell? w _ hw151_1)).trans hw151_1), ((HB.out.cell (World.block_lt_of_cell? w _ hw151_2)).trans hw151_2), ((HB.out.cell (World.block_lt_of_cell? w _ hw152_0)).trans hw152_0), ((HB.out.cell (World.block_lt_of_cell? w _ hw152_1)).trans hw152_1), ((HB.out.cell (World.block_lt_of_cell? w _ hw152_2)).trans hw152_2), ((HB.out.cell (World.block_lt_of_cell? w _ hw153_0)).trans hw153_0), ((HB.out.cell (World.block_lt_of_cell? w _ hw153_1)).trans hw153_1), ((HB.out.cell (World.block_lt_of_cell? w _ hw153_2)).trans hw153_2), ((HB.out.cell (World.block_lt_of_cell? w _ hw154_0)).trans hw154_0), ((HB.out.cell (World.block_lt_of_cell? w _ hw154_1)).trans hw154_1), ((HB.out.cell (World.block_lt_of_cell? w _ hw154_2)).trans hw154_2)⟩ (fun hHeld => ?_); refine with_tabW provisoplain_SameClasses.tab6 provisoplain_SameClasses.bits6 (fun HT_ HW_ => ?_)
                      generalize wr.drew = w12 at HB HR149_2 HR150_2 HR151_2 HR152_2 HR153_2 HR154_2 hx149_0 hx149_1 hx149_2 hx150_0 hx150_1 hx150_2 hx151_0 hx151_1 hx151_2 hx152_0 hx152_1 hx152_2 hx153_0 hx153_1 hx153_2 hx154_0 hx154_1 hx154_2 hHeld ⊢
                      refine pure_ (i := 0) (N := some 16) (v := ?_) (a' := ?_) #[true, false, false, false, false, false, false, false, false, false, false, false, false, false, false, false, false, false, false, false, false, false, false, false, false, false, false, false, false, false, false, false, false, false, false, false, false, false] rfl rfl (any_of HT_.out (by kernel_rfl)) (fun _ _ _ h => h) (Or.inl ⟨by rfl, ?_⟩) ?_ ?_
                      rotate_left
                      · intro w'
                        go_simp
                        with_reducible rfl
                      rotate_left
                      · simp only [Act.put, List.setIfInBounds_toArray, List.set_cons_zero, List.set_cons_succ, i64_w, i32_w]
                        rfl
                      refine pure_ (i := 1) (N := some 17) (v := ?_) (a' := ?_) #[true, true, false, false, false, false, false, false, false, false, false, false, false, false, false, false, false, false, false, false, false, false, false, false, false, false, false, false, false, false, false, false, false, false, false, false, false, false] rfl rfl (any_of HT_.out (by kernel_rfl)) (fun _ _ _ h => h) (Or.inl ⟨by rfl, ?_⟩) ?_ ?_
                      rotate_left
                      · intro w'
                        go_simp
                        with_reducible rfl
                      rotate_left
                      · simp only [Act.put, List.setIfInBounds_toArray, List.set_cons_zero, List.set_cons_succ, i64_w, i32_w]
                        rfl
                      refine pure_ (i := 2) (N := some 18) (v := ?_) (a' := ?_) #[true, true, true, false, false, false, false, false, false, false, false, false, false, false, false, false, false, false, false, false, false, false, false, false, false, false, false, false, false, false, false, false, false, false, false, false, false, false] rfl rfl (any_of HT_.out (by kernel_rfl)) (fun _ _ _ h => h) (Or.inl ⟨by rfl, ?_⟩) ?_ ?_
                      rotate_left
                      · intro w'
                        go_simp
                        with_reducible rfl
                      rotate_left
                      · simp only [Act.put, List.setIfInBounds_toArray, List.set_cons_zero, List.set_cons_succ, i64_w, i32_w]
                        rfl
                      refine pure_ (i := 3) (N := some 19) (v := ?_) (a' := ?_) #[true, true, true, true, false, false, false, false, false, false, false, false, false, false, false, false, false, false, false, false, false, false, false, false, false, false, false, false, false, false, false, false, false, false, false, false, false, false] rfl rfl (any_of HT_.out (by kernel_rfl)) (fun _ _ _ h => h) (Or.inl ⟨by rfl, ?_⟩) ?_ ?_
                      rotate_left
                      · intro w'
                        go_simp
                        with_reducible rfl
                      rotate_left
                      · simp only [Act.put, List.setIfInBounds_toArray, List.set_cons_zero, List.set_cons_succ, i64_w, i32_w]
                        rfl
                      refine pure_ (i := 5) (N := some 21) (v := ?_) (a' := ?_) #[true, true, true, true, false, true, false, false, false, false, false, false, false, false, false, false, false, false, false, false, false, false, false, false, false, false, false, false, false, false, false, false, false, false, false, false, false, false] rfl rfl (any_of HT_.out (by kernel_rfl)) (fun _ _ _ h => h) (Or.inl ⟨by rfl, ?_⟩) ?_ ?_
                      rotate_left
                      · intro w'
                        go_simp
                        with_reducible rfl
                      rotate_left
                      · simp only [Act.put, List.setIfInBounds_toArray, List.set_cons_zero, List.set_cons_succ, i64_w, i32_w]
                        rfl
                      refine pure_ (i := 6) (N := some 22) (v := ?_) (a' := ?_) #[true, true, true, true, false, true, true, false, false, false, false, false, false, false, false, false, false, false, false, false, false, false, false, false, false, false, false, false, false, false, false, false, false, false, false, false, false, false] rfl rfl (any_of HT_.out (by kernel_rfl)) (fun _ _ _ h => h) (Or.inl ⟨by rfl, ?_⟩) ?_ ?_
                      rotate_left
                      · intro w'
                        go_simp
                        with_reducible rfl
                      rotate_left
                      · simp only [Act.put, List.setIfInBounds_toArray, List.set_cons_zero, List.set_cons_succ, i64_w, i32_w]
                        rfl
                      refine pure_ (i := 7) (N := some 23) (v := ?_) (a' := ?_) #[true, true, true, true, false, true, true, true, false, false, false, false, false, false, false, false, false, false, false, false, false, false, false, false, false, false, false, false, false, false, false, false, false, false, false, false, false, false] rfl rfl (any_of HT_.out (by kernel_rfl)) (fun _ _ _ h => h) (Or.inl ⟨by rfl, ?_⟩) ?_ ?_
                      rotate_left
                      · intro w'
                        go_simp
                        with_reducible rfl
                      rotate_left
                      · simp only [Act.put, List.setIfInBounds_toArray, List.set_cons_zero, List.set_cons_succ, i64_w, i32_w]
                        rfl
                      refine pure_ (i := 8) (N := some 24) (v := ?_) (a' := ?_) #[true, true, true, true, false, true, true, true, true, false, false, false, false, false, false, false, false, false, false, false, false, false, false, false, false, false, false, false, false, false, false, false, false, false, false, false, false, false] rfl rfl (any_of HT_.out (by kernel_rfl)) (fun _ _ _ h => h) (Or.inl ⟨by rfl, ?_⟩) ?_ ?_
                      rotate_left
                      · intro w'
                        go_simp
                        with_reducible rfl
                      rotate_left
                      · simp only [Act.put, List.setIfInBounds_toArray, List.set_cons_zero, List.set_cons_succ, i64_w, i32_w]
                        rfl
                      refine take_ (i := 4) (N := some 20) (v := ?_) (a' := ?_) #[true, true, true, true, true, true, true, true, true, false, false, false, false, false, false, false, false, false, false, false, false, false, false, false, false, false, false, false, false, false, false, false, false, false, false, false, false, false] rfl rfl (take_ofW HT_.out HW_.out (by kernel_rfl)) (fun _ _ _ h => h) (Or.inl ⟨by rfl, ?_⟩) hHeld ?_ ?_
                      rotate_left
                      · rintro w' ⟨s0, s1, s2, s3, s4, s5, s6, s7, s8, s9, s10, s11, s12, s13, s14, s15, s16, s17⟩
                        go_simp
                        with_reducible rfl
                      rotate_left
                      · simp only [Act.put, List.setIfInBounds_toArray, List.set_cons_zero, List.set_cons_succ, i64_w, i32_w]
                        rfl
                      refine take_ (i := 9) (N := some 25) (v := ?_) (a' := ?_) #[true, true, true, true, true, true, true, true, true, true, false, false, false, false, false, false, false, false, false, false, false, false, false, false, false, false, false, false, false, false, false, false, false, false, false, false, false, false] rfl rfl (take_ofW HT_.out HW_.out (by kernel_rfl)) (fun _ _ _ h => h) (Or.inl ⟨by rfl, ?_⟩) hHeld ?_ ?_
                      rotate_left
                      · rintro w' ⟨s0, s1, s2, s3, s4, s5, s6, s7, s8, s9, s10, s11, s12, s13, s14, s15, s16, s17⟩
                        go_simp
                        with_reducible rfl
                      rotate_left
                      · simp only [Act.put, List.setIfInBounds_toArray, List.set_cons_zero, List.set_cons_succ, i64_w, i32_w]
                        rfl
                      refine pure_ (i := 10) (N := some 26) (v := ?_) (a' := ?_) #[true, true, true, true, true, true, true, true, true, true, true, false, false, false, false, false, false, false, false, false, false, false, false, false, false, false, false, false, false, false, false, false, false, false, false, false, false, false] rfl rfl (any_of HT_.out (by kernel_rfl)) (fun _ _ _ h => h) (Or.inl ⟨by rfl, ?_⟩) ?_ ?_
                      rotate_left
                      · intro w'
                        go_simp
                        with_reducible rfl
                      rotate_left
                      · simp only [Act.put, List.setIfInBounds_toArray, List.set_cons_zero, List.set_cons_succ, i64_w, i32_w]
                        rfl
                      refine pure_ (i := 11) (N := some 27) (v := ?_) (a' := ?_) #[true, true, true, true, true, true, true, true, true, true, true, true, false, false, false, false, false, false, false, false, false, false, false, false, false, false, false, false, false, false, false, false, false, false, false, false, false, false] rfl rfl (any_of HT_.out (by kernel_rfl)) (fun _ _ _ h => h) (Or.inl ⟨by rfl, ?_⟩) ?_ ?_
                      rotate_left
                      · intro w'
                        go_simp
                        with_reducible rfl
                      rotate_left
                      · simp only [Act.put, List.setIfInBounds_toArray, List.set_cons_zero, List.set_cons_succ, i64_w, i32_w]
                        rfl
                      refine pure_ (i := 12) (N := some 28) (v := ?_) (a' := ?_) #[true, true, true, true, true, true, true, true, true, true, true, true, true, false, false, false, false, false, false, false, false, false, false, false, false, false, false, false, false, false, false, false, false, false, false, false, false, false] rfl rfl (any_of HT_.out (by kernel_rfl)) (fun _ _ _ h => h) (Or.inl ⟨by rfl, ?_⟩) ?_ ?_
                      rotate_left
                      · intro w'
                        go_simp
                        with_reducible rfl
                      rotate_left
                      · simp only [Act.put, List.setIfInBounds_toArray, List.set_cons_zero, List.set_cons_succ, i64_w, i32_w]
                        rfl
                      refine pure_ (i := 13) (N := some 29) (v := ?_) (a' := ?_) #[true, true, true, true, true, true, true, true, true, true, true, true, true, true, false, false, false, false, false, false, false, false, false, false, false, false, false, false, false, false, false, false, false, false, false, false, false, false] rfl rfl (any_of HT_.out (by kernel_rfl)) (fun _ _ _ h => h) (Or.inl ⟨by rfl, ?_⟩) ?_ ?_
                      rotate_left
                      · intro w'
                        go_simp
                        with_reducible rfl
                      rotate_left
                      · simp only [Act.put, List.setIfInBounds_toArray, List.set_cons_zero, List.set_cons_succ, i64_w, i32_w]
                        rfl
                      refine pure_ (i := 14) (N := some 30) (v := ?_) (a' := ?_) #[true, true, true, true, true, true, true, true, true, true, true, true, true, true, true, false, false, false, false, false, false, false, false, false, false, false, false, false, false, false, false, false, false, false, false, false, false, false] rfl rfl (any_of HT_.out (by kernel_rfl)) (fun _ _ _ h => h) (Or.inl ⟨by rfl, ?_⟩) ?_ ?_
                      rotate_left
                      · intro w'
                        go_simp
                        with_reducible rfl
                      rotate_left
                      · simp only [Act.put, List.setIfInBounds_toArray, List.set_cons_zero, List.set_cons_succ, i64_w, i32_w]
                        rfl
                      refine pure_ (i := 15) (N := some 31) (v := ?_) (a' := ?_) #[true, true, true, true, true, true, true, true, true, true, true, true, true, true, true, true, false, false, false, false, false, false, false, false, false, false, false, false, false, false, false, false, false, false, false, false, false, false] rfl rfl (any_of HT_.out (by kernel_rfl)) (fun _ _ _ h => h) (Or.inl ⟨by rfl, ?_⟩) ?_ ?_
                      rotate_left
                      · intro w'
                        go_simp
                        with_reducible rfl
                      rotate_left
                      · simp only [Act.put, List.setIfInBounds_toArray, List.set_cons_zero, List.set_cons_succ, i64_w, i32_w]
                        rfl
                      refine pure_ (i := 17) (N := some 33) (v := ?_) (a' := ?_) #[true, true, true, true, true, true, true, true, true, true, true, true, true, true, true, true, false, true, false, false, false, false, false, false, false, false, false, false, false, false, false, false, false, false, false, false, false, false] rfl rfl (any_of HT_.out (by kernel_rfl)) (fun _ _ _ h => h) (Or.inl ⟨by rfl, ?_⟩) ?_ ?_
                      rotate_left
                      · intro w'
                        go_simp
                        with_reducible rfl
                      rotate_left
                      · simp only [Act.put, List.setIfInBounds_toArray, List.set_cons_zero, List.set_cons_succ, i64_w, i32_w]
                        rfl
                      refine pure_ (i := 18) (N := some 34) (v := ?_) (a' := ?_) #[true, true, true, true, true, true, true, true, true, true, true, true, true, true, true, true, false, true, true, false, false, false, false, false, false, false, false, false, false, false, false, false, false, false, false, false, false, false] rfl rfl (any_of HT_.out (by kernel_rfl)) (fun _ _ _ h => h) (Or.inl ⟨by rfl, ?_⟩) ?_ ?_
                      rotate_left
                      · intro w'
                        go_simp
                        with_reducible rfl
                      rotate_left
                      · simp only [Act.put, List.setIfInBounds_toArray, List.set_cons_zero, List.set_cons_succ, i64_w, i32_w]
                        rfl
                      refine pure_ (i := 19) (N := some 35) (v := ?_) (a' := ?_) #[true, true, true, true, true, true, true, true, true, true, true, true, true, true, true, true, false, true, true, true, false, false, false, false, false, false, false, false, false, false, false, false, false, false, false, false, false, false] rfl rfl (any_of HT_.out (by kernel_rfl)) (fun _ _ _ h => h) (Or.inl ⟨by rfl, ?_⟩) ?_ ?_
                      rotate_left
                      · intro w'
                        go_simp
                        with_reducible rfl
                      rotate_left
                      · simp only [Act.put, List.setIfInBounds_toArray, List.set_cons_zero, List.set_cons_succ, i64_w, i32_w]
                        rfl
                      refine pure_ (i := 20) (N := some 36) (v := ?_) (a' := ?_) #[true, true, true, true, true, true, true, true, true, true, true, true, true, true, true, true, false, true, true, true, true, false, false, false, false, false, false, false, false, false, false, false, false, false, false, false, false, false] rfl rfl (any_of HT_.out (by kernel_rfl)) (fun _ _ _ h => h) (Or.inl ⟨by rfl, ?_⟩) ?_ ?_
                      rotate_left
                      · intro w'
                        go_simp
                        with_reducible rfl
                      rotate_left
                      · simp only [Act.put, List.setIfInBounds_toArray, List.set_cons_zero, List.set_cons_succ, i64_w, i32_w]
                        rfl
                      refine take_ (i := 16) (N := some 32) (v := ?_) (a' := ?_) #[true, true, true, true, true, true, true, true, true, true, true, true, true, true, true, true, true, true, true, true, true, false, false, false, false, false, false, false, false, false, false, false, false, false, false, false, false, false] rfl rfl (take_ofW HT_.out HW_.out (by kernel_rfl)) (fun _ _ _ h => h) (Or.inl ⟨by rfl, ?_⟩) hHeld ?_ ?_
                      rotate_left
                      · rintro w' ⟨s0, s1, s2, s3, s4, s5, s6, s7, s8, s9, s10, s11, s12, s13, s14, s15, s16, s17⟩
                        go_simp
                        with_reducible rfl
                      rotate_left
                      · simp only [Act.put, List.setIfInBounds_toArray, List.set_cons_zero, List.set_cons_succ, i64_w, i32_w]
                        rfl
                      refine take_ (i := 21) (N := some 37) (v := ?_) (a' := ?_) #[true, true, true, true, true, true, true, true, true, true, true, true, true, true, true, true, true, true, true, true, true, true, false, false, false, false, false, false, false, false, false, false, false, false, false, false, false, false] rfl rfl (take_ofW HT_.out HW_.out (by kernel_rfl)) (fun _ _ _ h => h) (Or.inl ⟨by rfl, ?_⟩) hHeld ?_ ?_
                      rotate_left
                      · rintro w' ⟨s0, s1, s2, s3, s4, s5, s6, s7, s8, s9, s10, s11, s12, s13, s14, s15, s16, s17⟩
                        go_simp
                        with_reducible rfl
                      rotate_left
                      · simp only [Act.put, List.setIfInBounds_toArray, List.set_cons_zero, List.set_cons_succ, i64_w, i32_w]
                        rfl
                      refine pure_ (i := 22) (N := some 38) (v := ?_) (a' := ?_) #[true, true, true, true, true, true, true, true, true, true, true, true, true, true, true, true, true, true, true, true, true, true, true, false, false, false, false, false, false, false, false, false, false, false, false, false, false, false] rfl rfl (any_of HT_.out (by kernel_rfl)) (fun _ _ _ h => h) (Or.inl ⟨by rfl, ?_⟩) ?_ ?_
                      rotate_left
                      · intro w'
                        go_simp
                        with_reducible rfl
                      rotate_left
                      · simp only [Act.put, List.setIfInBounds_toArray, List.set_cons_zero, List.set_cons_succ, i64_w, i32_w]
                        rfl
                      refine pure_ (i := 23) (N := some 39) (v := ?_) (a' := ?_) #[true, true, true, true, true, true, true, true, true, true, true, true, true, true, true, true, true, true, true, true, true, true, true, true, false, false, false, false, false, false, false, false, false, false, false, false, false, false] rfl rfl (any_of HT_.out (by kernel_rfl)) (fun _ _ _ h => h) (Or.inl ⟨by rfl, ?_⟩) ?_ ?_
                      rotate_left
                      · intro w'
                        go_simp
                        with_reducible rfl
                      rotate_left
                      · simp only [Act.put, List.setIfInBounds_toArray, List.set_cons_zero, List.set_cons_succ, i64_w, i32_w]
                        rfl
                      refine pure_ (i := 24) (N := some 40) (v := ?_) (a' := ?_) #[true, true, true, true, true, true, true, true, true, true, true, true, true, true, true, true, true, true, true, true, true, true, true, true, true, false, false, false, false, false, false, false, false, false, false, false, false, false] rfl rfl (any_of HT_.out (by kernel_rfl)) (fun _ _ _ h => h) (Or.inl ⟨by rfl, ?_⟩) ?_ ?_
                      rotate_left
                      · intro w'
                        go_simp
                        with_reducible rfl
                      rotate_left
                      · simp only [Act.put, List.setIfInBounds_toArray, List.set_cons_zero, List.set_cons_succ, i64_w, i32_w]
                        rfl
                      refine pure_ (i := 25) (N := some 41) (v := ?_) (a' := ?_) #[true, true, true, true, true, true, true, true, true, true, true, true, true, true, true, true, true, true, true, true, true, true, true, true, true, true, false, false, false, false, false, false, false, false, false, false, false, false] rfl rfl (any_of HT_.out (by kernel_rfl)) (fun _ _ _ h => h) (Or.inl ⟨by rfl, ?_⟩) ?_ ?_
                      rotate_left
                      · intro w'
                        go_simp
                        with_reducible rfl
                      rotate_left
                      · simp only [Act.put, List.setIfInBounds_toArray, List.set_cons_zero, List.set_cons_succ, i64_w, i32_w]
                        rfl
                      refine pure_ (i := 26) (N := some 42) (v := ?_) (a' := ?_) #[true, true, true, true, true, true, true, true, true, true, true, true, true, true, true, true, true, true, true, true, true, true, true, true, true, true, true, false, false, false, false, false, false, false, false, false, false, false] rfl rfl (any_of HT_.out (by kernel_rfl)) (fun _ _ _ h => h) (Or.inl ⟨by rfl, ?_⟩) ?_ ?_
                      rotate_left
                      · intro w'
                        go_simp
                        with_reducible rfl
                      rotate_left
                      · simp only [Act.put, List.setIfInBounds_toArray, List.set_cons_zero, List.set_cons_succ, i64_w, i32_w]
                        rfl
                      refine pure_ (i := 27) (N := some 43) (v := ?_) (a' := ?_) #[true, true, true, true, true, true, true, true, true, true, true, true, true, true, true, true, true, true, true, true, true, true, true, true, true, true, true, true, false, false, false, false, false, false, false, false, false, false] rfl rfl (any_of HT_.out (by kernel_rfl)) (fun _ _ _ h => h) (Or.inl ⟨by rfl, ?_⟩) ?_ ?_
                      rotate_left
                      · intro w'
                        go_simp
                        with_reducible rfl
                      rotate_left
                      · simp only [Act.put, List.setIfInBounds_toArray, List.set_cons_zero, List.set_cons_succ, i64_w, i32_w]
                        rfl
                      refine pure_ (i := 28) (N := some 44) (v := ?_) (a' := ?_) #[true, true, true, true, true, true, true, true, true, true, true, true, true, true, true, true, true, true, true, true, true, true, true, true, true, true, true, true, true, false, false, false, false, false, false, false, false, false] rfl rfl (any_of HT_.out (by kernel_rfl)) (fun _ _ _ h => h) (Or.inl ⟨by rfl, ?_⟩) ?_ ?_
                      rotate_left
                      · intro w'
                        go_simp
                        with_reducible rfl
                      rotate_left
                      · simp only [Act.put, List.setIfInBounds_toArray, List.set_cons_zero, List.set_cons_succ, i64_w, i32_w]
                        rfl
                      refine pure_ (i := 30) (N := some 46) (v := ?_) (a' := ?_) #[true, true, true, true, true, true, true, true, true, true, true, true, true, true, true, true, true, true, true, true, true, true, true, true, true, true, true, true, true, false, true, false, false, false, false, false, false, false] rfl rfl (any_of HT_.out (by kernel_rfl)) (fun _ _ _ h => h) (Or.inl ⟨by rfl, ?_⟩) ?_ ?_
                      rotate_left
                      · intro w'
                        go_simp
                        with_reducible rfl
                      rotate_left
                      · simp only [Act.put, List.setIfInBounds_toArray, List.set_cons_zero, List.set_cons_succ, i64_w, i32_w]
                        rfl
                      refine pure_ (i := 31) (N := some 47) (v := ?_) (a' := ?_) #[true, true, true, true, true, true, true, true, true, true, true, true, true, true, true, true, true, true, true, true, true, true, true, true, true, true, true, true, true, false, true, true, false, false, false, false, false, false] rfl rfl (any_of HT_.out (by kernel_rfl)) (fun _ _ _ h => h) (Or.inl ⟨by rfl, ?_⟩) ?_ ?_
                      rotate_left
                      · intro w'
                        go_simp
                        with_reducible rfl
                      rotate_left
                      · simp only [Act.put, List.setIfInBounds_toArray, List.set_cons_zero, List.set_cons_succ, i64_w, i32_w]
                        rfl
                      refine pure_ (i := 32) (N := some 48) (v := ?_) (a' := ?_) #[true, true, true, true, true, true, true, true, true, true, true, true, true, true, true, true, true, true, true, true, true, true, true, true, true, true, true, true, true, false, true, true, true, false, false, false, false, false] rfl rfl (any_of HT_.out (by kernel_rfl)) (fun _ _ _ h => h) (Or.inl ⟨by rfl, ?_⟩) ?_ ?_
                      rotate_left
                      · intro w'
                        go_simp
                        with_reducible rfl
                      rotate_left
                      · simp only [Act.put, List.setIfInBounds_toArray, List.set_cons_zero, List.set_cons_succ, i64_w, i32_w]
                        rfl
                      refine pure_ (i := 33) (N := some 49) (v := ?_) (a' := ?_) #[true, true, true, true, true, true, true, true, true, true, true, true, true, true, true, true, true, true, true, true, true, true, true, true, true, true, true, true, true, false, true, true, true, true, false, false, false, false] rfl rfl (any_of HT_.out (by kernel_rfl)) (fun _ _ _ h => h) (Or.inl ⟨by rfl, ?_⟩) ?_ ?_
                      rotate_left
                      · intro w'
                        go_simp
                        with_reducible rfl
                      rotate_left
                      · simp only [Act.put, List.setIfInBounds_toArray, List.set_cons_zero, List.set_cons_succ, i64_w, i32_w]
                        rfl
                      refine take_ (i := 29) (N := some 45) (v := ?_) (a' := ?_) #[true, true, true, true, true, true, true, true, true, true, true, true, true, true, true, true, true, true, true, true, true, true, true, true, true, true, true, true, true, true, true, true, true, true, false, false, false, false] rfl rfl (take_ofW HT_.out HW_.out (by kernel_rfl)) (fun _ _ _ h => h) (Or.inl ⟨by rfl, ?_⟩) hHeld ?_ ?_
                      rotate_left
                      · rintro w' ⟨s0, s1, s2, s3, s4, s5, s6, s7, s8, s9, s10, s11, s12, s13, s14, s15, s16, s17⟩
                        go_simp
                        with_reducible rfl
                      rotate_left
                      · simp only [Act.put, List.setIfInBounds_toArray, List.set_cons_zero, List.set_cons_succ, i64_w, i32_w]
                        rfl
                      refine take_ (i := 34) (N := some 50) (v := ?_) (a' := ?_) #[true, true, true, true, true, true, true, true, true, true, true, true, true, true, true, true, true, true, true, true, true, true, true, true, true, true, true, true, true, true, true, true, true, true, true, false, false, false] rfl rfl (take_ofW HT_.out HW_.out (by kernel_rfl)) (fun _ _ _ h => h) (Or.inl ⟨by rfl, ?_⟩) hHeld ?_ ?_
                      rotate_left
                      · rintro w' ⟨s0, s1, s2, s3, s4, s5, s6, s7, s8, s9, s10, s11, s12, s13, s14, s15, s16, s17⟩
                        go_simp
                        with_reducible rfl
                      rotate_left
                      · simp only [Act.put, List.setIfInBounds_toArray, List.set_cons_zero, List.set_cons_succ, i64_w, i32_w]
                        rfl
                      refine one_ (i := 35) (N := some 51) #[true, true, true, true, true, true, true, true, true, true, true, true, true, true, true, true, true, true, true, true, true, true, true, true, true, true, true, true, true, true, true, true, true, true, true, true, false, false] rfl rfl (one_of HT_.out (by kernel_rfl)) (by decide) (fun K hK => ?_)
                      refine goes_ Try.func44 (by kernel_rfl) rfl #[.slice A149_2 ((rd_T59 l0 x13_1).f2).length c149_2, .slice A150_2 ((rd_T59 l1 x13_1).f2).length c150_2] (by rfl) rfl rfl (by (try simp only [List.map_toArray, List.map_cons, List.map_nil]); first | done | rfl | (simp only [List.length_drop, List.length_take]; rfl)) ?_
                      with_reducible refine (api_Field_44.calls k1 _ _ ((rd_T59 l0 x13_1).f2) _ _ ((rd_T59 l1 x13_1).f2) true _ ?side1 ?side2 ?side3 ?side4 A10.out).mono ?_
                      (case side1 => repeat (first | exact (Kd.C_below HR153_2.out HB.out) | (with_reducible refine Kd.C_alloc ?_ _) | (with_reducible refine Kd.C_drewN ?_ _) | (with_reducible refine Kd.C_drew ?_)))
                      (case side2 => exact HC153_2.out)
                      (case side3 => repeat (first | exact (Kd.C_below HR154_2.out HB.out) | (with_reducible refine Kd.C_alloc ?_ _) | (with_reducible refine Kd.C_drewN ?_ _) | (with_reducible refine Kd.C_drew ?_)))
                      (case side4 => exact HC154_2.out)
                      rintro e w' ⟨rfl, ⟨nd, rfl⟩⟩
                      refine ⟨_, rfl, ?_⟩
                      refine hK.out _ _ ⟨((HB.out.cell (World.block_lt_of_cell? w _ hw149_0)).trans hw149_0), ((HB.out.cell (World.block_lt_of_cell? w _ hw149_1)).trans hw149_1), ((HB.out.cell (World.block_lt_of_cell? w _ hw149_2)).trans hw149_2), ((HB.out.cell (World.block_lt_of_cell? w _ hw150_0)).trans hw150_0), ((HB.out.cell (World.block_lt_of_cell? w _ hw150_1)).trans hw150_1), ((HB.out.cell (World.block_lt_of_cell? w _ hw150_2)).trans hw150_2), ((HB.out.cell (World.block_lt_of_cell? w _ hw151_0)).trans hw151_0), ((HB.out.cell (World.block_lt_of_cell? w _ hw151_1)).trans hw151_1), ((HB.out.cell (World.block_lt_of_cell? w _ hw151_2)).trans hw151_2), ((HB.out.cell (World.block_lt_of_cell? w _ hw152_0)).trans hw152_0), ((HB.out.cell (World.block_lt_of_cell? w _ hw152_1)).trans hw152_1), ((HB.out.cell (World.block_lt_of_cell? w _ hw152_2)).trans hw152_2), ((HB.out.cell (World.block_lt_of_cell? w _ hw153_0)).trans hw153_0), ((HB.out.cell (World.block_lt_of_cell? w _ hw153_1)).trans hw153_1), ((HB.out.cell (World.block_lt_of_cell? w _ hw153_2)).trans hw153_2), ((HB.out.cell (World.block_lt_of_cell? w _ hw154_0)).trans hw154_0), ((HB.out.cell (World.block_lt_of_cell? w _ hw154_1)).trans hw154_1), ((HB.out.cell (World.block_lt_of_cell? w _ hw154_2)).trans hw154_2)⟩ (fun hHeld => ?_)
                      clear hK K
                      refine norm_ (a' := ?_) ?_ ?_
                      rotate_left
                      · show Act.put _ (some 51) _ = _
                        simp only [Act.put, List.setIfInBounds_toArray, List.set_cons_zero, List.set_cons_succ, i64_w, i32_w]
                        rfl
                      refine pure_ (i := 36) (N := some 52) (v := ?_) (a' := ?_) #[true, true, true, true, true, true, true, true, true, true, true, true, true, true, true, true, true, true, true, true, true, true, true, true, true, true, true, true, true, true, true, true, true, true, true, true, true, false] rfl rfl (any_of HT_.out (by kernel_rfl)) (fun _ _ _ h => h) (Or.inl ⟨by rfl, ?_⟩) ?_ ?_
                      rotate_left
                      · intro w'
                        go_simp
                        with_reducible rfl
                      rotate_left
                      · simp only [Act.put, List.setIfInBounds_toArray, List.set_cons_zero, List.set_cons_succ, i64_w, i32_w]
                        rfl
                      refine pure_ (i := 37) (N := some 53) (v := ?_) (a' := ?_) #[true, true, true, true, true, true, true, true, true, true, true, true, true, true, true, true, true, true, true, true, true, true, true, true, true, true, true, true, true, true, true, true, true, true, true, true, true, true] rfl rfl (any_of HT_.out (by kernel_rfl)) (fun _ _ _ h => h) (Or.inl ⟨by rfl, ?_⟩) ?_ ?_
                      rotate_left
                      · intro w'
                        go_simp
                        with_reducible rfl
                      rotate_left
                      · simp only [Act.put, List.setIfInBounds_toArray, List.set_cons_zero, List.set_cons_succ, i64_w, i32_w]
                        rfl
                      refine done_ (done_of HT_.out (by kernel_rfl)) ?_
                      try go_wp2
                      go_roundg k1
                      case measure => have := HK1.out; omega
                      case rel => exact ⟨(wrap64 (x13_1 + 1)), (by first | rfl | (simp; done) | (simp [*]; done)), H', ⟨by have := HK1.out; omega⟩, ⟨by repeat (first | (with_reducible first | exact HB.out | apply below_alloc | apply pw_below_drewN | apply below_drew1) | exact HB.out)⟩⟩
                    · replace c11 := Bool.eq_false_iff.mpr c11
                      subst c11
                      have H1 : (some false) = some r := by rw [if_neg (show ¬ (false = true) by decide)] at H; exact H
                      clear H
                      have H := H1
                      clear H1
                      obtain rfl := Option.some.inj H
                      try go_wp2
                      have n0_ := Aside0.mk (below_drew1 HB.out)
                      clear HB
                      have HB := n0_
                      clear n0_
                      have p149 : 0 ≤ (x13_1 : Int) := of_decide_eq_true (by first | (with_reducible assumption) | assumption)
                      have q149 : x13_1 < (l0.length : Int) := of_decide_eq_true (by first | (with_reducible assumption) | assumption)
                      obtain ⟨ad149, A149_2, c149_2, e149, hx149_0, hx149_1, hx149_2, hl149_2, hi149_2⟩ := at_T59 HR0.out x13_1 p149 q149
                      have hw149_2 := hx149_2
                      have hw149_1 := hx149_1
                      have hw149_0 := hx149_0
                      cases e149
                      replace hx149_0 := (HB.out.cell (World.block_lt_of_cell? w _ hx149_0)).trans hx149_0
                      replace hx149_1 := (HB.out.cell (World.block_lt_of_cell? w _ hx149_1)).trans hx149_1
                      replace hx149_2 := (HB.out.cell (World.block_lt_of_cell? w _ hx149_2)).trans hx149_2
                      have HR149_2 := Aside0.mk hi149_2
                      have HC149_2 := Aside0.mk hl149_2
                      clear hi149_2 hl149_2
                      replace p149 := eq_true p149
                      replace q149 := eq_true q149
                      have p150 : 0 ≤ (x13_1 : Int) := of_decide_eq_true (by first | (with_reducible assumption) | assumption)
                      have q150 : x13_1 < (l1.length : Int) := of_decide_eq_true (by first | (with_reducible assumption) | assumption)
                      obtain ⟨ad150, A150_2, c150_2, e150, hx150_0, hx150_1, hx150_2, hl150_2, hi150_2⟩ := at_T59 HR1.out x13_1 p150 q150
                      have hw150_2 := hx150_2
                      have hw150_1 := hx150_1
                      have hw150_0 := hx150_0
                      cases e150
                      replace hx150_0 := (HB.out.cell (World.block_lt_of_cell? w _ hx150_0)).trans hx150_0
                      replace hx150_1 := (HB.out.cell (World.block_lt_of_cell? w _ hx150_1)).trans hx150_1
                      replace hx150_2 := (HB.out.cell (World.block_lt_of_cell? w _ hx150_2)).trans hx150_2
                      have HR150_2 := Aside0.mk hi150_2
                      have HC150_2 := Aside0.mk hl150_2
                      clear hi150_2 hl150_2
                      replace p150 := eq_true p150
                      replace q150 := eq_true q150
                      have p151 : 0 ≤ (x13_1 : Int) := of_decide_eq_true (by first | (with_reducible assumption) | assumption)
                      have q151 : x13_1 < (l0.length : Int) := of_decide_eq_true (by first | (with_reducible assumption) | assumption)
                      obtain ⟨ad151, A151_2, c151_2, e151, hx151_0, hx151_1, hx151_2, hl151_2, hi151_2⟩ := at_T59 HR0.out x13_1 p151 q151
                      have hw151_2 := hx151_2
                      have hw151_1 := hx151_1
                      have hw151_0 := hx151_0
                      obtain rfl : ad149 = ad151 := (by injection e151)
                      replace hx151_0 := (HB.out.cell (World.block_lt_of_cell? w _ hx151_0)).trans hx151_0
                      replace hx151_1 := (HB.out.cell (World.block_lt_of_cell? w _ hx151_1)).trans hx151_1
                      replace hx151_2 := (HB.out.cell (World.block_lt_of_cell? w _ hx151_2)).trans hx151_2
                      have HR151_2 := Aside0.mk hi151_2
                      have HC151_2 := Aside0.mk hl151_2
                      clear hi151_2 hl151_2
                      replace p151 := eq_true p151
                      replace q151 := eq_true q151
                      have ea_ := Option.some.inj (hx149_2.symm.trans hx151_2)
                      injection ea_ with ea_ en_ ec_
                      subst ea_
                      subst ec_
                      clear en_
                      have p152 : 0 ≤ (x13_1 : Int) := of_decide_eq_true (by first | (with_reducible assumption) | assumption)
                      have q152 : x13_1 < (l1.length : Int) := of_decide_eq_true (by first | (with_reducible assumption) | assumption)
                      obtain ⟨ad152, A152_2, c152_2, e152, hx152_0, hx152_1, hx152_2, hl152_2, hi152_2⟩ := at_T59 HR1.out x13_1 p152 q152
                      have hw152_2 := hx152_2
                      have hw152_1 := hx152_1
                      have hw152_0 := hx152_0
                      obtain rfl : ad150 = ad152 := (by injection e152)
                      replace hx152_0 := (HB.out.cell (World.block_lt_of_cell? w _ hx152_0)).trans hx152_0
                      replace hx152_1 := (HB.out.cell (World.block_lt_of_cell? w _ hx152_1)).trans hx152_1
                      replace hx152_2 := (HB.out.cell (World.block_lt_of_cell? w _ hx152_2)).trans hx152_2
                      have HR152_2 := Aside0.mk hi152_2
                      have HC152_2 := Aside0.mk hl152_2
                      clear hi152_2 hl152_2
                      replace p152 := eq_true p152
                      replace q152 := eq_true q152
                      have ea_ := Option.some.inj (hx150_2.symm.trans hx152_2)
                      injection ea_ with ea_ en_ ec_
                      subst ea_
                      subst ec_
                      clear en_
                      have p153 : 0 ≤ (x13_1 : Int) := of_decide_eq_true (by first | (with_reducible assumption) | assumption)
                      have q153 : x13_1 < (l0.length : Int) := of_decide_eq_true (by first | (with_reducible assumption) | assumption)
                      obtain ⟨ad153, A153_2, c153_2, e153, hx153_0, hx153_1, hx153_2, hl153_2, hi153_2⟩ := at_T59 HR0.out x13_1 p153 q153
                      have hw153_2 := hx153_2
                      have hw153_1 := hx153_1
                      have hw153_0 := hx153_0
                      obtain rfl : ad149 = ad153 := (by injection e153)
                      replace hx153_0 := (HB.out.cell (World.block_lt_of_cell? w _ hx153_0)).trans hx153_0
                      replace hx153_1 := (HB.out.cell (World.block_lt_of_cell? w _ hx153_1)).trans hx153_1
                      replace hx153_2 := (HB.out.cell (World.block_lt_of_cell? w _ hx153_2)).trans hx153_2
                      have HR153_2 := Aside0.mk hi153_2
                      have HC153_2 := Aside0.mk hl153_2
                      clear hi153_2 hl153_2
                      replace p153 := eq_true p153
                      replace q153 := eq_true q153
                      have ea_ := Option.some.inj (hx149_2.symm.trans hx153_2)
                      injection ea_ with ea_ en_ ec_
                      subst ea_
                      subst ec_
                      clear en_
                      have p154 : 0 ≤ (x13_1 : Int) := of_decide_eq_true (by first | (with_reducible assumption) | assumption)
                      have q154 : x13_1 < (l1.length : Int) := of_decide_eq_true (by first | (with_reducible assumption) | assumption)
                      obtain ⟨ad154, A154_2, c154_2, e154, hx154_0, hx154_1, hx154_2, hl154_2, hi154_2⟩ := at_T59 HR1.out x13_1 p154 q154
                      have hw154_2 := hx154_2
                      have hw154_1 := hx154_1
                      have hw154_0 := hx154_0
                      obtain rfl : ad150 = ad154 := (by injection e154)
                      replace hx154_0 := (HB.out.cell (World.block_lt_of_cell? w _ hx154_0)).trans hx154_0
                      replace hx154_1 := (HB.out.cell (World.block_lt_of_cell? w _ hx154_1)).trans hx154_1
                      replace hx154_2 := (HB.out.cell (World.block_lt_of_cell? w _ hx154_2)).trans hx154_2
                      have HR154_2 := Aside0.mk hi154_2
                      have HC154_2 := Aside0.mk hl154_2
                      clear hi154_2 hl154_2
                      replace p154 := eq_true p154
                      replace q154 := eq_true q154
                      have ea_ := Option.some.inj (hx150_2.symm.trans hx154_2)
                      injection ea_ with ea_ en_ ec_
                      subst ea_
                      subst ec_
                      clear en_
                      refine start_ (n := 38) (S := fun w' => w'.cell? (ad149.add ((x13_1).toNat * 3)) = some (.string ((rd_T59 l0 x13_1).f0)) ∧ w'.cell? ⟨(ad149.add ((x13_1).toNat * 3)).block, (ad149.add ((x13_1).toNat * 3)).off + 1, none⟩ = some (.int .i64 ((rd_T59 l0 x13_1).f1)) ∧ w'.cell? ⟨(ad149.add ((x13_1).toNat * 3)).block, (ad149.add ((x13_1).toNat * 3)).off + 2, none⟩ = some (.slice A149_2 ((rd_T59 l0 x13_1).f2).length c149_2) ∧ w'.cell? (ad150.add ((x13_1).toNat * 3)) = some (.string ((rd_T59 l1 x13_1).f0)) ∧ w'.cell? ⟨(ad150.add ((x13_1).toNat * 3)).block, (ad150.add ((x13_1).toNat * 3)).off + 1, none⟩ = some (.int .i64 ((rd_T59 l1 x13_1).f1)) ∧ w'.cell? ⟨(ad150.add ((x13_1).toNat * 3)).block, (ad150.add ((x13_1).toNat * 3)).off + 2, none⟩ = some (.slice A150_2 ((rd_T59 l1 x13_1).f2).length c150_2) ∧ w'.cell? (ad149.add ((x13_1).toNat * 3)) = some (.string ((rd_T59 l0 x13_1).f0)) ∧ w'.cell? ⟨(ad149.add ((x13_1).toNat * 3)).block, (ad149.add ((x13_1).toNat * 3)).off + 1, none⟩ = some (.int .i64 ((rd_T59 l0 x13_1).f1)) ∧ w'.cell? ⟨(ad149.add ((x13_1).toNat * 3)).block, (ad149.add ((x13_1).toNat * 3)).off + 2, none⟩ = some (.slice A149_2 ((rd_T59 l0 x13_1).f2).length c149_2) ∧ w'.cell? (ad150.add ((x13_1).toNat * 3)) = some (.string ((rd_T59 l1 x13_1).f0)) ∧ w'.cell? ⟨(ad150.add ((x13_1).toNat * 3)).block, (ad150.add ((x13_1).toNat * 3)).off + 1, none⟩ = some (.int .i64 ((rd_T59 l1 x13_1).f1)) ∧ w'.cell? ⟨(ad150.add ((x13_1).toNat * 3)).block, (ad150.add ((x13_1).toNat * 3)).off + 2, none⟩ = some (.slice A150_2 ((rd_T59 l1 x13_1).f2).length c150_2) ∧ w'.cell? (ad149.add ((x13_1).toNat * 3)) = some (.string ((rd_T59 l0 x13_1).f0)) ∧ w'.cell? ⟨(ad149.add ((x13_1).toNat * 3)).block, (ad149.add ((x13_1).toNat * 3)).off + 1, none⟩ = some (.int .i64 ((rd_T59 l0 x13_1).f1)) ∧ w'.cell? ⟨(ad149.add ((x13_1).toNat * 3)).block, (ad149.add ((x13_1).toNat * 3)).off + 2, none⟩ = some (.slice A149_2 ((rd_T59 l0 x13_1).f2).length c149_2) ∧ w'.cell? (ad150.add ((x13_1).toNat * 3)) = some (.string ((rd_T59 l1 x13_1).f0)) ∧ w'.cell? ⟨(ad150.add ((x13_1).toNat * 3)).block, (ad150.add ((x13_1).toNat * 3)).off + 1, none⟩ = some (.int .i64 ((rd_T59 l1 x13_1).f1)) ∧ w'.cell? ⟨(ad150.add ((x13_1).toNat * 3)).block, (ad150.add ((x13_1).toNat * 3)).off + 2, none⟩ = some (.slice A150_2 ((rd_T59 l1 x13_1).f2).length c150_2)) (ds := []) #[false, false, false, false, false, false, false, false, false, false, false, false, false, false, false, false, false, false, false, false, false, false, false, false, false, false, false, false, false, false, false, false, false, false, false, false, false, false] (by kernel_rfl) rfl rfl ⟨((HB.out.cell (World.block_lt_of_cell? w _ hw149_0)).trans hw149_0), ((HB.out.cell (World.block_lt_of_cell? w _ hw149_1)).trans hw149_1), ((HB.out.cell (World.block_lt_of_cell? w _ hw149_2)).trans hw149_2), ((HB.out.cell (World.block_lt_of_cell? w _ hw150_0)).trans hw150_0), ((HB.out.cell (World.block_lt_of_cell? w _ hw150_1)).trans hw150_1), ((HB.out.cell (World.block_lt_of_cell? w _ hw150_2)).trans hw150_2), ((HB.out.cell (World.block_lt_of_cell? w _ hw151_0)).trans hw151_0), ((HB.out.cell (World.block_lt_of_cell? w _ hw151_1)).trans hw151_1), ((HB.out.cell (World.block_lt_of_cell? w _ hw151_2)).trans hw151_2), ((HB.out.cell (World.block_lt_of_cell? w _ hw152_0)).trans hw152_0), ((HB.out.cell (World.block_lt_of_cell? w _ hw152_1)).trans hw152_1), ((HB.out.cell (World.block_lt_of_cell? w _ hw152_2)).trans hw152_2), ((HB.out.cell (World.block_lt_of_cell? w _ hw153_0)).trans hw153_0), ((HB.out.cell (World.block_lt_of_cell? w _ hw153_1)).trans hw153_1), ((HB.out.cell (World.block_lt_of_cell? w _ hw153_2)).trans hw153_2), ((HB.out.cell (World.block_lt_of_cell? w _ hw154_0)).trans hw154_0), ((HB.out.cell (World.block_lt_of_cell? w _ hw154_1)).trans hw154_1), ((HB.out.cell (World.block_lt_of_cell? w _ hw154_2)).trans hw154_2)⟩ (fun hHeld => ?_); refine with_tabW provisoplain_SameClasses.tab6 provisoplain_SameClasses.bits6 (fun HT_ HW_ => ?_)
                      generalize wr.drew = w13 at HB HR149_2 HR150_2 HR151_2 HR152_2 HR153_2 HR154_2 hx149_0 hx149_1 hx149_2 hx150_0 hx150_1 hx150_2 hx151_0 hx151_1 hx151_2 hx152_0 hx152_1 hx152_2 hx153_0 hx153_1 hx153_2 hx154_0 hx154_1 hx154_2 hHeld ⊢
                      refine pure_ (i := 0) (N := some 16) (v := ?_) (a' := ?_) #[true, false, false, false, false, false, false, false, false, false, false, false, false, false, false, false, false, false, false, false, false, false, false, false, false, false, false, false, false, false, false, false, false, false, false, false, false, false] rfl rfl (any_of HT_.out (by kernel_rfl)) (fun _ _ _ h => h) (Or.inl ⟨by rfl, ?_⟩) ?_ ?_
                      rotate_left
                      · intro w'
                        go_simp
                        with_reducible rfl
                      rotate_left
                      · simp only [Act.put, List.setIfInBounds_toArray, List.set_cons_zero, List.set_cons_succ, i64_w, i32_w]
                        rfl
                      refine pure_ (i := 1) (N := some 17) (v := ?_) (a' := ?_) #[true, true, false, false, false, false, false, false, false, false, false, false, false, false, false, false, false, false, false, false, false, false, false, false, false, false, false, false, false, false, false, false, false, false, false, false, false, false] rfl rfl (any_of HT_.out (by kernel_rfl)) (fun _ _ _ h => h) (Or.inl ⟨by rfl, ?_⟩) ?_ ?_
                      rotate_left
                      · intro w'
                        go_simp
                        with_reducible rfl
                      rotate_left
                      · simp only [Act.put, List.setIfInBounds_toArray, List.set_cons_zero, List.set_cons_succ, i64_w, i32_w]
                        rfl
                      refine pure_ (i := 2) (N := some 18) (v := ?_) (a' := ?_) #[true, true, true, false, false, false, false, false, false, false, false, false, false, false, false, false, false, false, false, false, false, false, false, false, false, false, false, false, false, false, false, false, false, false, false, false, false, false] rfl rfl (any_of HT_.out (by kernel_rfl)) (fun _ _ _ h => h) (Or.inl ⟨by rfl, ?_⟩) ?_ ?_
                      rotate_left
                      · intro w'
                        go_simp
                        with_reducible rfl
                      rotate_left
                      · simp only [Act.put, List.setIfInBounds_toArray, List.set_cons_zero, List.set_cons_succ, i64_w, i32_w]
                        rfl
                      refine pure_ (i := 3) (N := some 19) (v := ?_) (a' := ?_) #[true, true, true, true, false, false, false, false, false, false, false, false, false, false, false, false, false, false, false, false, false, false, false, false, false, false, false, false, false, false, false, false, false, false, false, false, false, false] rfl rfl (any_of HT_.out (by kernel_rfl)) (fun _ _ _ h => h) (Or.inl ⟨by rfl, ?_⟩) ?_ ?_
                      rotate_left
                      · intro w'
                        go_simp
                        with_reducible rfl
                      rotate_left
                      · simp only [Act.put, List.setIfInBounds_toArray, List.set_cons_zero, List.set_cons_succ, i64_w, i32_w]
                        rfl
                      refine pure_ (i := 5) (N := some 21) (v := ?_) (a' := ?_) #[true, true, true, true, false, true, false, false, false, false, false, false, false, false, false, false, false, false, false, false, false, false, false, false, false, false, false, false, false, false, false, false, false, false, false, false, false, false] rfl rfl (any_of HT_.out (by kernel_rfl)) (fun _ _ _ h => h) (Or.inl ⟨by rfl, ?_⟩) ?_ ?_
                      rotate_left
                      · intro w'
                        go_simp
                        with_reducible rfl
                      rotate_left
                      · simp only [Act.put, List.setIfInBounds_toArray, List.set_cons_zero, List.set_cons_succ, i64_w, i32_w]
                        rfl
                      refine pure_ (i := 6) (N := some 22) (v := ?_) (a' := ?_) #[true, true, true, true, false, true, true, false, false, false, false, false, false, false, false, false, false, false, false, false, false, false, false, false, false, false, false, false, false, false, false, false, false, false, false, false, false, false] rfl rfl (any_of HT_.out (by kernel_rfl)) (fun _ _ _ h => h) (Or.inl ⟨by rfl, ?_⟩) ?_ ?_
                      rotate_left
                      · intro w'
                        go_simp
                        with_reducible rfl
                      rotate_left
                      · simp only [Act.put, List.setIfInBounds_toArray, List.set_cons_zero, List.set_cons_succ, i64_w, i32_w]
                        rfl
                      refine pure_ (i := 7) (N := some 23) (v := ?_) (a' := ?_) #[true, true, true, true, false, true, true, true, false, false, false, false, false, false, false, false, false, false, false, false, false, false, false, false, false, false, false, false, false, false, false, false, false, false, false, false, false, false] rfl rfl (any_of HT_.out (by kernel_rfl)) (fun _ _ _ h => h) (Or.inl ⟨by rfl, ?_⟩) ?_ ?_
                      rotate_left
                      · intro w'
                        go_simp
                        with_reducible rfl
                      rotate_left
                      · simp only [Act.put, List.setIfInBounds_toArray, List.set_cons_zero, List.set_cons_succ, i64_w, i32_w]
                        rfl
                      refine pure_ (i := 8) (N := some 24) (v := ?_) (a' := ?_) #[true, true, true, true, false, true, true, true, true, false, false, false, false, false, false, false, false, false, false, false, false, false, false, false, false, false, false, false, false, false, false, false, false, false, false, false, false, false] rfl rfl (any_of HT_.out (by kernel_rfl)) (fun _ _ _ h => h) (Or.inl ⟨by rfl, ?_⟩) ?_ ?_
                      rotate_left
                      · intro w'
                        go_simp
                        with_reducible rfl
                      rotate_left
                      · simp only [Act.put, List.setIfInBounds_toArray, List.set_cons_zero, List.set_cons_succ, i64_w, i32_w]
                        rfl
                      refine take_ (i := 4) (N := some 20) (v := ?_) (a' := ?_) #[true, true, true, true, true, true, true, true, true, false, false, false, false, false, false, false, false, false, false, false, false, false, false, false, false, false, false, false, false, false, false, false, false, false, false, false, false, false] rfl rfl (take_ofW HT_.out HW_.out (by kernel_rfl)) (fun _ _ _ h => h) (Or.inl ⟨by rfl, ?_⟩) hHeld ?_ ?_
                      rotate_left
                      · rintro w' ⟨s0, s1, s2, s3, s4, s5, s6, s7, s8, s9, s10, s11, s12, s13, s14, s15, s16, s17⟩
                        go_simp
                        with_reducible rfl
                      rotate_left
                      · simp only [Act.put, List.setIfInBounds_toArray, List.set_cons_zero, List.set_cons_succ, i64_w, i32_w]
                        rfl
                      refine take_ (i := 9) (N := some 25) (v := ?_) (a' := ?_) #[true, true, true, true, true, true, true, true, true, true, false, false, false, false, false, false, false, false, false, false, false, false, false, false, false, false, false, false, false, false, false, false, false, false, false, false, false, false] rfl rfl (take_ofW HT_.out HW_.out (by kernel_rfl)) (fun _ _ _ h => h) (Or.inl ⟨by rfl, ?_⟩) hHeld ?_ ?_
                      rotate_left
                      · rintro w' ⟨s0, s1, s2, s3, s4, s5, s6, s7, s8, s9, s10, s11, s12, s13, s14, s15, s16, s17⟩
                        go_simp
                        with_reducible rfl
                      rotate_left
                      · simp only [Act.put, List.setIfInBounds_toArray, List.set_cons_zero, List.set_cons_succ, i64_w, i32_w]
                        rfl
                      refine pure_ (i := 10) (N := some 26) (v := ?_) (a' := ?_) #[true, true, true, true, true, true, true, true, true, true, true, false, false, false, false, false, false, false, false, false, false, false, false, false, false, false, false, false, false, false, false, false, false, false, false, false, false, false] rfl rfl (any_of HT_.out (by kernel_rfl)) (fun _ _ _ h => h) (Or.inl ⟨by rfl, ?_⟩) ?_ ?_
                      rotate_left
                      · intro w'
                        go_simp
                        with_reducible rfl
                      rotate_left
                      · simp only [Act.put, List.setIfInBounds_toArray, List.set_cons_zero, List.set_cons_succ, i64_w, i32_w]
                        rfl
                      refine pure_ (i := 11) (N := some 27) (v := ?_) (a' := ?_) #[true, true, true, true, true, true, true, true, true, true, true, true, false, false, false, false, false, false, false, false, false, false, false, false, false, false, false, false, false, false, false, false, false, false, false, false, false, false] rfl rfl (any_of HT_.out (by kernel_rfl)) (fun _ _ _ h => h) (Or.inl ⟨by rfl, ?_⟩) ?_ ?_
                      rotate_left
                      · intro w'
                        go_simp
                        with_reducible rfl
                      rotate_left
                      · simp only [Act.put, List.setIfInBounds_toArray, List.set_cons_zero, List.set_cons_succ, i64_w, i32_w]
                        rfl
                      refine pure_ (i := 12) (N := some 28) (v := ?_) (a' := ?_) #[true, true, true, true, true, true, true, true, true, true, true, true, true, false, false, false, false, false, false, false, false, false, false, false, false, false, false, false, false, false, false, false, false, false, false, false, false, false] rfl rfl (any_of HT_.out (by kernel_rfl)) (fun _ _ _ h => h) (Or.inl ⟨by rfl, ?_⟩) ?_ ?_
                      rotate_left
                      · intro w'
                        go_simp
                        with_reducible rfl
                      rotate_left
                      · simp only [Act.put, List.setIfInBounds_toArray, List.set_cons_zero, List.set_cons_succ, i64_w, i32_w]
                        rfl
                      refine pure_ (i := 13) (N := some 29) (v := ?_) (a' := ?_) #[true, true, true, true, true, true, true, true, true, true, true, true, true, true, false, false, false, false, false, false, false, false, false, false, false, false, false, false, false, false, false, false, false, false, false, false, false, false] rfl rfl (any_of HT_.out (by kernel_rfl)) (fun _ _ _ h => h) (Or.inl ⟨by rfl, ?_⟩) ?_ ?_
                      rotate_left
                      · intro w'
                        go_simp
                        with_reducible rfl
                      rotate_left
                      · simp only [Act.put, List.setIfInBounds_toArray, List.set_cons_zero, List.set_cons_succ, i64_w, i32_w]
                        rfl
                      refine pure_ (i := 14) (N := some 30) (v := ?_) (a' := ?_) #[true, true, true, true, true, true, true, true, true, true, true, true, true, true, true, false, false, false, false, false, false, false, false, false, false, false, false, false, false, false, false, false, false, false, false, false, false, false] rfl rfl (any_of HT_.out (by kernel_rfl)) (fun _ _ _ h => h) (Or.inl ⟨by rfl, ?_⟩) ?_ ?_
                      rotate_left
                      · intro w'
                        go_simp
                        with_reducible rfl
                      rotate_left
                      · simp only [Act.put, List.setIfInBounds_toArray, List.set_cons_zero, List.set_cons_succ, i64_w, i32_w]
                        rfl
                      refine pure_ (i := 15) (N := some 31) (v := ?_) (a' := ?_) #[true, true, true, true, true, true, true, true, true, true, true, true, true, true, true, true, false, false, false, false, false, false, false, false, false, false, false, false, false, false, false, false, false, false, false, false, false, false] rfl rfl (any_of HT_.out (by kernel_rfl)) (fun _ _ _ h => h) (Or.inl ⟨by rfl, ?_⟩) ?_ ?_
                      rotate_left
                      · intro w'
                        go_simp
                        with_reducible rfl
                      rotate_left
                      · simp only [Act.put, List.setIfInBounds_toArray, List.set_cons_zero, List.set_cons_succ, i64_w, i32_w]
                        rfl
                      refine pure_ (i := 17) (N := some 33) (v := ?_) (a' := ?_) #[true, true, true, true, true, true, true, true, true, true, true, true, true, true, true, true, false, true, false, false, false, false, false, false, false, false, false, false, false, false, false, false, false, false, false, false, false, false] rfl rfl (any_of HT_.out (by kernel_rfl)) (fun _ _ _ h => h) (Or.inl ⟨by rfl, ?_⟩) ?_ ?_
                      rotate_left
                      · intro w'
                        go_simp
                        with_reducible rfl
                      rotate_left
                      · simp only [Act.put, List.setIfInBounds_toArray, List.set_cons_zero, List.set_cons_succ, i64_w, i32_w]
                        rfl
                      refine pure_ (i := 18) (N := some 34) (v := ?_) (a' := ?_) #[true, true, true, true, true, true, true, true, true, true, true, true, true, true, true, true, false, true, true, false, false, false, false, false, false, false, false, false, false, false, false, false, false, false, false, false, false, false] rfl rfl (any_of HT_.out (by kernel_rfl)) (fun _ _ _ h => h) (Or.inl ⟨by rfl, ?_⟩) ?_ ?_
                      rotate_left
                      · intro w'
                        go_simp
                        with_reducible rfl
                      rotate_left
                      · simp only [Act.put, List.setIfInBounds_toArray, List.set_cons_zero, List.set_cons_succ, i64_w, i32_w]
                        rfl
                      refine pure_ (i := 19) (N := some 35) (v := ?_) (a' := ?_) #[true, true, true, true, true, true, true, true, true, true, true, true, true, true, true, true, false, true, true, true, false, false, false, false, false, false, false, false, false, false, false, false, false, false, false, false, false, false] rfl rfl (any_of HT_.out (by kernel_rfl)) (fun _ _ _ h => h) (Or.inl ⟨by rfl, ?_⟩) ?_ ?_
                      rotate_left
                      · intro w'
                        go_simp
                        with_reducible rfl
                      rotate_left
                      · simp only [Act.put, List.setIfInBounds_toArray, List.set_cons_zero, List.set_cons_succ, i64_w, i32_w]
                        rfl
                      refine pure_ (i := 20) (N := some 36) (v := ?_) (a' := ?_) #[true, true, true, true, true, true, true, true, true, true, true, true, true, true, true, true, false, true, true, true, true, false, false, false, false, false, false, false, false, false, false, false, false, false, false, false, false, false] rfl rfl (any_of HT_.out (by kernel_rfl)) (fun _ _ _ h => h) (Or.inl ⟨by rfl, ?_⟩) ?_ ?_
                      rotate_left
                      · intro w'
                        go_simp
                        with_reducible rfl
                      rotate_left
                      · simp only [Act.put, List.setIfInBounds_toArray, List.set_cons_zero, List.set_cons_succ, i64_w, i32_w]
                        rfl
                      refine take_ (i := 16) (N := some 32) (v := ?_) (a' := ?_) #[true, true, true, true, true, true, true, true, true, true, true, true, true, true, true, true, true, true, true, true, true, false, false, false, false, false, false, false, false, false, false, false, false, false, false, false, false, false] rfl rfl (take_ofW HT_.out HW_.out (by kernel_rfl)) (fun _ _ _ h => h) (Or.inl ⟨by rfl, ?_⟩) hHeld ?_ ?_
                      rotate_left
                      · rintro w' ⟨s0, s1, s2, s3, s4, s5, s6, s7, s8, s9, s10, s11, s12, s13, s14, s15, s16, s17⟩
                        go_simp
                        with_reducible rfl
                      rotate_left
                      · simp only [Act.put, List.setIfInBounds_toArray, List.set_cons_zero, List.set_cons_succ, i64_w, i32_w]
                        rfl
                      refine take_ (i := 21) (N := some 37) (v := ?_) (a' := ?_) #[true, true, true, true, true, true, true, true, true, true, true, true, true, true, true, true, true, true, true, true, true, true, false, false, false, false, false, false, false, false, false, false, false, false, false, false, false, false] rfl rfl (take_ofW HT_.out HW_.out (by kernel_rfl)) (fun _ _ _ h => h) (Or.inl ⟨by rfl, ?_⟩) hHeld ?_ ?_
                      rotate_left
                      · rintro w' ⟨s0, s1, s2, s3, s4, s5, s6, s7, s8, s9, s10, s11, s12, s13, s14, s15, s16, s17⟩
                        go_simp
                        with_reducible rfl
                      rotate_left
                      · simp only [Act.put, List.setIfInBounds_toArray, List.set_cons_zero, List.set_cons_succ, i64_w, i32_w]
                        rfl
                      refine pure_ (i := 22) (N := some 38) (v := ?_) (a' := ?_) #[true, true, true, true, true, true, true, true, true, true, true, true, true, true, true, true, true, true, true, true, true, true, true, false, false, false, false, false, false, false, false, false, false, false, false, false, false, false] rfl rfl (any_of HT_.out (by kernel_rfl)) (fun _ _ _ h => h) (Or.inl ⟨by rfl, ?_⟩) ?_ ?_
                      rotate_left
                      · intro w'
                        go_simp
                        with_reducible rfl
                      rotate_left
                      · simp only [Act.put, List.setIfInBounds_toArray, List.set_cons_zero, List.set_cons_succ, i64_w, i32_w]
                        rfl
                      refine pure_ (i := 23) (N := some 39) (v := ?_) (a' := ?_) #[true, true, true, true, true, true, true, true, true, true, true, true, true, true, true, true, true, true, true, true, true, true, true, true, false, false, false, false, false, false, false, false, false, false, false, false, false, false] rfl rfl (any_of HT_.out (by kernel_rfl)) (fun _ _ _ h => h) (Or.inl ⟨by rfl, ?_⟩) ?_ ?_
                      rotate_left
                      · intro w'
                        go_simp
                        with_reducible rfl
                      rotate_left
                      · simp only [Act.put, List.setIfInBounds_toArray, List.set_cons_zero, List.set_cons_succ, i64_w, i32_w]
                        rfl
                      refine pure_ (i := 24) (N := some 40) (v := ?_) (a' := ?_) #[true, true, true, true, true, true, true, true, true, true, true, true, true, true, true, true, true, true, true, true, true, true, true, true, true, false, false, false, false, false, false, false, false, false, false, false, false, false] rfl rfl (any_of HT_.out (by kernel_rfl)) (fun _ _ _ h => h) (Or.inl ⟨by rfl, ?_⟩) ?_ ?_
                      rotate_left
                      · intro w'
                        go_simp
                        with_reducible rfl
                      rotate_left
                      · simp only [Act.put, List.setIfInBounds_toArray, List.set_cons_zero, List.set_cons_succ, i64_w, i32_w]
                        rfl
                      refine pure_ (i := 25) (N := some 41) (v := ?_) (a' := ?_) #[true, true, true, true, true, true, true, true, true, true, true, true, true, true, true, true, true, true, true, true, true, true, true, true, true, true, false, false, false, false, false, false, false, false, false, false, false, false] rfl rfl (any_of HT_.out (by kernel_rfl)) (fun _ _ _ h => h) (Or.inl ⟨by rfl, ?_⟩) ?_ ?_
                      rotate_left
                      · intro w'
                        go_simp
                        with_reducible rfl
                      rotate_left
                      · simp only [Act.put, List.setIfInBounds_toArray, List.set_cons_zero, List.set_cons_succ, i64_w, i32_w]
                        rfl
                      refine pure_ (i := 26) (N := some 42) (v := ?_) (a' := ?_) #[true, true, true, true, true, true, true, true, true, true, true, true, true, true, true, true, true, true, true, true, true, true, true, true, true, true, true, false, false, false, false, false, false, false, false, false, false, false] rfl rfl (any_of HT_.out (by kernel_rfl)) (fun _ _ _ h => h) (Or.inl ⟨by rfl, ?_⟩) ?_ ?_
                      rotate_left
                      · intro w'
                        go_simp
                        with_reducible rfl
                      rotate_left
                      · simp only [Act.put, List.setIfInBounds_toArray, List.set_cons_zero, List.set_cons_succ, i64_w, i32_w]
                        rfl
                      refine pure_ (i := 27) (N := some 43) (v := ?_) (a' := ?_) #[true, true, true, true, true, true, true, true, true, true, true, true, true, true, true, true, true, true, true, true, true, true, true, true, true, true, true, true, false, false, false, false, false, false, false, false, false, false] rfl rfl (any_of HT_.out (by kernel_rfl)) (fun _ _ _ h => h) (Or.inl ⟨by rfl, ?_⟩) ?_ ?_
                      rotate_left
                      · intro w'
                        go_simp
                        with_reducible rfl
                      rotate_left
                      · simp only [Act.put, List.setIfInBounds_toArray, List.set_cons_zero, List.set_cons_succ, i64_w, i32_w]
                        rfl
                      refine pure_ (i := 28) (N := some 44) (v := ?_) (a' := ?_) #[true, true, true, true, true, true, true, true, true, true, true, true, true, true, true, true, true, true, true, true, true, true, true, true, true, true, true, true, true, false, false, false, false, false, false, false, false, false] rfl rfl (any_of HT_.out (by kernel_rfl)) (fun _ _ _ h => h) (Or.inl ⟨by rfl, ?_⟩) ?_ ?_
                      rotate_left
                      · intro w'
                        go_simp
                        with_reducible rfl
                      rotate_left
                      · simp only [Act.put, List.setIfInBounds_toArray, List.set_cons_zero, List.set_cons_succ, i64_w, i32_w]
                        rfl
                      refine pure_ (i := 30) (N := some 46) (v := ?_) (a' := ?_) #[true, true, true, true, true, true, true, true, true, true, true, true, true, true, true, true, true, true, true, true, true, true, true, true, true, true, true, true, true, false, true, false, false, false, false, false, false, false] rfl rfl (any_of HT_.out (by kernel_rfl)) (fun _ _ _ h => h) (Or.inl ⟨by rfl, ?_⟩) ?_ ?_
                      rotate_left
                      · intro w'
                        go_simp
                        with_reducible rfl
                      rotate_left
                      · simp only [Act.put, List.setIfInBounds_toArray, List.set_cons_zero, List.set_cons_succ, i64_w, i32_w]
                        rfl
                      refine pure_ (i := 31) (N := some 47) (v := ?_) (a' := ?_) #[true, true, true, true, true, true, true, true, true, true, true, true, true, true, true, true, true, true, true, true, true, true, true, true, true, true, true, true, true, false, true, true, false, false, false, false, false, false] rfl rfl (any_of HT_.out (by kernel_rfl)) (fun _ _ _ h => h) (Or.inl ⟨by rfl, ?_⟩) ?_ ?_
                      rotate_left
                      · intro w'
                        go_simp
                        with_reducible rfl
                      rotate_left
                      · simp only [Act.put, List.setIfInBounds_toArray, List.set_cons_zero, List.set_cons_succ, i64_w, i32_w]
                        rfl
                      refine pure_ (i := 32) (N := some 48) (v := ?_) (a' := ?_) #[true, true, true, true, true, true, true, true, true, true, true, true, true, true, true, true, true, true, true, true, true, true, true, true, true, true, true, true, true, false, true, true, true, false, false, false, false, false] rfl rfl (any_of HT_.out (by kernel_rfl)) (fun _ _ _ h => h) (Or.inl ⟨by rfl, ?_⟩) ?_ ?_
                      rotate_left
                      · intro w'
                        go_simp
                        with_reducible rfl
                      rotate_left
                      · simp only [Act.put, List.setIfInBounds_toArray, List.set_cons_zero, List.set_cons_succ, i64_w, i32_w]
                        rfl
                      refine pure_ (i := 33) (N := some 49) (v := ?_) (a' := ?_) #[true, true, true, true, true, true, true, true, true, true, true, true, true, true, true, true, true, true, true, true, true, true, true, true, true, true, true, true, true, false, true, true, true, true, false, false, false, false] rfl rfl (any_of HT_.out (by kernel_rfl)) (fun _ _ _ h => h) (Or.inl ⟨by rfl, ?_⟩) ?_ ?_
                      rotate_left
                      · intro w'
                        go_simp
                        with_reducible rfl
                      rotate_left
                      · simp only [Act.put, List.setIfInBounds_toArray, List.set_cons_zero, List.set_cons_succ, i64_w, i32_w]
                        rfl
                      refine take_ (i := 29) (N := some 45) (v := ?_) (a' := ?_) #[true, true, true, true, true, true, true, true, true, true, true, true, true, true, true, true, true, true, true, true, true, true, true, true, true, true, true, true, true, true, true, true, true, true, false, false, false, false] rfl rfl (take_ofW HT_.out HW_.out (by kernel_rfl)) (fun _ _ _ h => h) (Or.inl ⟨by rfl, ?_⟩) hHeld ?_ ?_
                      rotate_left
                      · rintro w' ⟨s0, s1, s2, s3, s4, s5, s6, s7, s8, s9, s10, s11, s12, s13, s14, s15, s16, s17⟩
                        go_simp
                        with_reducible rfl
                      rotate_left
                      · simp only [Act.put, List.setIfInBounds_toArray, List.set_cons_zero, List.set_cons_succ, i64_w, i32_w]
                        rfl
                      refine take_ (i := 34) (N := some 50) (v := ?_) (a' := ?_) #[true, true, true, true, true, true, true, true, true, true, true, true, true, true, true, true, true, true, true, true, true, true, true, true, true, true, true, true, true, true, true, true, true, true, true, false, false, false] rfl rfl (take_ofW HT_.out HW_.out (by kernel_rfl)) (fun _ _ _ h => h) (Or.inl ⟨by rfl, ?_⟩) hHeld ?_ ?_
                      rotate_left
                      · rintro w' ⟨s0, s1, s2, s3, s4, s5, s6, s7, s8, s9, s10, s11, s12, s13, s14, s15, s16, s17⟩
                        go_simp
                        with_reducible rfl
                      rotate_left
                      · simp only [Act.put, List.setIfInBounds_toArray, List.set_cons_zero, List.set_cons_succ, i64_w, i32_w]
                        rfl
                      refine one_ (i := 35) (N := some 51) #[true, true, true, true, true, true, true, true, true, true, true, true, true, true, true, true, true, true, true, true, true, true, true, true, true, true, true, true, true, true, true, true, true, true, true, true, false, false] rfl rfl (one_of HT_.out (by kernel_rfl)) (by decide) (fun K hK => ?_)
                      refine goes_ Try.func44 (by kernel_rfl) rfl #[.slice A149_2 ((rd_T59 l0 x13_1).f2).length c149_2, .slice A150_2 ((rd_T59 l1 x13_1).f2).length c150_2] (by rfl) rfl rfl (by (try simp only [List.map_toArray, List.map_cons, List.map_nil]); first | done | rfl | (simp only [List.length_drop, List.length_take]; rfl)) ?_
                      with_reducible refine (api_Field_44.calls k1 _ _ ((rd_T59 l0 x13_1).f2) _ _ ((rd_T59 l1 x13_1).f2) false _ ?side1 ?side2 ?side3 ?side4 A10.out).mono ?_
                      (case side1 => repeat (first | exact (Kd.C_below HR153_2.out HB.out) | (with_reducible refine Kd.C_alloc ?_ _) | (with_reducible refine Kd.C_drewN ?_ _) | (with_reducible refine Kd.C_drew ?_)))
                      (case side2 => exact HC153_2.out)
                      (case side3 => repeat (first | exact (Kd.C_below HR154_2.out HB.out) | (with_reducible refine Kd.C_alloc ?_ _) | (with_reducible refine Kd.C_drewN ?_ _) | (with_reducible refine Kd.C_drew ?_)))
                      (case side4 => exact HC154_2.out)
                      rintro e w' ⟨rfl, ⟨nd, rfl⟩⟩
                      refine ⟨_, rfl, ?_⟩
                      refine hK.out _ _ ⟨((HB.out.cell (World.block_lt_of_cell? w _ hw149_0)).trans hw149_0), ((HB.out.cell (World.block_lt_of_cell? w _ hw149_1)).trans hw149_1), ((HB.out.cell (World.block_lt_of_cell? w _ hw149_2)).trans hw149_2), ((HB.out.cell (World.block_lt_of_cell? w _ hw150_0)).trans hw150_0), ((HB.out.cell (World.block_lt_of_cell? w _ hw150_1)).trans hw150_1), ((HB.out.cell (World.block_lt_of_cell? w _ hw150_2)).trans hw150_2), ((HB.out.cell (World.block_lt_of_cell? w _ hw151_0)).trans hw151_0), ((HB.out.cell (World.block_lt_of_cell? w _ hw151_1)).trans hw151_1), ((HB.out.cell (World.block_lt_of_cell? w _ hw151_2)).trans hw151_2), ((HB.out.cell (World.block_lt_of_cell? w _ hw152_0)).trans hw152_0), ((HB.out.cell (World.block_lt_of_cell? w _ hw152_1)).trans hw152_1), ((HB.out.cell (World.block_lt_of_cell? w _ hw152_2)).trans hw152_2), ((HB.out.cell (World.block_lt_of_cell? w _ hw153_0)).trans hw153_0), ((HB.out.cell (World.block_lt_of_cell? w _ hw153_1)).trans hw153_1), ((HB.out.cell (World.block_lt_of_cell? w _ hw153_2)).trans hw153_2), ((HB.out.cell (World.block_lt_of_cell? w _ hw154_0)).trans hw154_0), ((HB.out.cell (World.block_lt_of_cell? w _ hw154_1)).trans hw154_1), ((HB.out.cell (World.block_lt_of_cell? w _ hw154_2)).trans hw154_2)⟩ (fun hHeld => ?_)
                      clear hK K
                      refine norm_ (a' := ?_) ?_ ?_
                      rotate_left
                      · show Act.put _ (some 51) _ = _
                        simp only [Act.put, List.setIfInBounds_toArray, List.set_cons_zero, List.set_cons_succ, i64_w, i32_w]
                        rfl
                      refine pure_ (i := 36) (N := some 52) (v := ?_) (a' := ?_) #[true, true, true, true, true, true, true, true, true, true, true, true, true, true, true, true, true, true, true, true, true, true, true, true, true, true, true, true, true, true, true, true, true, true, true, true, true, false] rfl rfl (any_of HT_.out (by kernel_rfl)) (fun _ _ _ h => h) (Or.inl ⟨by rfl, ?_⟩) ?_ ?_
                      rotate_left
                      · intro w'
                        go_simp
                        with_reducible rfl
                      rotate_left
                      · simp only [Act.put, List.setIfInBounds_toArray, List.set_cons_zero, List.set_cons_succ, i64_w, i32_w]
                        rfl
                      refine pure_ (i := 37) (N := some 53) (v := ?_) (a' := ?_) #[true, true, true, true, true, true, true, true, true, true, true, true, true, true, true, true, true, true, true, true, true, true, true, true, true, true, true, true, true, true, true, true, true, true, true, true, true, true] rfl rfl (any_of HT_.out (by kernel_rfl)) (fun _ _ _ h => h) (Or.inl ⟨by rfl, ?_⟩) ?_ ?_
                      rotate_left
                      · intro w'
                        go_simp
                        with_reducible rfl
                      rotate_left
                      · simp only [Act.put, List.setIfInBounds_toArray, List.set_cons_zero, List.set_cons_succ, i64_w, i32_w]
                        rfl
                      refine done_ (done_of HT_.out (by kernel_rfl)) ?_
                      try go_wp2
                      go_ret
                      exact ⟨by first | rfl | (simp [errW_none, errW_some] <;> rfl) | (simp [*, errW_none, errW_some] <;> rfl), by repeat (first | (with_reducible first | exact HB.out | apply below_alloc | apply pw_below_drewN | apply below_drew1) | exact HB.out)⟩
                  · rw [if_neg c9] at H
                    have c9b0 : (((rd_T59 l0 x13_1).f1) == ((rd_T59 l1 x13_1).f1)) = false := beq_eq_false_iff_ne.mpr c9
                    have c9b1 : (((rd_T59 l0 x13_1).f1) != ((rd_T59 l1 x13_1).f1)) = true := bne_iff_ne.mpr c9
                    obtain rfl := Option.some.inj H
                    try go_wp2
                    have n0_ := Aside0.mk (below_drew1 HB.out)
                    clear HB
                    have HB := n0_
                    clear n0_
                    have p149 : 0 ≤ (x13_1 : Int) := of_decide_eq_true (by first | (with_reducible assumption) | assumption)
                    have q149 : x13_1 < (l0.length : Int) := of_decide_eq_true (by first | (with_reducible assumption) | assumption)
                    obtain ⟨ad149, A149_2, c149_2, e149, hx149_0, hx149_1, hx149_2, hl149_2, hi149_2⟩ := at_T59 HR0.out x13_1 p149 q149
                    have hw149_2 := hx149_2
                    have hw149_1 := hx149_1
                    have hw149_0 := hx149_0
                    cases e149
                    replace hx149_0 := (HB.out.cell (World.block_lt_of_cell? w _ hx149_0)).trans hx149_0
                    replace hx149_1 := (HB.out.cell (World.block_lt_of_cell? w _ hx149_1)).trans hx149_1
                    replace hx149_2 := (HB.out.cell (World.block_lt_of_cell? w _ hx149_2)).trans hx149_2
                    have HR149_2 := Aside0.mk hi149_2
                    have HC149_2 := Aside0.mk hl149_2
                    clear hi149_2 hl149_2
                    replace p149 := eq_true p149
                    replace q149 := eq_true q149
                    have p150 : 0 ≤ (x13_1 : Int) := of_decide_eq_true (by first | (with_reducible assumption) | assumption)
                    have q150 : x13_1 < (l1.length : Int) := of_decide_eq_true (by first | (with_reducible assumption) | assumption)
                    obtain ⟨ad150, A150_2, c150_2, e150, hx150_0, hx150_1, hx150_2, hl150_2, hi150_2⟩ := at_T59 HR1.out x13_1 p150 q150
                    have hw150_2 := hx150_2
                    have hw150_1 := hx150_1
                    have hw150_0 := hx150_0
                    cases e150
                    replace hx150_0 := (HB.out.cell (World.block_lt_of_cell? w _ hx150_0)).trans hx150_0
                    replace hx150_1 := (HB.out.cell (World.block_lt_of_cell? w _ hx150_1)).trans hx150_1
                    replace hx150_2 := (HB.out.cell (World.block_lt_of_cell? w _ hx150_2)).trans hx150_2
                    have HR150_2 := Aside0.mk hi150_2
                    have HC150_2 := Aside0.mk hl150_2
                    clear hi150_2 hl150_2
                    replace p150 := eq_true p150
                    replace q150 := eq_true q150
                    have p151 : 0 ≤ (x13_1 : Int) := of_decide_eq_true (by first | (with_reducible assumption) | assumption)
                    have q151 : x13_1 < (l0.length : Int) := of_decide_eq_true (by first | (with_reducible assumption) | assumption)
                    obtain ⟨ad151, A151_2, c151_2, e151, hx151_0, hx151_1, hx151_2, hl151_2, hi151_2⟩ := at_T59 HR0.out x13_1 p151 q151
                    have hw151_2 := hx151_2
                    have hw151_1 := hx151_1
                    have hw151_0 := hx151_0
                    obtain rfl : ad149 = ad151 := (by injection e151)
                    replace hx151_0 := (HB.out.cell (World.block_lt_of_cell? w _ hx151_0)).trans hx151_0
                    replace hx151_1 := (HB.out.cell (World.block_lt_of_cell? w _ hx151_1)).trans hx151_1
                    replace hx151_2 := (HB.out.cell (World.block_lt_of_cell? w _ hx151_2)).trans hx151_2
                    have HR151_2 := Aside0.mk hi151_2
                    have HC151_2 := Aside0.mk hl151_2
                    clear hi151_2 hl151_2
                    replace p151 := eq_true p151
                    replace q151 := eq_true q151
                    have ea_ := Option.some.inj (hx149_2.symm.trans hx151_2)
                    injection ea_ with ea_ en_ ec_
                    subst ea_
                    subst ec_
                    clear en_
                    have p152 : 0 ≤ (x13_1 : Int) := of_decide_eq_true (by first | (with_reducible assumption) | assumption)
                    have q152 : x13_1 < (l1.length : Int) := of_decide_eq_true (by first | (with_reducible assumption) | assumption)
                    obtain ⟨ad152, A152_2, c152_2, e152, hx152_0, hx152_1, hx152_2, hl152_2, hi152_2⟩ := at_T59 HR1.out x13_1 p152 q152
                    have hw152_2 := hx152_2
                    have hw152_1 := hx152_1
                    have hw152_0 := hx152_0
                    obtain rfl : ad150 = ad152 := (by injection e152)
                    replace hx152_0 := (HB.out.cell (World.block_lt_of_cell? w _ hx152_0)).trans hx152_0
                    replace hx152_1 := (HB.out.cell (World.block_lt_of_cell? w _ hx152_1)).trans hx152_1
                    replace hx152_2 := (HB.out.cell (World.block_lt_of_cell? w _ hx152_2)).trans hx152_2
                    have HR152_2 := Aside0.mk hi152_2
                    have HC152_2 := Aside0.mk hl152_2
                    clear hi152_2 hl152_2
                    replace p152 := eq_true p152
                    replace q152 := eq_true q152
                    have ea_ := Option.some.inj (hx150_2.symm.trans hx152_2)
                    injection ea_ with ea_ en_ ec_
                    subst ea_
                    subst ec_
                    clear en_
                    refine start_ (n := 38) (S := fun w' => w'.cell? (ad149.add ((x13_1).toNat * 3)) = some (.string ((rd_T59 l0 x13_1).f0)) ∧ w'.cell? ⟨(ad149.add ((x13_1).toNat * 3)).block, (ad149.add ((x13_1).toNat * 3)).off + 1, none⟩ = some (.int .i64 ((rd_T59 l0 x13_1).f1)) ∧ w'.cell? ⟨(ad149.add ((x13_1).toNat * 3)).block, (ad149.add ((x13_1).toNat * 3)).off + 2, none⟩ = some (.slice A149_2 ((rd_T59 l0 x13_1).f2).length c149_2) ∧ w'.cell? (ad150.add ((x13_1).toNat * 3)) = some (.string ((rd_T59 l1 x13_1).f0)) ∧ w'.cell? ⟨(ad150.add ((x13_1).toNat * 3)).block, (ad150.add ((x13_1).toNat * 3)).off + 1, none⟩ = some (.int .i64 ((rd_T59 l1 x13_1).f1)) ∧ w'.cell? ⟨(ad150.add ((x13_1).toNat * 3)).block, (ad150.add ((x13_1).toNat * 3)).off + 2, none⟩ = some (.slice A150_2 ((rd_T59 l1 x13_1).f2).length c150_2) ∧ w'.cell? (ad149.add ((x13_1).toNat * 3)) = some (.string ((rd_T59 l0 x13_1).f0)) ∧ w'.cell? ⟨(ad149.add ((x13_1).toNat * 3)).block, (ad149.add ((x13_1).toNat * 3)).off + 1, none⟩ = some (.int .i64 ((rd_T59 l0 x13_1).f1)) ∧ w'.cell? ⟨(ad149.add ((x13_1).toNat * 3)).block, (ad149.add ((x13_1).toNat * 3)).off + 2, none⟩ = some (.slice A149_2 ((rd_T59 l0 x13_1).f2).length c149_2) ∧ w'.cell? (ad150.add ((x13_1).toNat * 3)) = some (.string ((rd_T59 l1 x13_1).f0)) ∧ w'.cell? ⟨(ad150.add ((x13_1).toNat * 3)).block, (ad150.add ((x13_1).toNat * 3)).off + 1, none⟩ = some (.int .i64 ((rd_T59 l1 x13_1).f1)) ∧ w'.cell? ⟨(ad150.add ((x13_1).toNat * 3)).block, (ad150.add ((x13_1).toNat * 3)).off + 2, none⟩ = some (.slice A150_2 ((rd_T59 l1 x13_1).f2).length c150_2)) (ds := []) #[false, false, false, false, false, false, false, false, false, false, false, false, false, false, false, false, false, false, false, false, false, false, false, false, false, false, false, false, false, false, false, false, false, false, false, false, false, false] (by kernel_rfl) rfl rfl ⟨((HB.out.cell (World.block_lt_of_cell? w _ hw149_0)).trans hw149_0), ((HB.out.cell (World.block_lt_of_cell? w _ hw149_1)).trans hw149_1), ((HB.out.cell (World.block_lt_of_cell? w _ hw149_2)).trans hw149_2), ((HB.out.cell (World.block_lt_of_cell? w _ hw150_0)).trans hw150_0), ((HB.out.cell (World.block_lt_of_cell? w _ hw150_1)).trans hw150_1), ((HB.out.cell (World.block_lt_of_cell? w _ hw150_2)).trans hw150_2), ((HB.out.cell (World.block_lt_of_cell? w _ hw151_0)).trans hw151_0), ((HB.out.cell (World.block_lt_of_cell? w _ hw151_1)).trans hw151_1), ((HB.out.cell (World.block_lt_of_cell? w _ hw151_2)).trans hw151_2), ((HB.out.cell (World.block_lt_of_cell? w _ hw152_0)).trans hw152_0), ((HB.out.cell (World.block_lt_of_cell? w _ hw152_1)).trans hw152_1), ((HB.out.cell (World.block_lt_of_cell? w _ hw152_2)).trans hw152_2)⟩ (fun hHeld => ?_); refine with_tabW provisoplain_SameClasses.tab6 provisoplain_SameClasses.bits6 (fun HT_ HW_ => ?_)
                    generalize wr.drew = w14 at HB HR149_2 HR150_2 HR151_2 HR152_2 hx149_0 hx149_1 hx149_2 hx150_0 hx150_1 hx150_2 hx151_0 hx151_1 hx151_2 hx152_0 hx152_1 hx152_2 hHeld ⊢
                    refine pure_ (i := 0) (N := some 16) (v := ?_) (a' := ?_) #[true, false, false, false, false, false, false, false, false, false, false, false, false, false, false, false, false, false, false, false, false, false, false, false, false, false, false, false, false, false, false, false, false, false, false, false, false, false] rfl rfl (any_of HT_.out (by kernel_rfl)) (fun _ _ _ h => h) (Or.inl ⟨by rfl, ?_⟩) ?_ ?_
                    rotate_left
                    · intro w'
                      go_simp
                      with_reducible rfl
                    rotate_left
                    · simp only [Act.put, List.setIfInBounds_toArray, List.set_cons_zero, List.set_cons_succ, i64_w, i32_w]
                      rfl
                    refine pure_ (i := 1) (N := some 17) (v := ?_) (a' := ?_) #[true, true, false, false, false, false, false, false, false, false, false, false, false, false, false, false, false, false, false, false, false, false, false, false, false, false, false, false, false, false, false, false, false, false, false, false, false, false] rfl rfl (any_of HT_.out (by kernel_rfl)) (fun _ _ _ h => h) (Or.inl ⟨by rfl, ?_⟩) ?_ ?_
                    rotate_left
                    · intro w'
                      go_simp
                      with_reducible rfl
                    rotate_left
                    · simp only [Act.put, List.setIfInBounds_toArray, List.set_cons_zero, List.set_cons_succ, i64_w, i32_w]
                      rfl
                    refine pure_ (i := 2) (N := some 18) (v := ?_) (a' := ?_) #[true, true, true, false, false, false, false, false, false, false, false, false, false, false, false, false, false, false, false, false, false, false, false, false, false, false, false, false, false, false, false, false, false, false, false, false, false, false] rfl rfl (any_of HT_.out (by kernel_rfl)) (fun _ _ _ h => h) (Or.inl ⟨by rfl, ?_⟩) ?_ ?_
                    rotate_left
                    · intro w'
                      go_simp
                      with_reducible rfl
                    rotate_left
                    · simp only [Act.put, List.setIfInBounds_toArray, List.set_cons_zero, List.set_cons_succ, i64_w, i32_w]
                      rfl
                    refine pure_ (i := 3) (N := some 19) (v := ?_) (a' := ?_) #[true, true, true, true, false, false, false, false, false, false, false, false, false, false, false, false, false, false, false, false, false, false, false, false, false, false, false, false, false, false, false, false, false, false, false, false, false, false] rfl rfl (any_of HT_.out (by kernel_rfl)) (fun _ _ _ h => h) (Or.inl ⟨by rfl, ?_⟩) ?_ ?_
                    rotate_left
                    · intro w'
                      go_simp
                      with_reducible rfl
                    rotate_left
                    · simp only [Act.put, List.setIfInBounds_toArray, List.set_cons_zero, List.set_cons_succ, i64_w, i32_w]
                      rfl
                    refine pure_ (i := 5) (N := some 21) (v := ?_) (a' := ?_) #[true, true, true, true, false, true, false, false, false, false, false, false, false, false, false, false, false, false, false, false, false, false, false, false, false, false, false, false, false, false, false, false, false, false, false, false, false, false] rfl rfl (any_of HT_.out (by kernel_rfl)) (fun _ _ _ h => h) (Or.inl ⟨by rfl, ?_⟩) ?_ ?_
                    rotate_left
                    · intro w'
                      go_simp
                      with_reducible rfl
                    rotate_left
                    · simp only [Act.put, List.setIfInBounds_toArray, List.set_cons_zero, List.set_cons_succ, i64_w, i32_w]
                      rfl
                    refine pure_ (i := 6) (N := some 22) (v := ?_) (a' := ?_) #[true, true, true, true, false, true, true, false, false, false, false, false, false, false, false, false, false, false, false, false, false, false, false, false, false, false, false, false, false, false, false, false, false, false, false, false, false, false] rfl rfl (any_of HT_.out (by kernel_rfl)) (fun _ _ _ h => h) (Or.inl ⟨by rfl, ?_⟩) ?_ ?_
                    rotate_left
                    · intro w'
                      go_simp
                      with_reducible rfl
                    rotate_left
                    · simp only [Act.put, List.setIfInBounds_toArray, List.set_cons_zero, List.set_cons_succ, i64_w, i32_w]
                      rfl
                    refine pure_ (i := 7) (N := some 23) (v := ?_) (a' := ?_) #[true, true, true, true, false, true, true, true, false, false, false, false, false, false, false, false, false, false, false, false, false, false, false, false, false, false, false, false, false, false, false, false, false, false, false, false, false, false] rfl rfl (any_of HT_.out (by kernel_rfl)) (fun _ _ _ h => h) (Or.inl ⟨by rfl, ?_⟩) ?_ ?_
                    rotate_left
                    · intro w'
                      go_simp
                      with_reducible rfl
                    rotate_left
                    · simp only [Act.put, List.setIfInBounds_toArray, List.set_cons_zero, List.set_cons_succ, i64_w, i32_w]
                      rfl
                    refine pure_ (i := 8) (N := some 24) (v := ?_) (a' := ?_) #[true, true, true, true, false, true, true, true, true, false, false, false, false, false, false, false, false, false, false, false, false, false, false, false, false, false, false, false, false, false, false, false, false, false, false, false, false, false] rfl rfl (any_of HT_.out (by kernel_rfl)) (fun _ _ _ h => h) (Or.inl ⟨by rfl, ?_⟩) ?_ ?_
                    rotate_left
                    · intro w'
                      go_simp
                      with_reducible rfl
                    rotate_left
                    · simp only [Act.put, List.setIfInBounds_toArray, List.set_cons_zero, List.set_cons_succ, i64_w, i32_w]
                      rfl
                    refine take_ (i := 4) (N := some 20) (v := ?_) (a' := ?_) #[true, true, true, true, true, true, true, true, true, false, false, false, false, false, false, false, false, false, false, false, false, false, false, false, false, false, false, false, false, false, false, false, false, false, false, false, false, false] rfl rfl (take_ofW HT_.out HW_.out (by kernel_rfl)) (fun _ _ _ h => h) (Or.inl ⟨by rfl, ?_⟩) hHeld ?_ ?_
                    rotate_left
                    · rintro w' ⟨s0, s1, s2, s3, s4, s5, s6, s7, s8, s9, s10, s11⟩
                      go_simp
                      with_reducible rfl
                    rotate_left
                    · simp only [Act.put, List.setIfInBounds_toArray, List.set_cons_zero, List.set_cons_succ, i64_w, i32_w]
                      rfl
                    refine take_ (i := 9) (N := some 25) (v := ?_) (a' := ?_) #[true, true, true, true, true, true, true, true, true, true, false, false, false, false, false, false, false, false, false, false, false, false, false, false, false, false, false, false, false, false, false, false, false, false, false, false, false, false] rfl rfl (take_ofW HT_.out HW_.out (by kernel_rfl)) (fun _ _ _ h => h) (Or.inl ⟨by rfl, ?_⟩) hHeld ?_ ?_
                    rotate_left
                    · rintro w' ⟨s0, s1, s2, s3, s4, s5, s6, s7, s8, s9, s10, s11⟩
                      go_simp
                      with_reducible rfl
                    rotate_left
                    · simp only [Act.put, List.setIfInBounds_toArray, List.set_cons_zero, List.set_cons_succ, i64_w, i32_w]
                      rfl
                    refine pure_ (i := 10) (N := some 26) (v := ?_) (a' := ?_) #[true, true, true, true, true, true, true, true, true, true, true, false, false, false, false, false, false, false, false, false, false, false, false, false, false, false, false, false, false, false, false, false, false, false, false, false, false, false] rfl rfl (any_of HT_.out (by kernel_rfl)) (fun _ _ _ h => h) (Or.inl ⟨by rfl, ?_⟩) ?_ ?_
                    rotate_left
                    · intro w'
                      go_simp
                      with_reducible rfl
                    rotate_left
                    · simp only [Act.put, List.setIfInBounds_toArray, List.set_cons_zero, List.set_cons_succ, i64_w, i32_w]
                      rfl
                    refine pure_ (i := 11) (N := some 27) (v := ?_) (a' := ?_) #[true, true, true, true, true, true, true, true, true, true, true, true, false, false, false, false, false, false, false, false, false, false, false, false, false, false, false, false, false, false, false, false, false, false, false, false, false, false] rfl rfl (any_of HT_.out (by kernel_rfl)) (fun _ _ _ h => h) (Or.inl ⟨by rfl, ?_⟩) ?_ ?_
                    rotate_left
                    · intro w'
                      go_simp
                      with_reducible rfl
                    rotate_left
                    · simp only [Act.put, List.setIfInBounds_toArray, List.set_cons_zero, List.set_cons_succ, i64_w, i32_w]
                      rfl
                    refine pure_ (i := 12) (N := some 28) (v := ?_) (a' := ?_) #[true, true, true, true, true, true, true, true, true, true, true, true, true, false, false, false, false, false, false, false, false, false, false, false, false, false, false, false, false, false, false, false, false, false, false, false, false, false] rfl rfl (any_of HT_.out (by kernel_rfl)) (fun _ _ _ h => h) (Or.inl ⟨by rfl, ?_⟩) ?_ ?_
                    rotate_left
                    · intro w'
                      go_simp
                      with_reducible rfl
                    rotate_left
                    · simp only [Act.put, List.setIfInBounds_toArray, List.set_cons_zero, List.set_cons_succ, i64_w, i32_w]
                      rfl
                    refine pure_ (i := 13) (N := some 29) (v := ?_) (a' := ?_) #[true, true, true, true, true, true, true, true, true, true, true, true, true, true, false, false, false, false, false, false, false, false, false, false, false, false, false, false, false, false, false, false, false, false, false, false, false, false] rfl rfl (any_of HT_.out (by kernel_rfl)) (fun _ _ _ h => h) (Or.inl ⟨by rfl, ?_⟩) ?_ ?_
                    rotate_left
                    · intro w'
                      go_simp
                      with_reducible rfl
                    rotate_left
                    · simp only [Act.put, List.setIfInBounds_toArray, List.set_cons_zero, List.set_cons_succ, i64_w, i32_w]
                      rfl
                    refine pure_ (i := 14) (N := some 30) (v := ?_) (a' := ?_) #[true, true, true, true, true, true, true, true, true, true, true, true, true, true, true, false, false, false, false, false, false, false, false, false, false, false, false, false, false, false, false, false, false, false, false, false, false, false] rfl rfl (any_of HT_.out (by kernel_rfl)) (fun _ _ _ h => h) (Or.inl ⟨by rfl, ?_⟩) ?_ ?_
                    rotate_left
                    · intro w'
                      go_simp
                      with_reducible rfl
                    rotate_left
                    · simp only [Act.put, List.setIfInBounds_toArray, List.set_cons_zero, List.set_cons_succ, i64_w, i32_w]
                      rfl
                    refine pure_ (i := 15) (N := some 31) (v := ?_) (a' := ?_) #[true, true, true, true, true, true, true, true, true, true, true, true, true, true, true, true, false, false, false, false, false, false, false, false, false, false, false, false, false, false, false, false, false, false, false, false, false, false] rfl rfl (any_of HT_.out (by kernel_rfl)) (fun _ _ _ h => h) (Or.inl ⟨by rfl, ?_⟩) ?_ ?_
                    rotate_left
                    · intro w'
                      go_simp
                      with_reducible rfl
                    rotate_left
                    · simp only [Act.put, List.setIfInBounds_toArray, List.set_cons_zero, List.set_cons_succ, i64_w, i32_w]
                      rfl
                    refine pure_ (i := 17) (N := some 33) (v := ?_) (a' := ?_) #[true, true, true, true, true, true, true, true, true, true, true, true, true, true, true, true, false, true, false, false, false, false, false, false, false, false, false, false, false, false, false, false, false, false, false, false, false, false] rfl rfl (any_of HT_.out (by kernel_rfl)) (fun _ _ _ h => h) (Or.inl ⟨by rfl, ?_⟩) ?_ ?_
                    rotate_left
                    · intro w'
                      go_simp
                      with_reducible rfl
                    rotate_left
                    · simp only [Act.put, List.setIfInBounds_toArray, List.set_cons_zero, List.set_cons_succ, i64_w, i32_w]
                      rfl
                    refine pure_ (i := 18) (N := some 34) (v := ?_) (a' := ?_) #[true, true, true, true, true, true, true, true, true, true, true, true, true, true, true, true, false, true, true, false, false, false, false, false, false, false, false, false, false, false, false, false, false, false, false, false, false, false] rfl rfl (any_of HT_.out (by kernel_rfl)) (fun _ _ _ h => h) (Or.inl ⟨by rfl, ?_⟩) ?_ ?_
                    rotate_left
                    · intro w'
                      go_simp
                      with_reducible rfl
                    rotate_left
                    · simp only [Act.put, List.setIfInBounds_toArray, List.set_cons_zero, List.set_cons_succ, i64_w, i32_w]
                      rfl
                    refine pure_ (i := 19) (N := some 35) (v := ?_) (a' := ?_) #[true, true, true, true, true, true, true, true, true, true, true, true, true, true, true, true, false, true, true, true, false, false, false, false, false, false, false, false, false, false, false, false, false, false, false, false, false, false] rfl rfl (any_of HT_.out (by kernel_rfl)) (fun _ _ _ h => h) (Or.inl ⟨by rfl, ?_⟩) ?_ ?_
                    rotate_left
                    · intro w'
                      go_simp
                      with_reducible rfl
                    rotate_left
                    · simp only [Act.put, List.setIfInBounds_toArray, List.set_cons_zero, List.set_cons_succ, i64_w, i32_w]
                      rfl
                    refine pure_ (i := 20) (N := some 36) (v := ?_) (a' := ?_) #[true, true, true, true, true, true, true, true, true, true, true, true, true, true, true, true, false, true, true, true, true, false, false, false, false, false, false, false, false, false, false, false, false, false, false, false, false, false] rfl rfl (any_of HT_.out (by kernel_rfl)) (fun _ _ _ h => h) (Or.inl ⟨by rfl, ?_⟩) ?_ ?_
                    rotate_left
                    · intro w'
                      go_simp
                      with_reducible rfl
                    rotate_left
                    · simp only [Act.put, List.setIfInBounds_toArray, List.set_cons_zero, List.set_cons_succ, i64_w, i32_w]
                      rfl
                    refine take_ (i := 16) (N := some 32) (v := ?_) (a' := ?_) #[true, true, true, true, true, true, true, true, true, true, true, true, true, true, true, true, true, true, true, true, true, false, false, false, false, false, false, false, false, false, false, false, false, false, false, false, false, false] rfl rfl (take_ofW HT_.out HW_.out (by kernel_rfl)) (fun _ _ _ h => h) (Or.inl ⟨by rfl, ?_⟩) hHeld ?_ ?_
                    rotate_left
                    · rintro w' ⟨s0, s1, s2, s3, s4, s5, s6, s7, s8, s9, s10, s11⟩
                      go_simp
                      with_reducible rfl
                    rotate_left
                    · simp only [Act.put, List.setIfInBounds_toArray, List.set_cons_zero, List.set_cons_succ, i64_w, i32_w]
                      rfl
                    refine take_ (i := 21) (N := some 37) (v := ?_) (a' := ?_) #[true, true, true, true, true, true, true, true, true, true, true, true, true, true, true, true, true, true, true, true, true, true, false, false, false, false, false, false, false, false, false, false, false, false, false, false, false, false] rfl rfl (take_ofW HT_.out HW_.out (by kernel_rfl)) (fun _ _ _ h => h) (Or.inl ⟨by rfl, ?_⟩) hHeld ?_ ?_
                    rotate_left
                    · rintro w' ⟨s0, s1, s2, s3, s4, s5, s6, s7, s8, s9, s10, s11⟩
                      go_simp
                      with_reducible rfl
                    rotate_left
                    · simp only [Act.put, List.setIfInBounds_toArray, List.set_cons_zero, List.set_cons_succ, i64_w, i32_w]
                      rfl
                    refine pure_ (i := 22) (N := some 38) (v := ?_) (a' := ?_) #[true, true, true, true, true, true, true, true, true, true, true, true, true, true, true, true, true, true, true, true, true, true, true, false, false, false, false, false, false, false, false, false, false, false, false, false, false, false] rfl rfl (any_of HT_.out (by kernel_rfl)) (fun _ _ _ h => h) (Or.inl ⟨by rfl, ?_⟩) ?_ ?_
                    rotate_left
                    · intro w'
                      go_simp
                      with_reducible rfl
                    rotate_left
                    · simp only [Act.put, List.setIfInBounds_toArray, List.set_cons_zero, List.set_cons_succ, i64_w, i32_w]
                      rfl
                    refine pure_ (i := 23) (N := some 39) (v := ?_) (a' := ?_) #[true, true, true, true, true, true, true, true, true, true, true, true, true, true, true, true, true, true, true, true, true, true, true, true, false, false, false, false, false, false, false, false, false, false, false, false, false, false] rfl rfl (any_of HT_.out (by kernel_rfl)) (fun _ _ _ h => h) (Or.inl ⟨by rfl, ?_⟩) ?_ ?_
                    rotate_left
                    · intro w'
                      go_simp
                      with_reducible rfl
                    rotate_left
                    · simp only [Act.put, List.setIfInBounds_toArray, List.set_cons_zero, List.set_cons_succ, i64_w, i32_w]
                      rfl
                    refine pure_ (i := 24) (N := some 40) (v := ?_) (a' := ?_) #[true, true, true, true, true, true, true, true, true, true, true, true, true, true, true, true, true, true, true, true, true, true, true, true, true, false, false, false, false, false, false, false, false, false, false, false, false, false] rfl rfl (any_of HT_.out (by kernel_rfl)) (fun _ _ _ h => h) (Or.inl ⟨by rfl, ?_⟩) ?_ ?_
                    rotate_left
                    · intro w'
                      go_simp
                      with_reducible rfl
                    rotate_left
                    · simp only [Act.put, List.setIfInBounds_toArray, List.set_cons_zero, List.set_cons_succ, i64_w, i32_w]
                      rfl
                    refine pure_ (i := 25) (N := some 41) (v := undef) (a' := ?_) #[true, true, true, true, true, true, true, true, true, true, true, true, true, true, true, true, true, true, true, true, true, true, true, true, true, true, false, false, false, false, false, false, false, false, false, false, false, false] rfl rfl (any_of HT_.out (by kernel_rfl)) (fun _ _ _ h => h) (Or.inr ⟨by rfl, rfl⟩) ?_ ?_
                    rotate_left
                    · simp only [Act.put, List.setIfInBounds_toArray, List.set_cons_zero, List.set_cons_succ, i64_w, i32_w]
                      rfl
                    refine pure_ (i := 26) (N := some 42) (v := undef) (a' := ?_) #[true, true, true, true, true, true, true, true, true, true, true, true, true, true, true, true, true, true, true, true, true, true, true, true, true, true, true, false, false, false, false, false, false, false, false, false, false, false] rfl rfl (any_of HT_.out (by kernel_rfl)) (fun _ _ _ h => h) (Or.inr ⟨by rfl, rfl⟩) ?_ ?_
                    rotate_left
                    · simp only [Act.put, List.setIfInBounds_toArray, List.set_cons_zero, List.set_cons_succ, i64_w, i32_w]
                      rfl
                    refine pure_ (i := 27) (N := some 43) (v := undef) (a' := ?_) #[true, true, true, true, true, true, true, true, true, true, true, true, true, true, true, true, true, true, true, true, true, true, true, true, true, true, true, true, false, false, false, false, false, false, false, false, false, false] rfl rfl (any_of HT_.out (by kernel_rfl)) (fun _ _ _ h => h) (Or.inr ⟨by rfl, rfl⟩) ?_ ?_
                    rotate_left
                    · simp only [Act.put, List.setIfInBounds_toArray, List.set_cons_zero, List.set_cons_succ, i64_w, i32_w]
                      rfl
                    refine pure_ (i := 28) (N := some 44) (v := undef) (a' := ?_) #[true, true, true, true, true, true, true, true, true, true, true, true, true, true, true, true, true, true, true, true, true, true, true, true, true, true, true, true, true, false, false, false, false, false, false, false, false, false] rfl rfl (any_of HT_.out (by kernel_rfl)) (fun _ _ _ h => h) (Or.inr ⟨by rfl, rfl⟩) ?_ ?_
                    rotate_left
                    · simp only [Act.put, List.setIfInBounds_toArray, List.set_cons_zero, List.set_cons_succ, i64_w, i32_w]
                      rfl
                    refine pure_ (i := 29) (N := some 45) (v := undef) (a' := ?_) #[true, true, true, true, true, true, true, true, true, true, true, true, true, true, true, true, true, true, true, true, true, true, true, true, true, true, true, true, true, true, false, false, false, false, false, false, false, false] rfl rfl (any_of HT_.out (by kernel_rfl)) (fun _ _ _ h => h) (Or.inr ⟨by rfl, rfl⟩) ?_ ?_
                    rotate_left
                    · simp only [Act.put, List.setIfInBounds_toArray, List.set_cons_zero, List.set_cons_succ, i64_w, i32_w]
                      rfl
                    refine pure_ (i := 30) (N := some 46) (v := undef) (a' := ?_) #[true, true, true, true, true, true, true, true, true, true, true, true, true, true, true, true, true, true, true, true, true, true, true, true, true, true, true, true, true, true, true, false, false, false, false, false, false, false] rfl rfl (any_of HT_.out (by kernel_rfl)) (fun _ _ _ h => h) (Or.inr ⟨by rfl, rfl⟩) ?_ ?_
                    rotate_left
                    · simp only [Act.put, List.setIfInBounds_toArray, List.set_cons_zero, List.set_cons_succ, i64_w, i32_w]
                      rfl
                    refine pure_ (i := 31) (N := some 47) (v := undef) (a' := ?_) #[true, true, true, true, true, true, true, true, true, true, true, true, true, true, true, true, true, true, true, true, true, true, true, true, true, true, true, true, true, true, true, true, false, false, false, false, false, false] rfl rfl (any_of HT_.out (by kernel_rfl)) (fun _ _ _ h => h) (Or.inr ⟨by rfl, rfl⟩) ?_ ?_
                    rotate_left
                    · simp only [Act.put, List.setIfInBounds_toArray, List.set_cons_zero, List.set_cons_succ, i64_w, i32_w]
                      rfl
                    refine pure_ (i := 32) (N := some 48) (v := undef) (a' := ?_) #[true, true, true, true, true, true, true, true, true, true, true, true, true, true, true, true, true, true, true, true, true, true, true, true, true, true, true, true, true, true, true, true, true, false, false, false, false, false] rfl rfl (any_of HT_.out (by kernel_rfl)) (fun _ _ _ h => h) (Or.inr ⟨by rfl, rfl⟩) ?_ ?_
                    rotate_left
                    · simp only [Act.put, List.setIfInBounds_toArray, List.set_cons_zero, List.set_cons_succ, i64_w, i32_w]
                      rfl
                    refine pure_ (i := 33) (N := some 49) (v := undef) (a' := ?_) #[true, true, true, true, true, true, true, true, true, true, true, true, true, true, true, true, true, true, true, true, true, true, true, true, true, true, true, true, true, true, true, true, true, true, false, false, false, false] rfl rfl (any_of HT_.out (by kernel_rfl)) (fun _ _ _ h => h) (Or.inr ⟨by rfl, rfl⟩) ?_ ?_
                    rotate_left
                    · simp only [Act.put, List.setIfInBounds_toArray, List.set_cons_zero, List.set_cons_succ, i64_w, i32_w]
                      rfl
                    refine pure_ (i := 34) (N := some 50) (v := undef) (a' := ?_) #[true, true, true, true, true, true, true, true, true, true, true, true, true, true, true, true, true, true, true, true, true, true, true, true, true, true, true, true, true, true, true, true, true, true, true, false, false, false] rfl rfl (any_of HT_.out (by kernel_rfl)) (fun _ _ _ h => h) (Or.inr ⟨by rfl, rfl⟩) ?_ ?_
                    rotate_left
                    · simp only [Act.put, List.setIfInBounds_toArray, List.set_cons_zero, List.set_cons_succ, i64_w, i32_w]
                      rfl
                    refine pure_ (i := 35) (N := some 51) (v := undef) (a' := ?_) #[true, true, true, true, true, true, true, true, true, true, true, true, true, true, true, true, true, true, true, true, true, true, true, true, true, true, true, true, true, true, true, true, true, true, true, true, false, false] rfl rfl (any_of HT_.out (by kernel_rfl)) (fun _ _ _ h => h) (Or.inr ⟨by rfl, rfl⟩) ?_ ?_
                    rotate_left
                    · simp only [Act.put, List.setIfInBounds_toArray, List.set_cons_zero, List.set_cons_succ, i64_w, i32_w]
                      rfl
                    refine pure_ (i := 36) (N := some 52) (v := undef) (a' := ?_) #[true, true, true, true, true, true, true, true, true, true, true, true, true, true, true, true, true, true, true, true, true, true, true, true, true, true, true, true, true, true, true, true, true, true, true, true, true, false] rfl rfl (any_of HT_.out (by kernel_rfl)) (fun _ _ _ h => h) (Or.inr ⟨by rfl, rfl⟩) ?_ ?_
                    rotate_left
                    · simp only [Act.put, List.setIfInBounds_toArray, List.set_cons_zero, List.set_cons_succ, i64_w, i32_w]
                      rfl
                    refine pure_ (i := 37) (N := some 53) (v := ?_) (a' := ?_) #[true, true, true, true, true, true, true, true, true, true, true, true, true, true, true, true, true, true, true, true, true, true, true, true, true, true, true, true, true, true, true, true, true, true, true, true, true, true] rfl rfl (any_of HT_.out (by kernel_rfl)) (fun _ _ _ h => h) (Or.inl ⟨by rfl, ?_⟩) ?_ ?_
                    rotate_left
                    · intro w'
                      go_simp
                      with_reducible rfl
                    rotate_left
                    · simp only [Act.put, List.setIfInBounds_toArray, List.set_cons_zero, List.set_cons_succ, i64_w, i32_w]
                      rfl
                    refine done_ (done_of HT_.out (by kernel_rfl)) ?_
                    try go_wp2
                    go_ret
                    exact ⟨by first | rfl | (simp [errW_none, errW_some] <;> rfl) | (simp [*, errW_none, errW_some] <;> rfl), by repeat (first | (with_reducible first | exact HB.out | apply below_alloc | apply pw_below_drewN | apply below_drew1) | exact HB.out)⟩
                · rw [if_neg c8] at H
                  have c8b0 : (((rd_T59 l0 x13_1).f0).toList == ((rd_T59 l1 x13_1).f0).toList) = false := beq_eq_false_iff_ne.mpr c8
                  have c8b1 : (((rd_T59 l0 x13_1).f0).toList != ((rd_T59 l1 x13_1).f0).toList) = true := bne_iff_ne.mpr c8
                  obtain rfl := Option.some.inj H
                  try go_wp2
                  have n0_ := Aside0.mk (below_drew1 HB.out)
                  clear HB
                  have HB := n0_
                  clear n0_
                  have p149 : 0 ≤ (x13_1 : Int) := of_decide_eq_true (by first | (with_reducible assumption) | assumption)
                  have q149 : x13_1 < (l0.length : Int) := of_decide_eq_true (by first | (with_reducible assumption) | assumption)
                  obtain ⟨ad149, A149_2, c149_2, e149, hx149_0, hx149_1, hx149_2, hl149_2, hi149_2⟩ := at_T59 HR0.out x13_1 p149 q149
                  have hw149_2 := hx149_2
                  have hw149_1 := hx149_1
                  have hw149_0 := hx149_0
                  cases e149
                  replace hx149_0 := (HB.out.cell (World.block_lt_of_cell? w _ hx149_0)).trans hx149_0
                  replace hx149_1 := (HB.out.cell (World.block_lt_of_cell? w _ hx149_1)).trans hx149_1
                  replace hx149_2 := (HB.out.cell (World.block_lt_of_cell? w _ hx149_2)).trans hx149_2
                  have HR149_2 := Aside0.mk hi149_2
                  have HC149_2 := Aside0.mk hl149_2
                  clear hi149_2 hl149_2
                  replace p149 := eq_true p149
                  replace q149 := eq_true q149
                  have p150 : 0 ≤ (x13_1 : Int) := of_decide_eq_true (by first | (with_reducible assumption) | assumption)
                  have q150 : x13_1 < (l1.length : Int) := of_decide_eq_true (by first | (with_reducible assumption) | assumption)
                  obtain ⟨ad150, A150_2, c150_2, e150, hx150_0, hx150_1, hx150_2, hl150_2, hi150_2⟩ := at_T59 HR1.out x13_1 p150 q150
                  have hw150_2 := hx150_2
                  have hw150_1 := hx150_1
                  have hw150_0 := hx150_0
                  cases e150
                  replace hx150_0 := (HB.out.cell (World.block_lt_of_cell? w _ hx150_0)).trans hx150_0
                  replace hx150_1 := (HB.out.cell (World.block_lt_of_cell? w _ hx150_1)).trans hx150_1
                  replace hx150_2 := (HB.out.cell (World.block_lt_of_cell? w _ hx150_2)).trans hx150_2
                  have HR150_2 := Aside0.mk hi150_2
                  have HC150_2 := Aside0.mk hl150_2
                  clear hi150_2 hl150_2
                  replace p150 := eq_true p150
                  replace q150 := eq_true q150
                  refine start_ (n := 38) (S := fun w' => w'.cell? (ad149.add ((x13_1).toNat * 3)) = some (.string ((rd_T59 l0 x13_1).f0)) ∧ w'.cell? ⟨(ad149.add ((x13_1).toNat * 3)).block, (ad149.add ((x13_1).toNat * 3)).off + 1, none⟩ = some (.int .i64 ((rd_T59 l0 x13_1).f1)) ∧ w'.cell? ⟨(ad149.add ((x13_1).toNat * 3)).block, (ad149.add ((x13_1).toNat * 3)).off + 2, none⟩ = some (.slice A149_2 ((rd_T59 l0 x13_1).f2).length c149_2) ∧ w'.cell? (ad150.add ((x13_1).toNat * 3)) = some (.string ((rd_T59 l1 x13_1).f0)) ∧ w'.cell? ⟨(ad150.add ((x13_1).toNat * 3)).block, (ad150.add ((x13_1).toNat * 3)).off + 1, none⟩ = some (.int .i64 ((rd_T59 l1 x13_1).f1)) ∧ w'.cell? ⟨(ad150.add ((x13_1).toNat * 3)).block, (ad150.add ((x13_1).toNat * 3)).off + 2, none⟩ = some (.slice A150_2 ((rd_T59 l1 x13_1).f2).length c150_2)) (ds := []) #[false, false, false, false, false, false, false, false, false, false, false, false, false, false, false, false, false, false, false, false, false, false, false, false, false, false, false, false, false, false, false, false, false, false, false, false, false, false] (by kernel_rfl) rfl rfl ⟨((HB.out.cell (World.block_lt_of_cell? w _ hw149_0)).trans hw149_0), ((HB.out.cell (World.block_lt_of_cell? w _ hw149_1)).trans hw149_1), ((HB.out.cell (World.block_lt_of_cell? w _ hw149_2)).trans hw149_2), ((HB.out.cell (World.block_lt_of_cell? w _ hw150_0)).trans hw150_0), ((HB.out.cell (World.block_lt_of_cell? w _ hw150_1)).trans hw150_1), ((HB.out.cell (World.block_lt_of_cell? w _ hw150_2)).trans hw150_2)⟩ (fun hHeld => ?_); refine with_tabW provisoplain_SameClasses.tab6 provisoplain_SameClasses.bits6 (fun HT_ HW_ => ?_)
                  generalize wr.drew = w15 at HB HR149_2 HR150_2 hx149_0 hx149_1 hx149_2 hx150_0 hx150_1 hx150_2 hHeld ⊢
                  refine pure_ (i := 0) (N := some 16) (v := ?_) (a' := ?_) #[true, false, false, false, false, false, false, false, false, false, false, false, false, false, false, false, false, false, false, false, false, false, false, false, false, false, false, false, false, false, false, false, false, false, false, false, false, false] rfl rfl (any_of HT_.out (by kernel_rfl)) (fun _ _ _ h => h) (Or.inl ⟨by rfl, ?_⟩) ?_ ?_
                  rotate_left
                  · intro w'
                    go_simp
                    with_reducible rfl
                  rotate_left
                  · simp only [Act.put, List.setIfInBounds_toArray, List.set_cons_zero, List.set_cons_succ, i64_w, i32_w]
                    rfl
                  refine pure_ (i := 1) (N := some 17) (v := ?_) (a' := ?_) #[true, true, false, false, false, false, false, false, false, false, false, false, false, false, false, false, false, false, false, false, false, false, false, false, false, false, false, false, false, false, false, false, false, false, false, false, false, false] rfl rfl (any_of HT_.out (by kernel_rfl)) (fun _ _ _ h => h) (Or.inl ⟨by rfl, ?_⟩) ?_ ?_
                  rotate_left
                  · intro w'
                    go_simp
                    with_reducible rfl
                  rotate_left
                  · simp only [Act.put, List.setIfInBounds_toArray, List.set_cons_zero, List.set_cons_succ, i64_w, i32_w]
                    rfl
                  refine pure_ (i := 2) (N := some 18) (v := ?_) (a' := ?_) #[true, true, true, false, false, false, false, false, false, false, false, false, false, false, false, false, false, false, false, false, false, false, false, false, false, false, false, false, false, false, false, false, false, false, false, false, false, false] rfl rfl (any_of HT_.out (by kernel_rfl)) (fun _ _ _ h => h) (Or.inl ⟨by rfl, ?_⟩) ?_ ?_
                  rotate_left
                  · intro w'
                    go_simp
                    with_reducible rfl
                  rotate_left
                  · simp only [Act.put, List.setIfInBounds_toArray, List.set_cons_zero, List.set_cons_succ, i64_w, i32_w]
                    rfl
                  refine pure_ (i := 3) (N := some 19) (v := ?_) (a' := ?_) #[true, true, true, true, false, false, false, false, false, false, false, false, false, false, false, false, false, false, false, false, false, false, false, false, false, false, false, false, false, false, false, false, false, false, false, false, false, false] rfl rfl (any_of HT_.out (by kernel_rfl)) (fun _ _ _ h => h) (Or.inl ⟨by rfl, ?_⟩) ?_ ?_
                  rotate_left
                  · intro w'
                    go_simp
                    with_reducible rfl
                  rotate_left
                  · simp only [Act.put, List.setIfInBounds_toArray, List.set_cons_zero, List.set_cons_succ, i64_w, i32_w]
                    rfl
                  refine pure_ (i := 5) (N := some 21) (v := ?_) (a' := ?_) #[true, true, true, true, false, true, false, false, false, false, false, false, false, false, false, false, false, false, false, false, false, false, false, false, false, false, false, false, false, false, false, false, false, false, false, false, false, false] rfl rfl (any_of HT_.out (by kernel_rfl)) (fun _ _ _ h => h) (Or.inl ⟨by rfl, ?_⟩) ?_ ?_
                  rotate_left
                  · intro w'
                    go_simp
                    with_reducible rfl
                  rotate_left
                  · simp only [Act.put, List.setIfInBounds_toArray, List.set_cons_zero, List.set_cons_succ, i64_w, i32_w]
                    rfl
                  refine pure_ (i := 6) (N := some 22) (v := ?_) (a' := ?_) #[true, true, true, true, false, true, true, false, false, false, false, false, false, false, false, false, false, false, false, false, false, false, false, false, false, false, false, false, false, false, false, false, false, false, false, false, false, false] rfl rfl (any_of HT_.out (by kernel_rfl)) (fun _ _ _ h => h) (Or.inl ⟨by rfl, ?_⟩) ?_ ?_
                  rotate_left
                  · intro w'
                    go_simp
                    with_reducible rfl
                  rotate_left
                  · simp only [Act.put, List.setIfInBounds_toArray, List.set_cons_zero, List.set_cons_succ, i64_w, i32_w]
                    rfl
                  refine pure_ (i := 7) (N := some 23) (v := ?_) (a' := ?_) #[true, true, true, true, false, true, true, true, false, false, false, false, false, false, false, false, false, false, false, false, false, false, false, false, false, false, false, false, false, false, false, false, false, false, false, false, false, false] rfl rfl (any_of HT_.out (by kernel_rfl)) (fun _ _ _ h => h) (Or.inl ⟨by rfl, ?_⟩) ?_ ?_
                  rotate_left
                  · intro w'
                    go_simp
                    with_reducible rfl
                  rotate_left
                  · simp only [Act.put, List.setIfInBounds_toArray, List.set_cons_zero, List.set_cons_succ, i64_w, i32_w]
                    rfl
                  refine pure_ (i := 8) (N := some 24) (v := ?_) (a' := ?_) #[true, true, true, true, false, true, true, true, true, false, false, false, false, false, false, false, false, false, false, false, false, false, false, false, false, false, false, false, false, false, false, false, false, false, false, false, false, false] rfl rfl (any_of HT_.out (by kernel_rfl)) (fun _ _ _ h => h) (Or.inl ⟨by rfl, ?_⟩) ?_ ?_
                  rotate_left
                  · intro w'
                    go_simp
                    with_reducible rfl
                  rotate_left
                  · simp only [Act.put, List.setIfInBounds_toArray, List.set_cons_zero, List.set_cons_succ, i64_w, i32_w]
                    rfl
                  refine take_ (i := 4) (N := some 20) (v := ?_) (a' := ?_) #[true, true, true, true, true, true, true, true, true, false, false, false, false, false, false, false, false, false, false, false, false, false, false, false, false, false, false, false, false, false, false, false, false, false, false, false, false, false] rfl rfl (take_ofW HT_.out HW_.out (by kernel_rfl)) (fun _ _ _ h => h) (Or.inl ⟨by rfl, ?_⟩) hHeld ?_ ?_
                  rotate_left
                  · rintro w' ⟨s0, s1, s2, s3, s4, s5⟩
                    go_simp
                    with_reducible rfl
                  rotate_left
                  · simp only [Act.put, List.setIfInBounds_toArray, List.set_cons_zero, List.set_cons_succ, i64_w, i32_w]
                    rfl
                  refine take_ (i := 9) (N := some 25) (v := ?_) (a' := ?_) #[true, true, true, true, true, true, true, true, true, true, false, false, false, false, false, false, false, false, false, false, false, false, false, false, false, false, false, false, false, false, false, false, false, false, false, false, false, false] rfl rfl (take_ofW HT_.out HW_.out (by kernel_rfl)) (fun _ _ _ h => h) (Or.inl ⟨by rfl, ?_⟩) hHeld ?_ ?_
                  rotate_left
                  · rintro w' ⟨s0, s1, s2, s3, s4, s5⟩
                    go_simp
                    with_reducible rfl
                  rotate_left
                  · simp only [Act.put, List.setIfInBounds_toArray, List.set_cons_zero, List.set_cons_succ, i64_w, i32_w]
                    rfl
                  refine pure_ (i := 10) (N := some 26) (v := ?_) (a' := ?_) #[true, true, true, true, true, true, true, true, true, true, true, false, false, false, false, false, false, false, false, false, false, false, false, false, false, false, false, false, false, false, false, false, false, false, false, false, false, false] rfl rfl (any_of HT_.out (by kernel_rfl)) (fun _ _ _ h => h) (Or.inl ⟨by rfl, ?_⟩) ?_ ?_
                  rotate_left
                  · intro w'
                    go_simp
                    with_reducible rfl
                  rotate_left
                  · simp only [Act.put, List.setIfInBounds_toArray, List.set_cons_zero, List.set_cons_succ, i64_w, i32_w]
                    rfl
                  refine pure_ (i := 11) (N := some 27) (v := ?_) (a' := ?_) #[true, true, true, true, true, true, true, true, true, true, true, true, false, false, false, false, false, false, false, false, false, false, false, false, false, false, false, false, false, false, false, false, false, false, false, false, false, false] rfl rfl (any_of HT_.out (by kernel_rfl)) (fun _ _ _ h => h) (Or.inl ⟨by rfl, ?_⟩) ?_ ?_
                  rotate_left
                  · intro w'
                    go_simp
                    with_reducible rfl
                  rotate_left
                  · simp only [Act.put, List.setIfInBounds_toArray, List.set_cons_zero, List.set_cons_succ, i64_w, i32_w]
                    rfl
                  refine pure_ (i := 12) (N := some 28) (v := undef) (a' := ?_) #[true, true, true, true, true, true, true, true, true, true, true, true, true, false, false, false, false, false, false, false, false, false, false, false, false, false, false, false, false, false, false, false, false, false, false, false, false, false] rfl rfl (any_of HT_.out (by kernel_rfl)) (fun _ _ _ h => h) (Or.inr ⟨by rfl, rfl⟩) ?_ ?_
                  rotate_left
                  · simp only [Act.put, List.setIfInBounds_toArray, List.set_cons_zero, List.set_cons_succ, i64_w, i32_w]
                    rfl
                  refine pure_ (i := 13) (N := some 29) (v := undef) (a' := ?_) #[true, true, true, true, true, true, true, true, true, true, true, true, true, true, false, false, false, false, false, false, false, false, false, false, false, false, false, false, false, false, false, false, false, false, false, false, false, false] rfl rfl (any_of HT_.out (by kernel_rfl)) (fun _ _ _ h => h) (Or.inr ⟨by rfl, rfl⟩) ?_ ?_
                  rotate_left
                  · simp only [Act.put, List.setIfInBounds_toArray, List.set_cons_zero, List.set_cons_succ, i64_w, i32_w]
                    rfl
                  refine pure_ (i := 14) (N := some 30) (v := undef) (a' := ?_) #[true, true, true, true, true, true, true, true, true, true, true, true, true, true, true, false, false, false, false, false, false, false, false, false, false, false, false, false, false, false, false, false, false, false, false, false, false, false] rfl rfl (any_of HT_.out (by kernel_rfl)) (fun _ _ _ h => h) (Or.inr ⟨by rfl, rfl⟩) ?_ ?_
                  rotate_left
                  · simp only [Act.put, List.setIfInBounds_toArray, List.set_cons_zero, List.set_cons_succ, i64_w, i32_w]
                    rfl
                  refine pure_ (i := 15) (N := some 31) (v := undef) (a' := ?_) #[true, true, true, true, true, true, true, true, true, true, true, true, true, true, true, true, false, false, false, false, false, false, false, false, false, false, false, false, false, false, false, false, false, false, false, false, false, false] rfl rfl (any_of HT_.out (by kernel_rfl)) (fun _ _ _ h => h) (Or.inr ⟨by rfl, rfl⟩) ?_ ?_
                  rotate_left
                  · simp only [Act.put, List.setIfInBounds_toArray, List.set_cons_zero, List.set_cons_succ, i64_w, i32_w]
                    rfl
                  refine pure_ (i := 16) (N := some 32) (v := undef) (a' := ?_) #[true, true, true, true, true, true, true, true, true, true, true, true, true, true, true, true, true, false, false, false, false, false, false, false, false, false, false, false, false, false, false, false, false, false, false, false, false, false] rfl rfl (any_of HT_.out (by kernel_rfl)) (fun _ _ _ h => h) (Or.inr ⟨by rfl, rfl⟩) ?_ ?_
                  rotate_left
                  · simp only [Act.put, List.setIfInBounds_toArray, List.set_cons_zero, List.set_cons_succ, i64_w, i32_w]
                    rfl
                  refine pure_ (i := 17) (N := some 33) (v := undef) (a' := ?_) #[true, true, true, true, true, true, true, true, true, true, true, true, true, true, true, true, true, true, false, false, false, false, false, false, false, false, false, false, false, false, false, false, false, false, false, false, false, false] rfl rfl (any_of HT_.out (by kernel_rfl)) (fun _ _ _ h => h) (Or.inr ⟨by rfl, rfl⟩) ?_ ?_
                  rotate_left
                  · simp only [Act.put, List.setIfInBounds_toArray, List.set_cons_zero, List.set_cons_succ, i64_w, i32_w]
                    rfl
                  refine pure_ (i := 18) (N := some 34) (v := undef) (a' := ?_) #[true, true, true, true, true, true, true, true, true, true, true, true, true, true, true, true, true, true, true, false, false, false, false, false, false, false, false, false, false, false, false, false, false, false, false, false, false, false] rfl rfl (any_of HT_.out (by kernel_rfl)) (fun _ _ _ h => h) (Or.inr ⟨by rfl, rfl⟩) ?_ ?_
                  rotate_left
                  · simp only [Act.put, List.setIfInBounds_toArray, List.set_cons_zero, List.set_cons_succ, i64_w, i32_w]
                    rfl
                  refine pure_ (i := 19) (N := some 35) (v := undef) (a' := ?_) #[true, true, true, true, true, true, true, true, true, true, true, true, true, true, true, true, true, true, true, true, false, false, false, false, false, false, false, false, false, false, false, false, false, false, false, false, false, false] rfl rfl (any_of HT_.out (by kernel_rfl)) (fun _ _ _ h => h) (Or.inr ⟨by rfl, rfl⟩) ?_ ?_
                  rotate_left
                  · simp only [Act.put, List.setIfInBounds_toArray, List.set_cons_zero, List.set_cons_succ, i64_w, i32_w]
                    rfl
                  refine pure_ (i := 20) (N := some 36) (v := undef) (a' := ?_) #[true, true, true, true, true, true, true, true, true, true, true, true, true, true, true, true, true, true, true, true, true, false, false, false, false, false, false, false, false, false, false, false, false, false, false, false, false, false] rfl rfl (any_of HT_.out (by kernel_rfl)) (fun _ _ _ h => h) (Or.inr ⟨by rfl, rfl⟩) ?_ ?_
                  rotate_left
                  · simp only [Act.put, List.setIfInBounds_toArray, List.set_cons_zero, List.set_cons_succ, i64_w, i32_w]
                    rfl
                  refine pure_ (i := 21) (N := some 37) (v := undef) (a' := ?_) #[true, true, true, true, true, true, true, true, true, true, true, true, true, true, true, true, true, true, true, true, true, true, false, false, false, false, false, false, false, false, false, false, false, false, false, false, false, false] rfl rfl (any_of HT_.out (by kernel_rfl)) (fun _ _ _ h => h) (Or.inr ⟨by rfl, rfl⟩) ?_ ?_
                  rotate_left
                  · simp only [Act.put, List.setIfInBounds_toArray, List.set_cons_zero, List.set_cons_succ, i64_w, i32_w]
                    rfl
                  refine pure_ (i := 22) (N := some 38) (v := undef) (a' := ?_) #[true, true, true, true, true, true, true, true, true, true, true, true, true, true, true, true, true, true, true, true, true, true, true, false, false, false, false, false, false, false, false, false, false, false, false, false, false, false] rfl rfl (any_of HT_.out (by kernel_rfl)) (fun _ _ _ h => h) (Or.inr ⟨by rfl, rfl⟩) ?_ ?_
                  rotate_left
                  · simp only [Act.put, List.setIfInBounds_toArray, List.set_cons_zero, List.set_cons_succ, i64_w, i32_w]
                    rfl
                  refine pure_ (i := 23) (N := some 39) (v := ?_) (a' := ?_) #[true, true, true, true, true, true, true, true, true, true, true, true, true, true, true, true, true, true, true, true, true, true, true, true, false, false, false, false, false, false, false, false, false, false, false, false, false, false] rfl rfl (any_of HT_.out (by kernel_rfl)) (fun _ _ _ h => h) (Or.inl ⟨by rfl, ?_⟩) ?_ ?_
                  rotate_left
                  · intro w'
                    go_simp
                    with_reducible rfl
                  rotate_left
                  · simp only [Act.put, List.setIfInBounds_toArray, List.set_cons_zero, List.set_cons_succ, i64_w, i32_w]
                    rfl
                  refine pure_ (i := 24) (N := some 40) (v := ?_) (a' := ?_) #[true, true, true, true, true, true, true, true, true, true, true, true, true, true, true, true, true, true, true, true, true, true, true, true, true, false, false, false, false, false, false, false, false, false, false, false, false, false] rfl rfl (any_of HT_.out (by kernel_rfl)) (fun _ _ _ h => h) (Or.inl ⟨by rfl, ?_⟩) ?_ ?_
                  rotate_left
                  · intro w'
                    go_simp
                    with_reducible rfl
                  rotate_left
                  · simp only [Act.put, List.setIfInBounds_toArray, List.set_cons_zero, List.set_cons_succ, i64_w, i32_w]
                    rfl
                  refine pure_ (i := 25) (N := some 41) (v := undef) (a' := ?_) #[true, true, true, true, true, true, true, true, true, true, true, true, true, true, true, true, true, true, true, true, true, true, true, true, true, true, false, false, false, false, false, false, false, false, false, false, false, false] rfl rfl (any_of HT_.out (by kernel_rfl)) (fun _ _ _ h => h) (Or.inr ⟨by rfl, rfl⟩) ?_ ?_
                  rotate_left
                  · simp only [Act.put, List.setIfInBounds_toArray, List.set_cons_zero, List.set_cons_succ, i64_w, i32_w]
                    rfl
                  refine pure_ (i := 26) (N := some 42) (v := undef) (a' := ?_) #[true, true, true, true, true, true, true, true, true, true, true, true, true, true, true, true, true, true, true, true, true, true, true, true, true, true, true, false, false, false, false, false, false, false, false, false, false, false] rfl rfl (any_of HT_.out (by kernel_rfl)) (fun _ _ _ h => h) (Or.inr ⟨by rfl, rfl⟩) ?_ ?_
                  rotate_left
                  · simp only [Act.put, List.setIfInBounds_toArray, List.set_cons_zero, List.set_cons_succ, i64_w, i32_w]
                    rfl
                  refine pure_ (i := 27) (N := some 43) (v := undef) (a' := ?_) #[true, true, true, true, true, true, true, true, true, true, true, true, true, true, true, true, true, true, true, true, true, true, true, true, true, true, true, true, false, false, false, false, false, false, false, false, false, false] rfl rfl (any_of HT_.out (by kernel_rfl)) (fun _ _ _ h => h) (Or.inr ⟨by rfl, rfl⟩) ?_ ?_
                  rotate_left
                  · simp only [Act.put, List.setIfInBounds_toArray, List.set_cons_zero, List.set_cons_succ, i64_w, i32_w]
                    rfl
                  refine pure_ (i := 28) (N := some 44) (v := undef) (a' := ?_) #[true, true, true, true, true, true, true, true, true, true, true, true, true, true, true, true, true, true, true, true, true, true, true, true, true, true, true, true, true, false, false, false, false, false, false, false, false, false] rfl rfl (any_of HT_.out (by kernel_rfl)) (fun _ _ _ h => h) (Or.inr ⟨by rfl, rfl⟩) ?_ ?_
                  rotate_left
                  · simp only [Act.put, List.setIfInBounds_toArray, List.set_cons_zero, List.set_cons_succ, i64_w, i32_w]
                    rfl
                  refine pure_ (i := 29) (N := some 45) (v := undef) (a' := ?_) #[true, true, true, true, true, true, true, true, true, true, true, true, true, true, true, true, true, true, true, true, true, true, true, true, true, true, true, true, true, true, false, false, false, false, false, false, false, false] rfl rfl (any_of HT_.out (by kernel_rfl)) (fun _ _ _ h => h) (Or.inr ⟨by rfl, rfl⟩) ?_ ?_
                  rotate_left
                  · simp only [Act.put, List.setIfInBounds_toArray, List.set_cons_zero, List.set_cons_succ, i64_w, i32_w]
                    rfl
                  refine pure_ (i := 30) (N := some 46) (v := undef) (a' := ?_) #[true, true, true, true, true, true, true, true, true, true, true, true, true, true, true, true, true, true, true, true, true, true, true, true, true, true, true, true, true, true, true, false, false, false, false, false, false, false] rfl rfl (any_of HT_.out (by kernel_rfl)) (fun _ _ _ h => h) (Or.inr ⟨by rfl, rfl⟩) ?_ ?_
                  rotate_left
                  · simp only [Act.put, List.setIfInBounds_toArray, List.set_cons_zero, List.set_cons_succ, i64_w, i32_w]
                    rfl
                  refine pure_ (i := 31) (N := some 47) (v := undef) (a' := ?_) #[true, true, true, true, true, true, true, true, true, true, true, true, true, true, true, true, true, true, true, true, true, true, true, true, true, true, true, true, true, true, true, true, false, false, false, false, false, false] rfl rfl (any_of HT_.out (by kernel_rfl)) (fun _ _ _ h => h) (Or.inr ⟨by rfl, rfl⟩) ?_ ?_
                  rotate_left
                  · simp only [Act.put, List.setIfInBounds_toArray, List.set_cons_zero, List.set_cons_succ, i64_w, i32_w]
                    rfl
                  refine pure_ (i := 32) (N := some 48) (v := undef) (a' := ?_) #[true, true, true, true, true, true, true, true, true, true, true, true, true, true, true, true, true, true, true, true, true, true, true, true, true, true, true, true, true, true, true, true, true, false, false, false, false, false] rfl rfl (any_of HT_.out (by kernel_rfl)) (fun _ _ _ h => h) (Or.inr ⟨by rfl, rfl⟩) ?_ ?_
                  rotate_left
                  · simp only [Act.put, List.setIfInBounds_toArray, List.set_cons_zero, List.set_cons_succ, i64_w, i32_w]
                    rfl
                  refine pure_ (i := 33) (N := some 49) (v := undef) (a' := ?_) #[true, true, true, true, true, true, true, true, true, true, true, true, true, true, true, true, true, true, true, true, true, true, true, true, true, true, true, true, true, true, true, true, true, true, false, false, false, false] rfl rfl (any_of HT_.out (by kernel_rfl)) (fun _ _ _ h => h) (Or.inr ⟨by rfl, rfl⟩) ?_ ?_
                  rotate_left
                  · simp only [Act.put, List.setIfInBounds_toArray, List.set_cons_zero, List.set_cons_succ, i64_w, i32_w]
                    rfl
                  refine pure_ (i := 34) (N := some 50) (v := undef) (a' := ?_) #[true, true, true, true, true, true, true, true, true, true, true, true, true, true, true, true, true, true, true, true, true, true, true, true, true, true, true, true, true, true, true, true, true, true, true, false, false, false] rfl rfl (any_of HT_.out (by kernel_rfl)) (fun _ _ _ h => h) (Or.inr ⟨by rfl, rfl⟩) ?_ ?_
                  rotate_left
                  · simp only [Act.put, List.setIfInBounds_toArray, List.set_cons_zero, List.set_cons_succ, i64_w, i32_w]
                    rfl
                  refine pure_ (i := 35) (N := some 51) (v := undef) (a' := ?_) #[true, true, true, true, true, true, true, true, true, true, true, true, true, true, true, true, true, true, true, true, true, true, true, true, true, true, true, true, true, true, true, true, true, true, true, true, false, false] rfl rfl (any_of HT_.out (by kernel_rfl)) (fun _ _ _ h => h) (Or.inr ⟨by rfl, rfl⟩) ?_ ?_
                  rotate_left
                  · simp only [Act.put, List.setIfInBounds_toArray, List.set_cons_zero, List.set_cons_succ, i64_w, i32_w]
                    rfl
                  refine pure_ (i := 36) (N := some 52) (v := undef) (a' := ?_) #[true, true, true, true, true, true, true, true, true, true, true, true, true, true, true, true, true, true, true, true, true, true, true, true, true, true, true, true, true, true, true, true, true, true, true, true, true, false] rfl rfl (any_of HT_.out (by kernel_rfl)) (fun _ _ _ h => h) (Or.inr ⟨by rfl, rfl⟩) ?_ ?_
                  rotate_left
                  · simp only [Act.put, List.setIfInBounds_toArray, List.set_cons_zero, List.set_cons_succ, i64_w, i32_w]
                    rfl
                  refine pure_ (i := 37) (N := some 53) (v := ?_) (a' := ?_) #[true, true, true, true, true, true, true, true, true, true, true, true, true, true, true, true, true, true, true, true, true, true, true, true, true, true, true, true, true, true, true, true, true, true, true, true, true, true] rfl rfl (any_of HT_.out (by kernel_rfl)) (fun _ _ _ h => h) (Or.inl ⟨by rfl, ?_⟩) ?_ ?_
                  rotate_left
                  · intro w'
                    go_simp
                    with_reducible rfl
                  rotate_left
                  · simp only [Act.put, List.setIfInBounds_toArray, List.set_cons_zero, List.set_cons_succ, i64_w, i32_w]
                    rfl
                  refine done_ (done_of HT_.out (by kernel_rfl)) ?_
                  try go_wp2
                  go_ret
                  exact ⟨by first | rfl | (simp [errW_none, errW_some] <;> rfl) | (simp [*, errW_none, errW_some] <;> rfl), by repeat (first | (with_reducible first | exact HB.out | apply below_alloc | apply pw_below_drewN | apply below_drew1) | exact HB.out)⟩
              · rw [if_neg c7] at H
                exact absurd H (by simp)
            · rw [if_neg c6] at H
              exact absurd H (by simp)
          · rw [if_neg c5] at H
            exact absurd H (by simp)
        · rw [if_neg c4] at H
          have c4b0 : decide (x13_1 < (l0.length : Int)) = false := decide_eq_false c4
          clear c4
          obtain rfl := Option.some.inj H
          go_wp2
          go_ret
          exact ⟨by first | rfl | (simp [errW_none, errW_some] <;> rfl) | (simp [*, errW_none, errW_some] <;> rfl), by repeat (first | (with_reducible first | exact HB.out | apply below_alloc | apply pw_below_drewN | apply below_drew1) | exact HB.out)⟩
  · rw [if_neg c3] at H
    have c3b0 : ((l0.length : Int) == (l1.length : Int)) = false := beq_eq_false_iff_ne.mpr c3
    have c3b1 : ((l0.length : Int) != (l1.length : Int)) = true := bne_iff_ne.mpr c3
    have c3b2 : (l0.length == l1.length) = false := by first | simpa using c3 | (simp at c3 ⊢; omega)
    obtain rfl := Option.some.inj H
    go_enter Try.func18, Try.ntmps18
    go_wp2
    go_ret
    exact ⟨by first | rfl | (simp [errW_none, errW_some] <;> rfl) | (simp [*, errW_none, errW_some] <;> rfl), by repeat (first | (with_reducible first | exact HB.out | apply below_alloc | apply pw_below_drewN | apply below_drew1) | exact HB.out)⟩

end Go.Proofs.Ytgjnmpgmbhbbhaa.P

end

section
namespace Go.Proofs.Ytgjnmpgmbhbbhaa.P
open Go.RowKit Go.Proofs.YtgjnmpgmbhbbhaaW.PrintWords Go.Proofs.YtgjnmpgmbhbbhaaW.PrintLast Go.Proofs.YtgjnmpgmbhbbhaaW.PrintMore
attribute [local go_sem] max2_int min2_int max_two min_two max_three min_three max_four min_four   -- for this text's walks alone
set_option linter.unusedVariables false
set_option linter.unusedSimpArgs false

def api_Type_19.l0 : Nat → List Int → List Int → Int → Int → Option (Bool)
  | 0, _, _, _, _ => none
  | k + 1, x0, x1, x12, x13 => if x13 < x12 then (if 0 ≤ x13 then (if x13 < (x0.length : Int) then (if x13 < (x1.length : Int) then (if (rd x0 x13) = (rd x1 x13) then (api_Type_19.l0 k x0 x1 x12 (wrap64 (x13 + 1))) else (some false)) else (none)) else (none)) else (none)) else (some true)
def api_Type_19.f (k : Nat) (l0 : List Int) (l1 : List Int) : Option (Bool) := if (l0.length : Int) = (l1.length : Int) then (api_Type_19.l0 k l0 l1 (l0.length : Int) 0) else (some false)
set_option maxHeartbeats 8000000 in
set_option maxRecDepth 100000 in
theorem api_Type_19.calls (k : Nat) (A0 : Option Addr) (c0 : Nat) (l0 : List Int) (A1 : Option Addr) (c1 : Nat) (l1 : List Int) (r : Bool) (w : World) (hr0 : Kd.C (Kd.int .u8) w A0 l0.length l0) (hc0 : l0.length ≤ c0) (hr1 : Kd.C (Kd.int .u8) w A1 l1.length l1) (hc1 : l1.length ≤ c1) (h : api_Type_19.f k l0 l1 = some r) :
    Calls Try.prog 19 #[.slice A0 l0.length c0, .slice A1 l1.length c1] w fun e w' => e = .returned (.bool r) ∧ Drawn0 w w' := by
  have HR0 := Aside0.mk hr0
  have HC0 := Aside0.mk hc0
  clear hr0 hc0
  have HR1 := Aside0.mk hr1
  have HC1 := Aside0.mk hc1
  clear hr1 hc1
  have H : (if (l0.length : Int) = (l1.length : Int) then (api_Type_19.l0 k l0 l1 (l0.length : Int) 0) else (some false)) = some r := h
  clear h
  by_cases c3 : (l0.length : Int) = (l1.length : Int)
  · rw [if_pos c3] at H
    have c3b0 : ((l0.length : Int) == (l1.length : Int)) = true := beq_iff_eq.mpr c3
    have c3b1 : ((l0.length : Int) != (l1.length : Int)) = false := bne_eq_false_iff_eq.mpr c3
    have c3b2 : (l0.length == l1.length) = true := by first | simpa using c3 | (simp at c3 ⊢; omega)
    clear c3
    have H' := Aside0.mk H
    clear H
    go_enter Try.func19, Try.ntmps19
    go_wp2
    repeat (go_quiet (fail); try go_wp2)
    go_loopg [13] k (fun kq v13 w' => ∃ (x13_1 : Int), v13 = .int .i64 x13_1 ∧ Aside0 (api_Type_19.l0 kq l0 l1 (l0.length : Int) x13_1 = some r) ∧ Aside0 (kq ≤ k) ∧ Drawn0 w w')
    case atStart => exact ⟨(0), (by first | rfl | (simp; done) | (simp [*]; done)), H', ⟨Nat.le_refl _⟩, by repeat (first | exact Drawn0.refl _ | apply Drawn0.step)⟩
    case round =>
      clear H'
      try clear c1
      try clear p2
      try clear c3
      try clear c3b0
      try clear c3b1
      try clear c3b2
      obtain ⟨x13_1, rfl, HA, HK1, ⟨m1, rfl⟩⟩ := hrel
      cases gk with
      | zero => exact absurd HA.out (by simp [api_Type_19.l0])
      | succ k1 =>
        have H := HA.out
        clear HA
        simp only [api_Type_19.l0] at H
        by_cases c4 : x13_1 < (l0.length : Int)
        · rw [if_pos c4] at H
          have c4b0 : decide (x13_1 < (l0.length : Int)) = true := decide_eq_true c4
          clear c4
          by_cases c5 : 0 ≤ x13_1
          · rw [if_pos c5] at H
            have c5b0 : decide (0 ≤ x13_1) = true := decide_eq_true c5
            clear c5
            by_cases c6 : x13_1 < (l0.length : Int)
            · rw [if_pos c6] at H
              have c6b0 : decide (x13_1 < (l0.length : Int)) = true := decide_eq_true c6
              clear c6
              by_cases c7 : x13_1 < (l1.length : Int)
              · rw [if_pos c7] at H
                have c7b0 : decide (x13_1 < (l1.length : Int)) = true := decide_eq_true c7
                clear c7
                by_cases c8 : (rd l0 x13_1) = (rd l1 x13_1)
                · rw [if_pos c8] at H
                  have c8b0 : ((rd l0 x13_1) == (rd l1 x13_1)) = true := beq_iff_eq.mpr c8
                  have c8b1 : ((rd l0 x13_1) != (rd l1 x13_1)) = false := bne_eq_false_iff_eq.mpr c8
                  clear c8
                  have H' := Aside0.mk H
                  clear H
                  have p156 : 0 ≤ (x13_1 : Int) := of_decide_eq_true (by first | (with_reducible assumption) | assumption)
                  have q156 : x13_1 < (l0.length : Int) := of_decide_eq_true (by first | (with_reducible assumption) | assumption)
                  obtain ⟨ad156, e156, hx156_0⟩ := Kd.at_int HR0.out x13_1 p156 q156
                  cases e156
                  replace p156 := eq_true p156
                  replace q156 := eq_true q156
                  have p157 : 0 ≤ (x13_1 : Int) := of_decide_eq_true (by first | (with_reducible assumption) | assumption)
                  have q157 : x13_1 < (l1.length : Int) := of_decide_eq_true (by first | (with_reducible assumption) | assumption)
                  obtain ⟨ad157, e157, hx157_0⟩ := Kd.at_int HR1.out x13_1 p157 q157
                  cases e157
                  replace p157 := eq_true p157
                  replace q157 := eq_true q157
                  go_wp2
                  repeat (go_quiet (fail); try go_wp2)
                  go_roundg k1
                  case measure => have := HK1.out; omega
                  case rel => exact ⟨(wrap64 (x13_1 + 1)), (by first | rfl | (simp; done) | (simp [*]; done)), H', ⟨by have := HK1.out; omega⟩, by repeat (first | exact Drawn0.refl _ | apply Drawn0.step)⟩
                · rw [if_neg c8] at H
                  have c8b0 : ((rd l0 x13_1) == (rd l1 x13_1)) = false := beq_eq_false_iff_ne.mpr c8
                  have c8b1 : ((rd l0 x13_1) != (rd l1 x13_1)) = true := bne_iff_ne.mpr c8
                  obtain rfl := Option.some.inj H
                  have p156 : 0 ≤ (x13_1 : Int) := of_decide_eq_true (by first | (with_reducible assumption) | assumption)
                  have q156 : x13_1 < (l0.length : Int) := of_decide_eq_true (by first | (with_reducible assumption) | assumption)
                  obtain ⟨ad156, e156, hx156_0⟩ := Kd.at_int HR0.out x13_1 p156 q156
                  cases e156
                  replace p156 := eq_true p156
                  replace q156 := eq_true q156
                  have p157 : 0 ≤ (x13_1 : Int) := of_decide_eq_true (by first | (with_reducible assumption) | assumption)
                  have q157 : x13_1 < (l1.length : Int) := of_decide_eq_true (by first | (with_reducible assumption) | assumption)
                  obtain ⟨ad157, e157, hx157_0⟩ := Kd.at_int HR1.out x13_1 p157 q157
                  cases e157
                  replace p157 := eq_true p157
                  replace q157 := eq_true q157
                  go_wp2
                  repeat (go_quiet (fail); try go_wp2)
                  go_ret
                  exact ⟨by first | rfl | (simp; done) | (simp [*]; done), by repeat (first | exact Drawn0.refl _ | apply Drawn0.step)⟩
              · rw [if_neg c7] at H
                exact absurd H (by simp)
            · rw [if_neg c6] at H
              exact absurd H (by simp)
          · rw [if_neg c5] at H
            exact absurd H (by simp)
        · rw [if_neg c4] at H
          have c4b0 : decide (x13_1 < (l0.length : Int)) = false := decide_eq_false c4
          clear c4
          obtain rfl := Option.some.inj H
          go_wp2
          repeat (go_quiet (fail); try go_wp2)
          go_ret
          exact ⟨by first | rfl | (simp; done) | (simp [*]; done), by repeat (first | exact Drawn0.refl _ | apply Drawn0.step)⟩
  · rw [if_neg c3] at H
    have c3b0 : ((l0.length : Int) == (l1.length : Int)) = false := beq_eq_false_iff_ne.mpr c3
    have c3b1 : ((l0.length : Int) != (l1.length : Int)) = true := bne_iff_ne.mpr c3
    have c3b2 : (l0.length == l1.length) = false := by first | simpa using c3 | (simp at c3 ⊢; omega)
    obtain rfl := Option.some.inj H
    go_enter Try.func19, Try.ntmps19
    go_wp2
    repeat (go_quiet (fail); try go_wp2)
    go_ret
    exact ⟨by first | rfl | (simp; done) | (simp [*]; done), by repeat (first | exact Drawn0.refl _ | apply Drawn0.step)⟩

def emptyS (n : Int) : Fr × Int := if n < 0 ∨ n > 16 then (Fr.zero, 1) else (⟨n, 0, List.replicate 24 0⟩, 0)
def startFrom (ok : Int → Option Bool) : List Int → Nat → Fr → Option (Fr × Int)
  | [], _, f => some (f, 0)
  | t :: ts, i, f => (ok t).bind fun b => if b = true then startFrom ok ts (i + 1) ⟨f.loc, f.hgt, f.sl.set i t⟩ else some (Fr.zero, 1)
def startS (ok : Int → Option Bool) (p : List Int) (n : Int) : Option (Fr × Int) := if (emptyS n).2 ≠ 0 ∨ p.length > 8 ∨ (p.length : Int) > n then some (Fr.zero, 1) else startFrom ok p 0 (emptyS n).1
def okI (l : List S59) (t : Int) : Option Bool := (types_Valid.f l t).bind fun v => some (v && !(t == 0) && !(t == 3))
theorem emptyS_ok (n : Int) : (emptyS n).1.ok := by
  unfold emptyS
  split
  · exact Fr.zero_ok
  · rfl
theorem startFrom_ok (ok : Int → Option Bool) : ∀ (p : List Int) (i : Nat) (f : Fr) (r : Fr × Int), f.ok → startFrom ok p i f = some r → r.1.ok
  | [], _, f, r, hf, h => by
    obtain rfl := Option.some.inj h
    exact hf
  | t :: ts, i, f, r, hf, h => by
    obtain ⟨b, _, h⟩ := Option.bind_eq_some_iff.mp h
    split at h
    · exact startFrom_ok ok ts (i + 1) _ r (by unfold Fr.ok at *; rw [List.length_set]; exact hf) h
    · obtain rfl := Option.some.inj h
      exact Fr.zero_ok
theorem startS_ok {ok : Int → Option Bool} {p : List Int} {n : Int} {r : Fr × Int} (h : startS ok p n = some r) : r.1.ok := by
  unfold startS at h
  split at h
  · obtain rfl := Option.some.inj h
    exact Fr.zero_ok
  · exact startFrom_ok ok p 0 _ r (emptyS_ok n) h
set_option maxHeartbeats 3200000 in
set_option maxRecDepth 100000 in
theorem Empty_calls (n : Int) (w : World) : Calls Try.prog 11 #[.int .i64 n] w fun e w' => e = .returned (.tuple #[.agg (emptyS n).1.a, .int .i64 (emptyS n).2]) ∧ Below w.heap.size w w' := by
  have HF : Aside0 (Fr.zero.ok) := ⟨rfl⟩
  have HE : Aside0 ((⟨n, 0, List.replicate 24 0⟩ : Fr).ok) := ⟨rfl⟩
  have HA := Aside0.mk (Frs.nil w)
  by_cases c1 : n < 0
  · have d1 : decide (n < 0) = true := decide_eq_true c1
    have C1 := Aside0.mk c1
    clear c1
    go_enter Try.func11, Try.ntmps11
    go_wp2_with (first | (refine fr_guard rfl (by rfl) ?_; dsimp only) | (refine fr_load rfl rfl rfl HA.out (by first | exact List.mem_cons_self | exact List.mem_cons_of_mem _ List.mem_cons_self | exact List.mem_cons_of_mem _ (List.mem_cons_of_mem _ List.mem_cons_self) | exact List.mem_cons_of_mem _ (List.mem_cons_of_mem _ (List.mem_cons_of_mem _ List.mem_cons_self))) ?_) | (refine fr_load0 rfl rfl rfl HA.out (by first | exact List.mem_cons_self | exact List.mem_cons_of_mem _ List.mem_cons_self | exact List.mem_cons_of_mem _ (List.mem_cons_of_mem _ List.mem_cons_self) | exact List.mem_cons_of_mem _ (List.mem_cons_of_mem _ (List.mem_cons_of_mem _ List.mem_cons_self))) ?_) | (refine fr_load1 rfl rfl rfl HA.out (by first | exact List.mem_cons_self | exact List.mem_cons_of_mem _ List.mem_cons_self | exact List.mem_cons_of_mem _ (List.mem_cons_of_mem _ List.mem_cons_self) | exact List.mem_cons_of_mem _ (List.mem_cons_of_mem _ (List.mem_cons_of_mem _ List.mem_cons_self))) ?_) | (refine fr_store rfl rfl rfl rfl (by first | exact HF.out | exact HE.out | exact Fr.zero_ok) [] HA.out ?_; intro w_ hA; (try simp only [List.cons_append, List.nil_append] at hA); replace HA := Aside0.mk hA; clear hA) | (refine fr_store rfl rfl rfl rfl (by first | exact HF.out | exact HE.out | exact Fr.zero_ok) [_] HA.out ?_; intro w_ hA; (try simp only [List.cons_append, List.nil_append] at hA); replace HA := Aside0.mk hA; clear hA) | (refine fr_store rfl rfl rfl rfl (by first | exact HF.out | exact HE.out | exact Fr.zero_ok) [_, _] HA.out ?_; intro w_ hA; (try simp only [List.cons_append, List.nil_append] at hA); replace HA := Aside0.mk hA; clear hA) | (refine fr_store rfl rfl rfl rfl (by first | exact HF.out | exact HE.out | exact Fr.zero_ok) [_, _, _] HA.out ?_; intro w_ hA; (try simp only [List.cons_append, List.nil_append] at hA); replace HA := Aside0.mk hA; clear hA) | (refine fr_box rfl rfl rfl (by first | exact HF.out | exact HE.out | exact Fr.zero_ok) HA.out ?_; intro gp w_ hA; (try simp only [List.cons_append, List.nil_append] at hA); replace HA := Aside0.mk hA; clear hA) | (refine fr_alloc rfl rfl HA.out ?_; intro gr w_ hA; (try simp only [List.cons_append, List.nil_append] at hA); replace HA := Aside0.mk hA; clear hA) | (refine fr_build0 rfl rfl ?_) | (refine fr_build1 rfl rfl rfl ?_) | (refine fr_build2 rfl rfl rfl rfl ?_) | (refine fr_slot rfl rfl rfl rfl [] HA.out HQ.out ?_; intro w_ hA; (try simp only [List.cons_append, List.nil_append] at hA); replace HA := Aside0.mk hA; clear hA) | (refine fr_slot rfl rfl rfl rfl [_] HA.out HQ.out ?_; intro w_ hA; (try simp only [List.cons_append, List.nil_append] at hA); replace HA := Aside0.mk hA; clear hA) | (refine fr_slot rfl rfl rfl rfl [_, _] HA.out HQ.out ?_; intro w_ hA; (try simp only [List.cons_append, List.nil_append] at hA); replace HA := Aside0.mk hA; clear hA) | (refine fr_high rfl rfl rfl rfl [] HA.out ?_; intro w_ hA; (try simp only [List.cons_append, List.nil_append] at hA); replace HA := Aside0.mk hA; clear hA) | (refine fr_high rfl rfl rfl rfl [_] HA.out ?_; intro w_ hA; (try simp only [List.cons_append, List.nil_append] at hA); replace HA := Aside0.mk hA; clear hA) | (refine fr_high rfl rfl rfl rfl [_, _] HA.out ?_; intro w_ hA; (try simp only [List.cons_append, List.nil_append] at hA); replace HA := Aside0.mk hA; clear hA) | (refine fr_loads rfl rfl rfl HA.out (by first | exact List.mem_cons_self | exact List.mem_cons_of_mem _ List.mem_cons_self | exact List.mem_cons_of_mem _ (List.mem_cons_of_mem _ List.mem_cons_self) | exact List.mem_cons_of_mem _ (List.mem_cons_of_mem _ (List.mem_cons_of_mem _ List.mem_cons_self))) HQ.out ?_))
    refine bodyPost_ret (fr_ret2 rfl _ HA.out (by first | exact List.mem_cons_self | exact List.mem_cons_of_mem _ List.mem_cons_self | exact List.mem_cons_of_mem _ (List.mem_cons_of_mem _ List.mem_cons_self) | exact List.mem_cons_of_mem _ (List.mem_cons_of_mem _ (List.mem_cons_of_mem _ List.mem_cons_self))) rfl) rfl ⟨?_, HA.out.below⟩
    unfold emptyS
    rw [if_pos (.inl C1.out)]
    rfl
  by_cases c2 : 16 < n
  · have d1 : decide (n < 0) = false := decide_eq_false c1
    have d2 : decide (16 < n) = true := decide_eq_true c2
    have C2 := Aside0.mk c2
    clear c1 c2
    go_enter Try.func11, Try.ntmps11
    go_wp2_with (first | (refine fr_guard rfl (by rfl) ?_; dsimp only) | (refine fr_load rfl rfl rfl HA.out (by first | exact List.mem_cons_self | exact List.mem_cons_of_mem _ List.mem_cons_self | exact List.mem_cons_of_mem _ (List.mem_cons_of_mem _ List.mem_cons_self) | exact List.mem_cons_of_mem _ (List.mem_cons_of_mem _ (List.mem_cons_of_mem _ List.mem_cons_self))) ?_) | (refine fr_load0 rfl rfl rfl HA.out (by first | exact List.mem_cons_self | exact List.mem_cons_of_mem _ List.mem_cons_self | exact List.mem_cons_of_mem _ (List.mem_cons_of_mem _ List.mem_cons_self) | exact List.mem_cons_of_mem _ (List.mem_cons_of_mem _ (List.mem_cons_of_mem _ List.mem_cons_self))) ?_) | (refine fr_load1 rfl rfl rfl HA.out (by first | exact List.mem_cons_self | exact List.mem_cons_of_mem _ List.mem_cons_self | exact List.mem_cons_of_mem _ (List.mem_cons_of_mem _ List.mem_cons_self) | exact List.mem_cons_of_mem _ (List.mem_cons_of_mem _ (List.mem_cons_of_mem _ List.mem_cons_self))) ?_) | (refine fr_store rfl rfl rfl rfl (by first | exact HF.out | exact HE.out | exact Fr.zero_ok) [] HA.out ?_; intro w_ hA; (try simp only [List.cons_append, List.nil_append] at hA); replace HA := Aside0.mk hA; clear hA) | (refine fr_store rfl rfl rfl rfl (by first | exact HF.out | exact HE.out | exact Fr.zero_ok) [_] HA.out ?_; intro w_ hA; (try simp only [List.cons_append, List.nil_append] at hA); replace HA := Aside0.mk hA; clear hA) | (refine fr_store rfl rfl rfl rfl (by first | exact HF.out | exact HE.out | exact Fr.zero_ok) [_, _] HA.out ?_; intro w_ hA; (try simp only [List.cons_append, List.nil_append] at hA); replace HA := Aside0.mk hA; clear hA) | (refine fr_store rfl rfl rfl rfl (by first | exact HF.out | exact HE.out | exact Fr.zero_ok) [_, _, _] HA.out ?_; intro w_ hA; (try simp only [List.cons_append, List.nil_append] at hA); replace HA := Aside0.mk hA; clear hA) | (refine fr_box rfl rfl rfl (by first | exact HF.out | exact HE.out | exact Fr.zero_ok) HA.out ?_; intro gp w_ hA; (try simp only [List.cons_append, List.nil_append] at hA); replace HA := Aside0.mk hA; clear hA) | (refine fr_alloc rfl rfl HA.out ?_; intro gr w_ hA; (try simp only [List.cons_append, List.nil_append] at hA); replace HA := Aside0.mk hA; clear hA) | (refine fr_build0 rfl rfl ?_) | (refine fr_build1 rfl rfl rfl ?_) | (refine fr_build2 rfl rfl rfl rfl ?_) | (refine fr_slot rfl rfl rfl rfl [] HA.out HQ.out ?_; intro w_ hA; (try simp only [List.cons_append, List.nil_append] at hA); replace HA := Aside0.mk hA; clear hA) | (refine fr_slot rfl rfl rfl rfl [_] HA.out HQ.out ?_; intro w_ hA; (try simp only [List.cons_append, List.nil_append] at hA); replace HA := Aside0.mk hA; clear hA) | (refine fr_slot rfl rfl rfl rfl [_, _] HA.out HQ.out ?_; intro w_ hA; (try simp only [List.cons_append, List.nil_append] at hA); replace HA := Aside0.mk hA; clear hA) | (refine fr_high rfl rfl rfl rfl [] HA.out ?_; intro w_ hA; (try simp only [List.cons_append, List.nil_append] at hA); replace HA := Aside0.mk hA; clear hA) | (refine fr_high rfl rfl rfl rfl [_] HA.out ?_; intro w_ hA; (try simp only [List.cons_append, List.nil_append] at hA); replace HA := Aside0.mk hA; clear hA) | (refine fr_high rfl rfl rfl rfl [_, _] HA.out ?_; intro w_ hA; (try simp only [List.cons_append, List.nil_append] at hA); replace HA := Aside0.mk hA; clear hA) | (refine fr_loads rfl rfl rfl HA.out (by first | exact List.mem_cons_self | exact List.mem_cons_of_mem _ List.mem_cons_self | exact List.mem_cons_of_mem _ (List.mem_cons_of_mem _ List.mem_cons_self) | exact List.mem_cons_of_mem _ (List.mem_cons_of_mem _ (List.mem_cons_of_mem _ List.mem_cons_self))) HQ.out ?_))
    refine bodyPost_ret (fr_ret2 rfl _ HA.out (by first | exact List.mem_cons_self | exact List.mem_cons_of_mem _ List.mem_cons_self | exact List.mem_cons_of_mem _ (List.mem_cons_of_mem _ List.mem_cons_self) | exact List.mem_cons_of_mem _ (List.mem_cons_of_mem _ (List.mem_cons_of_mem _ List.mem_cons_self))) rfl) rfl ⟨?_, HA.out.below⟩
    unfold emptyS
    rw [if_pos (.inr C2.out)]
    rfl
  have d1 : decide (n < 0) = false := decide_eq_false c1
  have d2 : decide (16 < n) = false := decide_eq_false c2
  have C1 := Aside0.mk (show ¬ (n < 0 ∨ n > 16) by omega)
  clear c1 c2
  go_enter Try.func11, Try.ntmps11
  go_wp2_with (first | (refine fr_guard rfl (by rfl) ?_; dsimp only) | (refine fr_load rfl rfl rfl HA.out (by first | exact List.mem_cons_self | exact List.mem_cons_of_mem _ List.mem_cons_self | exact List.mem_cons_of_mem _ (List.mem_cons_of_mem _ List.mem_cons_self) | exact List.mem_cons_of_mem _ (List.mem_cons_of_mem _ (List.mem_cons_of_mem _ List.mem_cons_self))) ?_) | (refine fr_load0 rfl rfl rfl HA.out (by first | exact List.mem_cons_self | exact List.mem_cons_of_mem _ List.mem_cons_self | exact List.mem_cons_of_mem _ (List.mem_cons_of_mem _ List.mem_cons_self) | exact List.mem_cons_of_mem _ (List.mem_cons_of_mem _ (List.mem_cons_of_mem _ List.mem_cons_self))) ?_) | (refine fr_load1 rfl rfl rfl HA.out (by first | exact List.mem_cons_self | exact List.mem_cons_of_mem _ List.mem_cons_self | exact List.mem_cons_of_mem _ (List.mem_cons_of_mem _ List.mem_cons_self) | exact List.mem_cons_of_mem _ (List.mem_cons_of_mem _ (List.mem_cons_of_mem _ List.mem_cons_self))) ?_) | (refine fr_store rfl rfl rfl rfl (by first | exact HF.out | exact HE.out | exact Fr.zero_ok) [] HA.out ?_; intro w_ hA; (try simp only [List.cons_append, List.nil_append] at hA); replace HA := Aside0.mk hA; clear hA) | (refine fr_store rfl rfl rfl rfl (by first | exact HF.out | exact HE.out | exact Fr.zero_ok) [_] HA.out ?_; intro w_ hA; (try simp only [List.cons_append, List.nil_append] at hA); replace HA := Aside0.mk hA; clear hA) | (refine fr_store rfl rfl rfl rfl (by first | exact HF.out | exact HE.out | exact Fr.zero_ok) [_, _] HA.out ?_; intro w_ hA; (try simp only [List.cons_append, List.nil_append] at hA); replace HA := Aside0.mk hA; clear hA) | (refine fr_store rfl rfl rfl rfl (by first | exact HF.out | exact HE.out | exact Fr.zero_ok) [_, _, _] HA.out ?_; intro w_ hA; (try simp only [List.cons_append, List.nil_append] at hA); replace HA := Aside0.mk hA; clear hA) | (refine fr_box rfl rfl rfl (by first | exact HF.out | exact HE.out | exact Fr.zero_ok) HA.out ?_; intro gp w_ hA; (try simp only [List.cons_append, List.nil_append] at hA); replace HA := Aside0.mk hA; clear hA) | (refine fr_alloc rfl rfl HA.out ?_; intro gr w_ hA; (try simp only [List.cons_append, List.nil_append] at hA); replace HA := Aside0.mk hA; clear hA) | (refine fr_build0 rfl rfl ?_) | (refine fr_build1 rfl rfl rfl ?_) | (refine fr_build2 rfl rfl rfl rfl ?_) | (refine fr_slot rfl rfl rfl rfl [] HA.out HQ.out ?_; intro w_ hA; (try simp only [List.cons_append, List.nil_append] at hA); replace HA := Aside0.mk hA; clear hA) | (refine fr_slot rfl rfl rfl rfl [_] HA.out HQ.out ?_; intro w_ hA; (try simp only [List.cons_append, List.nil_append] at hA); replace HA := Aside0.mk hA; clear hA) | (refine fr_slot rfl rfl rfl rfl [_, _] HA.out HQ.out ?_; intro w_ hA; (try simp only [List.cons_append, List.nil_append] at hA); replace HA := Aside0.mk hA; clear hA) | (refine fr_high rfl rfl rfl rfl [] HA.out ?_; intro w_ hA; (try simp only [List.cons_append, List.nil_append] at hA); replace HA := Aside0.mk hA; clear hA) | (refine fr_high rfl rfl rfl rfl [_] HA.out ?_; intro w_ hA; (try simp only [List.cons_append, List.nil_append] at hA); replace HA := Aside0.mk hA; clear hA) | (refine fr_high rfl rfl rfl rfl [_, _] HA.out ?_; intro w_ hA; (try simp only [List.cons_append, List.nil_append] at hA); replace HA := Aside0.mk hA; clear hA) | (refine fr_loads rfl rfl rfl HA.out (by first | exact List.mem_cons_self | exact List.mem_cons_of_mem _ List.mem_cons_self | exact List.mem_cons_of_mem _ (List.mem_cons_of_mem _ List.mem_cons_self) | exact List.mem_cons_of_mem _ (List.mem_cons_of_mem _ (List.mem_cons_of_mem _ List.mem_cons_self))) HQ.out ?_))
  refine bodyPost_ret (fr_ret2 rfl _ HA.out (by first | exact List.mem_cons_self | exact List.mem_cons_of_mem _ List.mem_cons_self | exact List.mem_cons_of_mem _ (List.mem_cons_of_mem _ List.mem_cons_self) | exact List.mem_cons_of_mem _ (List.mem_cons_of_mem _ (List.mem_cons_of_mem _ List.mem_cons_self))) rfl) rfl ⟨?_, HA.out.below⟩
  unfold emptyS
  rw [if_neg (by have := C1.out; omega)]
  rfl

set_option maxHeartbeats 3200000 in
set_option maxRecDepth 100000 in
theorem refEmpty_calls (n : Int) (w : World) : Calls Try.prog 12 #[.int .i64 n] w fun e w' => e = .returned (.tuple #[.agg (emptyS n).1.a, .int .i64 (emptyS n).2]) ∧ Below w.heap.size w w' := by
  have HF : Aside0 (Fr.zero.ok) := ⟨rfl⟩
  have HE : Aside0 ((⟨n, 0, List.replicate 24 0⟩ : Fr).ok) := ⟨rfl⟩
  have HA := Aside0.mk (Frs.nil w)
  by_cases c1 : n < 0
  · have d1 : decide (n < 0) = true := decide_eq_true c1
    have C1 := Aside0.mk c1
    clear c1
    go_enter Try.func12, Try.ntmps12
    go_wp2_with (first | (refine fr_guard rfl (by rfl) ?_; dsimp only) | (refine fr_load rfl rfl rfl HA.out (by first | exact List.mem_cons_self | exact List.mem_cons_of_mem _ List.mem_cons_self | exact List.mem_cons_of_mem _ (List.mem_cons_of_mem _ List.mem_cons_self) | exact List.mem_cons_of_mem _ (List.mem_cons_of_mem _ (List.mem_cons_of_mem _ List.mem_cons_self))) ?_) | (refine fr_load0 rfl rfl rfl HA.out (by first | exact List.mem_cons_self | exact List.mem_cons_of_mem _ List.mem_cons_self | exact List.mem_cons_of_mem _ (List.mem_cons_of_mem _ List.mem_cons_self) | exact List.mem_cons_of_mem _ (List.mem_cons_of_mem _ (List.mem_cons_of_mem _ List.mem_cons_self))) ?_) | (refine fr_load1 rfl rfl rfl HA.out (by first | exact List.mem_cons_self | exact List.mem_cons_of_mem _ List.mem_cons_self | exact List.mem_cons_of_mem _ (List.mem_cons_of_mem _ List.mem_cons_self) | exact List.mem_cons_of_mem _ (List.mem_cons_of_mem _ (List.mem_cons_of_mem _ List.mem_cons_self))) ?_) | (refine fr_store rfl rfl rfl rfl (by first | exact HF.out | exact HE.out | exact Fr.zero_ok) [] HA.out ?_; intro w_ hA; (try simp only [List.cons_append, List.nil_append] at hA); replace HA := Aside0.mk hA; clear hA) | (refine fr_store rfl rfl rfl rfl (by first | exact HF.out | exact HE.out | exact Fr.zero_ok) [_] HA.out ?_; intro w_ hA; (try simp only [List.cons_append, List.nil_append] at hA); replace HA := Aside0.mk hA; clear hA) | (refine fr_store rfl rfl rfl rfl (by first | exact HF.out | exact HE.out | exact Fr.zero_ok) [_, _] HA.out ?_; intro w_ hA; (try simp only [List.cons_append, List.nil_append] at hA); replace HA := Aside0.mk hA; clear hA) | (refine fr_store rfl rfl rfl rfl (by first | exact HF.out | exact HE.out | exact Fr.zero_ok) [_, _, _] HA.out ?_; intro w_ hA; (try simp only [List.cons_append, List.nil_append] at hA); replace HA := Aside0.mk hA; clear hA) | (refine fr_box rfl rfl rfl (by first | exact HF.out | exact HE.out | exact Fr.zero_ok) HA.out ?_; intro gp w_ hA; (try simp only [List.cons_append, List.nil_append] at hA); replace HA := Aside0.mk hA; clear hA) | (refine fr_alloc rfl rfl HA.out ?_; intro gr w_ hA; (try simp only [List.cons_append, List.nil_append] at hA); replace HA := Aside0.mk hA; clear hA) | (refine fr_build0 rfl rfl ?_) | (refine fr_build1 rfl rfl rfl ?_) | (refine fr_build2 rfl rfl rfl rfl ?_) | (refine fr_slot rfl rfl rfl rfl [] HA.out HQ.out ?_; intro w_ hA; (try simp only [List.cons_append, List.nil_append] at hA); replace HA := Aside0.mk hA; clear hA) | (refine fr_slot rfl rfl rfl rfl [_] HA.out HQ.out ?_; intro w_ hA; (try simp only [List.cons_append, List.nil_append] at hA); replace HA := Aside0.mk hA; clear hA) | (refine fr_slot rfl rfl rfl rfl [_, _] HA.out HQ.out ?_; intro w_ hA; (try simp only [List.cons_append, List.nil_append] at hA); replace HA := Aside0.mk hA; clear hA) | (refine fr_high rfl rfl rfl rfl [] HA.out ?_; intro w_ hA; (try simp only [List.cons_append, List.nil_append] at hA); replace HA := Aside0.mk hA; clear hA) | (refine fr_high rfl rfl rfl rfl [_] HA.out ?_; intro w_ hA; (try simp only [List.cons_append, List.nil_append] at hA); replace HA := Aside0.mk hA; clear hA) | (refine fr_high rfl rfl rfl rfl [_, _] HA.out ?_; intro w_ hA; (try simp only [List.cons_append, List.nil_append] at hA); replace HA := Aside0.mk hA; clear hA) | (refine fr_loads rfl rfl rfl HA.out (by first | exact List.mem_cons_self | exact List.mem_cons_of_mem _ List.mem_cons_self | exact List.mem_cons_of_mem _ (List.mem_cons_of_mem _ List.mem_cons_self) | exact List.mem_cons_of_mem _ (List.mem_cons_of_mem _ (List.mem_cons_of_mem _ List.mem_cons_self))) HQ.out ?_))
    refine bodyPost_ret (fr_ret2 rfl _ HA.out (by first | exact List.mem_cons_self | exact List.mem_cons_of_mem _ List.mem_cons_self | exact List.mem_cons_of_mem _ (List.mem_cons_of_mem _ List.mem_cons_self) | exact List.mem_cons_of_mem _ (List.mem_cons_of_mem _ (List.mem_cons_of_mem _ List.mem_cons_self))) rfl) rfl ⟨?_, HA.out.below⟩
    unfold emptyS
    rw [if_pos (.inl C1.out)]
    rfl
  by_cases c2 : 16 < n
  · have d1 : decide (n < 0) = false := decide_eq_false c1
    have d2 : decide (16 < n) = true := decide_eq_true c2
    have C2 := Aside0.mk c2
    clear c1 c2
    go_enter Try.func12, Try.ntmps12
    go_wp2_with (first | (refine fr_guard rfl (by rfl) ?_; dsimp only) | (refine fr_load rfl rfl rfl HA.out (by first | exact List.mem_cons_self | exact List.mem_cons_of_mem _ List.mem_cons_self | exact List.mem_cons_of_mem _ (List.mem_cons_of_mem _ List.mem_cons_self) | exact List.mem_cons_of_mem _ (List.mem_cons_of_mem _ (List.mem_cons_of_mem _ List.mem_cons_self))) ?_) | (refine fr_load0 rfl rfl rfl HA.out (by first | exact List.mem_cons_self | exact List.mem_cons_of_mem _ List.mem_cons_self | exact List.mem_cons_of_mem _ (List.mem_cons_of_mem _ List.mem_cons_self) | exact List.mem_cons_of_mem _ (List.mem_cons_of_mem _ (List.mem_cons_of_mem _ List.mem_cons_self))) ?_) | (refine fr_load1 rfl rfl rfl HA.out (by first | exact List.mem_cons_self | exact List.mem_cons_of_mem _ List.mem_cons_self | exact List.mem_cons_of_mem _ (List.mem_cons_of_mem _ List.mem_cons_self) | exact List.mem_cons_of_mem _ (List.mem_cons_of_mem _ (List.mem_cons_of_mem _ List.mem_cons_self))) ?_) | (refine fr_store rfl rfl rfl rfl (by first | exact HF.out | exact HE.out | exact Fr.zero_ok) [] HA.out ?_; intro w_ hA; (try simp only [List.cons_append, List.nil_append] at hA); replace HA := Aside0.mk hA; clear hA) | (refine fr_store rfl rfl rfl rfl (by first | exact HF.out | exact HE.out | exact Fr.zero_ok) [_] HA.out ?_; intro w_ hA; (try simp only [List.cons_append, List.nil_append] at hA); replace HA := Aside0.mk hA; clear hA) | (refine fr_store rfl rfl rfl rfl (by first | exact HF.out | exact HE.out | exact Fr.zero_ok) [_, _] HA.out ?_; intro w_ hA; (try simp only [List.cons_append, List.nil_append] at hA); replace HA := Aside0.mk hA; clear hA) | (refine fr_store rfl rfl rfl rfl (by first | exact HF.out | exact HE.out | exact Fr.zero_ok) [_, _, _] HA.out ?_; intro w_ hA; (try simp only [List.cons_append, List.nil_append] at hA); replace HA := Aside0.mk hA; clear hA) | (refine fr_box rfl rfl rfl (by first | exact HF.out | exact HE.out | exact Fr.zero_ok) HA.out ?_; intro gp w_ hA; (try simp only [List.cons_append, List.nil_append] at hA); replace HA := Aside0.mk hA; clear hA) | (refine fr_alloc rfl rfl HA.out ?_; intro gr w_ hA; (try simp only [List.cons_append, List.nil_append] at hA); replace HA := Aside0.mk hA; clear hA) | (refine fr_build0 rfl rfl ?_) | (refine fr_build1 rfl rfl rfl ?_) | (refine fr_build2 rfl rfl rfl rfl ?_) | (refine fr_slot rfl rfl rfl rfl [] HA.out HQ.out ?_; intro w_ hA; (try simp only [List.cons_append, List.nil_append] at hA); replace HA := Aside0.mk hA; clear hA) | (refine fr_slot rfl rfl rfl rfl [_] HA.out HQ.out ?_; intro w_ hA; (try simp only [List.cons_append, List.nil_append] at hA); replace HA := Aside0.mk hA; clear hA) | (refine fr_slot rfl rfl rfl rfl [_, _] HA.out HQ.out ?_; intro w_ hA; (try simp only [List.cons_append, List.nil_append] at hA); replace HA := Aside0.mk hA; clear hA) | (refine fr_high rfl rfl rfl rfl [] HA.out ?_; intro w_ hA; (try simp only [List.cons_append, List.nil_append] at hA); replace HA := Aside0.mk hA; clear hA) | (refine fr_high rfl rfl rfl rfl [_] HA.out ?_; intro w_ hA; (try simp only [List.cons_append, List.nil_append] at hA); replace HA := Aside0.mk hA; clear hA) | (refine fr_high rfl rfl rfl rfl [_, _] HA.out ?_; intro w_ hA; (try simp only [List.cons_append, List.nil_append] at hA); replace HA := Aside0.mk hA; clear hA) | (refine fr_loads rfl rfl rfl HA.out (by first | exact List.mem_cons_self | exact List.mem_cons_of_mem _ List.mem_cons_self | exact List.mem_cons_of_mem _ (List.mem_cons_of_mem _ List.mem_cons_self) | exact List.mem_cons_of_mem _ (List.mem_cons_of_mem _ (List.mem_cons_of_mem _ List.mem_cons_self))) HQ.out ?_))
    refine bodyPost_ret (fr_ret2 rfl _ HA.out (by first | exact List.mem_cons_self | exact List.mem_cons_of_mem _ List.mem_cons_self | exact List.mem_cons_of_mem _ (List.mem_cons_of_mem _ List.mem_cons_self) | exact List.mem_cons_of_mem _ (List.mem_cons_of_mem _ (List.mem_cons_of_mem _ List.mem_cons_self))) rfl) rfl ⟨?_, HA.out.below⟩
    unfold emptyS
    rw [if_pos (.inr C2.out)]
    rfl
  have d1 : decide (n < 0) = false := decide_eq_false c1
  have d2 : decide (16 < n) = false := decide_eq_false c2
  have C1 := Aside0.mk (show ¬ (n < 0 ∨ n > 16) by omega)
  clear c1 c2
  go_enter Try.func12, Try.ntmps12
  go_wp2_with (first | (refine fr_guard rfl (by rfl) ?_; dsimp only) | (refine fr_load rfl rfl rfl HA.out (by first | exact List.mem_cons_self | exact List.mem_cons_of_mem _ List.mem_cons_self | exact List.mem_cons_of_mem _ (List.mem_cons_of_mem _ List.mem_cons_self) | exact List.mem_cons_of_mem _ (List.mem_cons_of_mem _ (List.mem_cons_of_mem _ List.mem_cons_self))) ?_) | (refine fr_load0 rfl rfl rfl HA.out (by first | exact List.mem_cons_self | exact List.mem_cons_of_mem _ List.mem_cons_self | exact List.mem_cons_of_mem _ (List.mem_cons_of_mem _ List.mem_cons_self) | exact List.mem_cons_of_mem _ (List.mem_cons_of_mem _ (List.mem_cons_of_mem _ List.mem_cons_self))) ?_) | (refine fr_load1 rfl rfl rfl HA.out (by first | exact List.mem_cons_self | exact List.mem_cons_of_mem _ List.mem_cons_self | exact List.mem_cons_of_mem _ (List.mem_cons_of_mem _ List.mem_cons_self) | exact List.mem_cons_of_mem _ (List.mem_cons_of_mem _ (List.mem_cons_of_mem _ List.mem_cons_self))) ?_) | (refine fr_store rfl rfl rfl rfl (by first | exact HF.out | exact HE.out | exact Fr.zero_ok) [] HA.out ?_; intro w_ hA; (try simp only [List.cons_append, List.nil_append] at hA); replace HA := Aside0.mk hA; clear hA) | (refine fr_store rfl rfl rfl rfl (by first | exact HF.out | exact HE.out | exact Fr.zero_ok) [_] HA.out ?_; intro w_ hA; (try simp only [List.cons_append, List.nil_append] at hA); replace HA := Aside0.mk hA; clear hA) | (refine fr_store rfl rfl rfl rfl (by first | exact HF.out | exact HE.out | exact Fr.zero_ok) [_, _] HA.out ?_; intro w_ hA; (try simp only [List.cons_append, List.nil_append] at hA); replace HA := Aside0.mk hA; clear hA) | (refine fr_store rfl rfl rfl rfl (by first | exact HF.out | exact HE.out | exact Fr.zero_ok) [_, _, _] HA.out ?_; intro w_ hA; (try simp only [List.cons_append, List.nil_append] at hA); replace HA := Aside0.mk hA; clear hA) | (refine fr_box rfl rfl rfl (by first | exact HF.out | exact HE.out | exact Fr.zero_ok) HA.out ?_; intro gp w_ hA; (try simp only [List.cons_append, List.nil_append] at hA); replace HA := Aside0.mk hA; clear hA) | (refine fr_alloc rfl rfl HA.out ?_; intro gr w_ hA; (try simp only [List.cons_append, List.nil_append] at hA); replace HA := Aside0.mk hA; clear hA) | (refine fr_build0 rfl rfl ?_) | (refine fr_build1 rfl rfl rfl ?_) | (refine fr_build2 rfl rfl rfl rfl ?_) | (refine fr_slot rfl rfl rfl rfl [] HA.out HQ.out ?_; intro w_ hA; (try simp only [List.cons_append, List.nil_append] at hA); replace HA := Aside0.mk hA; clear hA) | (refine fr_slot rfl rfl rfl rfl [_] HA.out HQ.out ?_; intro w_ hA; (try simp only [List.cons_append, List.nil_append] at hA); replace HA := Aside0.mk hA; clear hA) | (refine fr_slot rfl rfl rfl rfl [_, _] HA.out HQ.out ?_; intro w_ hA; (try simp only [List.cons_append, List.nil_append] at hA); replace HA := Aside0.mk hA; clear hA) | (refine fr_high rfl rfl rfl rfl [] HA.out ?_; intro w_ hA; (try simp only [List.cons_append, List.nil_append] at hA); replace HA := Aside0.mk hA; clear hA) | (refine fr_high rfl rfl rfl rfl [_] HA.out ?_; intro w_ hA; (try simp only [List.cons_append, List.nil_append] at hA); replace HA := Aside0.mk hA; clear hA) | (refine fr_high rfl rfl rfl rfl [_, _] HA.out ?_; intro w_ hA; (try simp only [List.cons_append, List.nil_append] at hA); replace HA := Aside0.mk hA; clear hA) | (refine fr_loads rfl rfl rfl HA.out (by first | exact List.mem_cons_self | exact List.mem_cons_of_mem _ List.mem_cons_self | exact List.mem_cons_of_mem _ (List.mem_cons_of_mem _ List.mem_cons_self) | exact List.mem_cons_of_mem _ (List.mem_cons_of_mem _ (List.mem_cons_of_mem _ List.mem_cons_self))) HQ.out ?_))
  refine bodyPost_ret (fr_ret2 rfl _ HA.out (by first | exact List.mem_cons_self | exact List.mem_cons_of_mem _ List.mem_cons_self | exact List.mem_cons_of_mem _ (List.mem_cons_of_mem _ List.mem_cons_self) | exact List.mem_cons_of_mem _ (List.mem_cons_of_mem _ (List.mem_cons_of_mem _ List.mem_cons_self))) rfl) rfl ⟨?_, HA.out.below⟩
  unfold emptyS
  rw [if_neg (by have := C1.out; omega)]
  rfl

set_option maxHeartbeats 3200000 in
set_option maxRecDepth 100000 in
theorem Start_calls (A0 : Option Addr) (c0 : Nat) (l0 : List S59) (A1 : Option Addr) (c1 : Nat) (l1 : List Int) (n : Int) (r : Fr × Int) (w : World) (hr0 : Kd.C k59 w A0 l0.length l0) (hc0 : l0.length ≤ c0) (hr1 : Kd.C (Kd.int .u8) w A1 l1.length l1) (hc1 : l1.length ≤ c1) (h : startS (okI l0) l1 n = some r) : Calls Try.prog 16 #[.slice A0 l0.length c0, .slice A1 l1.length c1, .int .i64 n] w fun e w' => e = .returned (.tuple #[.agg r.1.a, .int .i64 r.2]) ∧ Below w.heap.size w w' := by
  have HR0 := Aside0.mk hr0
  have HC0 := Aside0.mk hc0
  have HR1 := Aside0.mk hr1
  have HC1 := Aside0.mk hc1
  have HF : Aside0 (Fr.zero.ok) := ⟨rfl⟩
  have HEF := Aside0.mk (emptyS_ok n)
  have HA := Aside0.mk (Frs.nil w)
  have hlen1 : l1.length ≤ 9223372036854775807 := hr1.2.1
  by_cases c : (emptyS n).2 ≠ 0 ∨ l1.length > 8 ∨ (l1.length : Int) > n
  · unfold startS at h
    rw [if_pos c] at h
    obtain rfl := Option.some.inj h
    clear hr0 hc0 hr1 hc1 h
    obtain ⟨es, hes⟩ : ∃ es, es = emptyS n := ⟨_, rfl⟩
    rw [← hes] at c HEF
    have HES := Aside0.mk hes
    clear hes
    by_cases e1 : es.2 = 0
    · have e1b : (es.2 != 0) = false := by rw [e1]; rfl
      by_cases e2 : 8 < l1.length
      · have d2 : decide (8 < l1.length) = true := decide_eq_true e2
        have d2b : decide (8 < (l1.length : Int)) = true := decide_eq_true (by omega)
        clear c e1 e2
        go_enter Try.func16, Try.ntmps16
        go_wp2_with (first | ((with_reducible refine gate_dst (N := 8) rfl ?_); refine fr_alloc rfl rfl HA.out ?_; intro gf w_ hA; (try simp only [List.cons_append, List.nil_append] at hA); replace HA := Aside0.mk hA; clear hA) | (refine fr_guard rfl (by rfl) ?_; dsimp only) | (refine fr_load rfl rfl rfl HA.out (by first | exact List.mem_cons_self | exact List.mem_cons_of_mem _ List.mem_cons_self | exact List.mem_cons_of_mem _ (List.mem_cons_of_mem _ List.mem_cons_self) | exact List.mem_cons_of_mem _ (List.mem_cons_of_mem _ (List.mem_cons_of_mem _ List.mem_cons_self))) ?_) | (refine fr_load0 rfl rfl rfl HA.out (by first | exact List.mem_cons_self | exact List.mem_cons_of_mem _ List.mem_cons_self | exact List.mem_cons_of_mem _ (List.mem_cons_of_mem _ List.mem_cons_self) | exact List.mem_cons_of_mem _ (List.mem_cons_of_mem _ (List.mem_cons_of_mem _ List.mem_cons_self))) ?_) | (refine fr_load1 rfl rfl rfl HA.out (by first | exact List.mem_cons_self | exact List.mem_cons_of_mem _ List.mem_cons_self | exact List.mem_cons_of_mem _ (List.mem_cons_of_mem _ List.mem_cons_self) | exact List.mem_cons_of_mem _ (List.mem_cons_of_mem _ (List.mem_cons_of_mem _ List.mem_cons_self))) ?_) | (refine fr_store rfl rfl rfl rfl (by first | exact HF.out | exact HEF.out | exact HFI.out | exact HRO.out | exact Fr.zero_ok) [] HA.out ?_; intro w_ hA; (try simp only [List.cons_append, List.nil_append] at hA); replace HA := Aside0.mk hA; clear hA) | (refine fr_store rfl rfl rfl rfl (by first | exact HF.out | exact HEF.out | exact HFI.out | exact HRO.out | exact Fr.zero_ok) [_] HA.out ?_; intro w_ hA; (try simp only [List.cons_append, List.nil_append] at hA); replace HA := Aside0.mk hA; clear hA) | (refine fr_store rfl rfl rfl rfl (by first | exact HF.out | exact HEF.out | exact HFI.out | exact HRO.out | exact Fr.zero_ok) [_, _] HA.out ?_; intro w_ hA; (try simp only [List.cons_append, List.nil_append] at hA); replace HA := Aside0.mk hA; clear hA) | (refine fr_store rfl rfl rfl rfl (by first | exact HF.out | exact HEF.out | exact HFI.out | exact HRO.out | exact Fr.zero_ok) [_, _, _] HA.out ?_; intro w_ hA; (try simp only [List.cons_append, List.nil_append] at hA); replace HA := Aside0.mk hA; clear hA) | (refine fr_box rfl rfl rfl (by first | exact HF.out | exact HEF.out | exact HFI.out | exact HRO.out | exact Fr.zero_ok) HA.out ?_; intro gp w_ hA; (try simp only [List.cons_append, List.nil_append] at hA); replace HA := Aside0.mk hA; clear hA) | (refine fr_alloc rfl rfl HA.out ?_; intro gr w_ hA; (try simp only [List.cons_append, List.nil_append] at hA); replace HA := Aside0.mk hA; clear hA) | (refine fr_build0 rfl rfl ?_) | (refine fr_build1 rfl rfl rfl ?_) | (refine fr_build2 rfl rfl rfl rfl ?_) | (refine fr_slot rfl rfl rfl rfl [] HA.out HQ.out ?_; intro w_ hA; (try simp only [List.cons_append, List.nil_append] at hA); replace HA := Aside0.mk hA; clear hA) | (refine fr_slot rfl rfl rfl rfl [_] HA.out HQ.out ?_; intro w_ hA; (try simp only [List.cons_append, List.nil_append] at hA); replace HA := Aside0.mk hA; clear hA) | (refine fr_slot rfl rfl rfl rfl [_, _] HA.out HQ.out ?_; intro w_ hA; (try simp only [List.cons_append, List.nil_append] at hA); replace HA := Aside0.mk hA; clear hA) | (refine fr_high rfl rfl rfl rfl [] HA.out ?_; intro w_ hA; (try simp only [List.cons_append, List.nil_append] at hA); replace HA := Aside0.mk hA; clear hA) | (refine fr_high rfl rfl rfl rfl [_] HA.out ?_; intro w_ hA; (try simp only [List.cons_append, List.nil_append] at hA); replace HA := Aside0.mk hA; clear hA) | (refine fr_high rfl rfl rfl rfl [_, _] HA.out ?_; intro w_ hA; (try simp only [List.cons_append, List.nil_append] at hA); replace HA := Aside0.mk hA; clear hA) | (refine fr_loads rfl rfl rfl HA.out (by first | exact List.mem_cons_self | exact List.mem_cons_of_mem _ List.mem_cons_self | exact List.mem_cons_of_mem _ (List.mem_cons_of_mem _ List.mem_cons_self) | exact List.mem_cons_of_mem _ (List.mem_cons_of_mem _ (List.mem_cons_of_mem _ List.mem_cons_self))) HQ.out ?_))
        have hcall := Empty_calls n w_
        rw [← HES.out] at hcall
        refine hcall.mono ?_
        clear hcall
        rintro e w_ ⟨rfl, hb⟩
        replace HA := Aside0.mk (HA.out.step hb)
        clear hb
        go_wp2_with (first | ((with_reducible refine gate_dst (N := 8) rfl ?_); refine fr_alloc rfl rfl HA.out ?_; intro gf w_ hA; (try simp only [List.cons_append, List.nil_append] at hA); replace HA := Aside0.mk hA; clear hA) | (refine fr_guard rfl (by rfl) ?_; dsimp only) | (refine fr_load rfl rfl rfl HA.out (by first | exact List.mem_cons_self | exact List.mem_cons_of_mem _ List.mem_cons_self | exact List.mem_cons_of_mem _ (List.mem_cons_of_mem _ List.mem_cons_self) | exact List.mem_cons_of_mem _ (List.mem_cons_of_mem _ (List.mem_cons_of_mem _ List.mem_cons_self))) ?_) | (refine fr_load0 rfl rfl rfl HA.out (by first | exact List.mem_cons_self | exact List.mem_cons_of_mem _ List.mem_cons_self | exact List.mem_cons_of_mem _ (List.mem_cons_of_mem _ List.mem_cons_self) | exact List.mem_cons_of_mem _ (List.mem_cons_of_mem _ (List.mem_cons_of_mem _ List.mem_cons_self))) ?_) | (refine fr_load1 rfl rfl rfl HA.out (by first | exact List.mem_cons_self | exact List.mem_cons_of_mem _ List.mem_cons_self | exact List.mem_cons_of_mem _ (List.mem_cons_of_mem _ List.mem_cons_self) | exact List.mem_cons_of_mem _ (List.mem_cons_of_mem _ (List.mem_cons_of_mem _ List.mem_cons_self))) ?_) | (refine fr_store rfl rfl rfl rfl (by first | exact HF.out | exact HEF.out | exact HFI.out | exact HRO.out | exact Fr.zero_ok) [] HA.out ?_; intro w_ hA; (try simp only [List.cons_append, List.nil_append] at hA); replace HA := Aside0.mk hA; clear hA) | (refine fr_store rfl rfl rfl rfl (by first | exact HF.out | exact HEF.out | exact HFI.out | exact HRO.out | exact Fr.zero_ok) [_] HA.out ?_; intro w_ hA; (try simp only [List.cons_append, List.nil_append] at hA); replace HA := Aside0.mk hA; clear hA) | (refine fr_store rfl rfl rfl rfl (by first | exact HF.out | exact HEF.out | exact HFI.out | exact HRO.out | exact Fr.zero_ok) [_, _] HA.out ?_; intro w_ hA; (try simp only [List.cons_append, List.nil_append] at hA); replace HA := Aside0.mk hA; clear hA) | (refine fr_store rfl rfl rfl rfl (by first | exact HF.out | exact HEF.out | exact HFI.out | exact HRO.out | exact Fr.zero_ok) [_, _, _] HA.out ?_; intro w_ hA; (try simp only [List.cons_append, List.nil_append] at hA); replace HA := Aside0.mk hA; clear hA) | (refine fr_box rfl rfl rfl (by first | exact HF.out | exact HEF.out | exact HFI.out | exact HRO.out | exact Fr.zero_ok) HA.out ?_; intro gp w_ hA; (try simp only [List.cons_append, List.nil_append] at hA); replace HA := Aside0.mk hA; clear hA) | (refine fr_alloc rfl rfl HA.out ?_; intro gr w_ hA; (try simp only [List.cons_append, List.nil_append] at hA); replace HA := Aside0.mk hA; clear hA) | (refine fr_build0 rfl rfl ?_) | (refine fr_build1 rfl rfl rfl ?_) | (refine fr_build2 rfl rfl rfl rfl ?_) | (refine fr_slot rfl rfl rfl rfl [] HA.out HQ.out ?_; intro w_ hA; (try simp only [List.cons_append, List.nil_append] at hA); replace HA := Aside0.mk hA; clear hA) | (refine fr_slot rfl rfl rfl rfl [_] HA.out HQ.out ?_; intro w_ hA; (try simp only [List.cons_append, List.nil_append] at hA); replace HA := Aside0.mk hA; clear hA) | (refine fr_slot rfl rfl rfl rfl [_, _] HA.out HQ.out ?_; intro w_ hA; (try simp only [List.cons_append, List.nil_append] at hA); replace HA := Aside0.mk hA; clear hA) | (refine fr_high rfl rfl rfl rfl [] HA.out ?_; intro w_ hA; (try simp only [List.cons_append, List.nil_append] at hA); replace HA := Aside0.mk hA; clear hA) | (refine fr_high rfl rfl rfl rfl [_] HA.out ?_; intro w_ hA; (try simp only [List.cons_append, List.nil_append] at hA); replace HA := Aside0.mk hA; clear hA) | (refine fr_high rfl rfl rfl rfl [_, _] HA.out ?_; intro w_ hA; (try simp only [List.cons_append, List.nil_append] at hA); replace HA := Aside0.mk hA; clear hA) | (refine fr_loads rfl rfl rfl HA.out (by first | exact List.mem_cons_self | exact List.mem_cons_of_mem _ List.mem_cons_self | exact List.mem_cons_of_mem _ (List.mem_cons_of_mem _ List.mem_cons_self) | exact List.mem_cons_of_mem _ (List.mem_cons_of_mem _ (List.mem_cons_of_mem _ List.mem_cons_self))) HQ.out ?_))
        refine bodyPost_ret (fr_ret2 rfl _ HA.out (by first | exact List.mem_cons_self | exact List.mem_cons_of_mem _ List.mem_cons_self | exact List.mem_cons_of_mem _ (List.mem_cons_of_mem _ List.mem_cons_self) | exact List.mem_cons_of_mem _ (List.mem_cons_of_mem _ (List.mem_cons_of_mem _ List.mem_cons_self))) rfl) rfl ⟨?_, HA.out.below⟩
        rfl
      · have d2 : decide (8 < l1.length) = false := decide_eq_false e2
        have d2b : decide (8 < (l1.length : Int)) = false := decide_eq_false (by omega)
        have d3 : decide (n < (l1.length : Int)) = true := decide_eq_true (by omega)
        clear c e1 e2
        go_enter Try.func16, Try.ntmps16
        go_wp2_with (first | ((with_reducible refine gate_dst (N := 8) rfl ?_); refine fr_alloc rfl rfl HA.out ?_; intro gf w_ hA; (try simp only [List.cons_append, List.nil_append] at hA); replace HA := Aside0.mk hA; clear hA) | (refine fr_guard rfl (by rfl) ?_; dsimp only) | (refine fr_load rfl rfl rfl HA.out (by first | exact List.mem_cons_self | exact List.mem_cons_of_mem _ List.mem_cons_self | exact List.mem_cons_of_mem _ (List.mem_cons_of_mem _ List.mem_cons_self) | exact List.mem_cons_of_mem _ (List.mem_cons_of_mem _ (List.mem_cons_of_mem _ List.mem_cons_self))) ?_) | (refine fr_load0 rfl rfl rfl HA.out (by first | exact List.mem_cons_self | exact List.mem_cons_of_mem _ List.mem_cons_self | exact List.mem_cons_of_mem _ (List.mem_cons_of_mem _ List.mem_cons_self) | exact List.mem_cons_of_mem _ (List.mem_cons_of_mem _ (List.mem_cons_of_mem _ List.mem_cons_self))) ?_) | (refine fr_load1 rfl rfl rfl HA.out (by first | exact List.mem_cons_self | exact List.mem_cons_of_mem _ List.mem_cons_self | exact List.mem_cons_of_mem _ (List.mem_cons_of_mem _ List.mem_cons_self) | exact List.mem_cons_of_mem _ (List.mem_cons_of_mem _ (List.mem_cons_of_mem _ List.mem_cons_self))) ?_) | (refine fr_store rfl rfl rfl rfl (by first | exact HF.out | exact HEF.out | exact HFI.out | exact HRO.out | exact Fr.zero_ok) [] HA.out ?_; intro w_ hA; (try simp only [List.cons_append, List.nil_append] at hA); replace HA := Aside0.mk hA; clear hA) | (refine fr_store rfl rfl rfl rfl (by first | exact HF.out | exact HEF.out | exact HFI.out | exact HRO.out | exact Fr.zero_ok) [_] HA.out ?_; intro w_ hA; (try simp only [List.cons_append, List.nil_append] at hA); replace HA := Aside0.mk hA; clear hA) | (refine fr_store rfl rfl rfl rfl (by first | exact HF.out | exact HEF.out | exact HFI.out | exact HRO.out | exact Fr.zero_ok) [_, _] HA.out ?_; intro w_ hA; (try simp only [List.cons_append, List.nil_append] at hA); replace HA := Aside0.mk hA; clear hA) | (refine fr_store rfl rfl rfl rfl (by first | exact HF.out | exact HEF.out | exact HFI.out | exact HRO.out | exact Fr.zero_ok) [_, _, _] HA.out ?_; intro w_ hA; (try simp only [List.cons_append, List.nil_append] at hA); replace HA := Aside0.mk hA; clear hA) | (refine fr_box rfl rfl rfl (by first | exact HF.out | exact HEF.out | exact HFI.out | exact HRO.out | exact Fr.zero_ok) HA.out ?_; intro gp w_ hA; (try simp only [List.cons_append, List.nil_append] at hA); replace HA := Aside0.mk hA; clear hA) | (refine fr_alloc rfl rfl HA.out ?_; intro gr w_ hA; (try simp only [List.cons_append, List.nil_append] at hA); replace HA := Aside0.mk hA; clear hA) | (refine fr_build0 rfl rfl ?_) | (refine fr_build1 rfl rfl rfl ?_) | (refine fr_build2 rfl rfl rfl rfl ?_) | (refine fr_slot rfl rfl rfl rfl [] HA.out HQ.out ?_; intro w_ hA; (try simp only [List.cons_append, List.nil_append] at hA); replace HA := Aside0.mk hA; clear hA) | (refine fr_slot rfl rfl rfl rfl [_] HA.out HQ.out ?_; intro w_ hA; (try simp only [List.cons_append, List.nil_append] at hA); replace HA := Aside0.mk hA; clear hA) | (refine fr_slot rfl rfl rfl rfl [_, _] HA.out HQ.out ?_; intro w_ hA; (try simp only [List.cons_append, List.nil_append] at hA); replace HA := Aside0.mk hA; clear hA) | (refine fr_high rfl rfl rfl rfl [] HA.out ?_; intro w_ hA; (try simp only [List.cons_append, List.nil_append] at hA); replace HA := Aside0.mk hA; clear hA) | (refine fr_high rfl rfl rfl rfl [_] HA.out ?_; intro w_ hA; (try simp only [List.cons_append, List.nil_append] at hA); replace HA := Aside0.mk hA; clear hA) | (refine fr_high rfl rfl rfl rfl [_, _] HA.out ?_; intro w_ hA; (try simp only [List.cons_append, List.nil_append] at hA); replace HA := Aside0.mk hA; clear hA) | (refine fr_loads rfl rfl rfl HA.out (by first | exact List.mem_cons_self | exact List.mem_cons_of_mem _ List.mem_cons_self | exact List.mem_cons_of_mem _ (List.mem_cons_of_mem _ List.mem_cons_self) | exact List.mem_cons_of_mem _ (List.mem_cons_of_mem _ (List.mem_cons_of_mem _ List.mem_cons_self))) HQ.out ?_))
        have hcall := Empty_calls n w_
        rw [← HES.out] at hcall
        refine hcall.mono ?_
        clear hcall
        rintro e w_ ⟨rfl, hb⟩
        replace HA := Aside0.mk (HA.out.step hb)
        clear hb
        go_wp2_with (first | ((with_reducible refine gate_dst (N := 8) rfl ?_); refine fr_alloc rfl rfl HA.out ?_; intro gf w_ hA; (try simp only [List.cons_append, List.nil_append] at hA); replace HA := Aside0.mk hA; clear hA) | (refine fr_guard rfl (by rfl) ?_; dsimp only) | (refine fr_load rfl rfl rfl HA.out (by first | exact List.mem_cons_self | exact List.mem_cons_of_mem _ List.mem_cons_self | exact List.mem_cons_of_mem _ (List.mem_cons_of_mem _ List.mem_cons_self) | exact List.mem_cons_of_mem _ (List.mem_cons_of_mem _ (List.mem_cons_of_mem _ List.mem_cons_self))) ?_) | (refine fr_load0 rfl rfl rfl HA.out (by first | exact List.mem_cons_self | exact List.mem_cons_of_mem _ List.mem_cons_self | exact List.mem_cons_of_mem _ (List.mem_cons_of_mem _ List.mem_cons_self) | exact List.mem_cons_of_mem _ (List.mem_cons_of_mem _ (List.mem_cons_of_mem _ List.mem_cons_self))) ?_) | (refine fr_load1 rfl rfl rfl HA.out (by first | exact List.mem_cons_self | exact List.mem_cons_of_mem _ List.mem_cons_self | exact List.mem_cons_of_mem _ (List.mem_cons_of_mem _ List.mem_cons_self) | exact List.mem_cons_of_mem _ (List.mem_cons_of_mem _ (List.mem_cons_of_mem _ List.mem_cons_self))) ?_) | (refine fr_store rfl rfl rfl rfl (by first | exact HF.out | exact HEF.out | exact HFI.out | exact HRO.out | exact Fr.zero_ok) [] HA.out ?_; intro w_ hA; (try simp only [List.cons_append, List.nil_append] at hA); replace HA := Aside0.mk hA; clear hA) | (refine fr_store rfl rfl rfl rfl (by first | exact HF.out | exact HEF.out | exact HFI.out | exact HRO.out | exact Fr.zero_ok) [_] HA.out ?_; intro w_ hA; (try simp only [List.cons_append, List.nil_append] at hA); replace HA := Aside0.mk hA; clear hA) | (refine fr_store rfl rfl rfl rfl (by first | exact HF.out | exact HEF.out | exact HFI.out | exact HRO.out | exact Fr.zero_ok) [_, _] HA.out ?_; intro w_ hA; (try simp only [List.cons_append, List.nil_append] at hA); replace HA := Aside0.mk hA; clear hA) | (refine fr_store rfl rfl rfl rfl (by first | exact HF.out | exact HEF.out | exact HFI.out | exact HRO.out | exact Fr.zero_ok) [_, _, _] HA.out ?_; intro w_ hA; (try simp only [List.cons_append, List.nil_append] at hA); replace HA := Aside0.mk hA; clear hA) | (refine fr_box rfl rfl rfl (by first | exact HF.out | exact HEF.out | exact HFI.out | exact HRO.out | exact Fr.zero_ok) HA.out ?_; intro gp w_ hA; (try simp only [List.cons_append, List.nil_append] at hA); replace HA := Aside0.mk hA; clear hA) | (refine fr_alloc rfl rfl HA.out ?_; intro gr w_ hA; (try simp only [List.cons_append, List.nil_append] at hA); replace HA := Aside0.mk hA; clear hA) | (refine fr_build0 rfl rfl ?_) | (refine fr_build1 rfl rfl rfl ?_) | (refine fr_build2 rfl rfl rfl rfl ?_) | (refine fr_slot rfl rfl rfl rfl [] HA.out HQ.out ?_; intro w_ hA; (try simp only [List.cons_append, List.nil_append] at hA); replace HA := Aside0.mk hA; clear hA) | (refine fr_slot rfl rfl rfl rfl [_] HA.out HQ.out ?_; intro w_ hA; (try simp only [List.cons_append, List.nil_append] at hA); replace HA := Aside0.mk hA; clear hA) | (refine fr_slot rfl rfl rfl rfl [_, _] HA.out HQ.out ?_; intro w_ hA; (try simp only [List.cons_append, List.nil_append] at hA); replace HA := Aside0.mk hA; clear hA) | (refine fr_high rfl rfl rfl rfl [] HA.out ?_; intro w_ hA; (try simp only [List.cons_append, List.nil_append] at hA); replace HA := Aside0.mk hA; clear hA) | (refine fr_high rfl rfl rfl rfl [_] HA.out ?_; intro w_ hA; (try simp only [List.cons_append, List.nil_append] at hA); replace HA := Aside0.mk hA; clear hA) | (refine fr_high rfl rfl rfl rfl [_, _] HA.out ?_; intro w_ hA; (try simp only [List.cons_append, List.nil_append] at hA); replace HA := Aside0.mk hA; clear hA) | (refine fr_loads rfl rfl rfl HA.out (by first | exact List.mem_cons_self | exact List.mem_cons_of_mem _ List.mem_cons_self | exact List.mem_cons_of_mem _ (List.mem_cons_of_mem _ List.mem_cons_self) | exact List.mem_cons_of_mem _ (List.mem_cons_of_mem _ (List.mem_cons_of_mem _ List.mem_cons_self))) HQ.out ?_))
        refine bodyPost_ret (fr_ret2 rfl _ HA.out (by first | exact List.mem_cons_self | exact List.mem_cons_of_mem _ List.mem_cons_self | exact List.mem_cons_of_mem _ (List.mem_cons_of_mem _ List.mem_cons_self) | exact List.mem_cons_of_mem _ (List.mem_cons_of_mem _ (List.mem_cons_of_mem _ List.mem_cons_self))) rfl) rfl ⟨?_, HA.out.below⟩
        rfl
    · have e1b : (es.2 != 0) = true := by rw [bne_iff_ne]; exact e1
      clear c e1
      go_enter Try.func16, Try.ntmps16
      go_wp2_with (first | ((with_reducible refine gate_dst (N := 8) rfl ?_); refine fr_alloc rfl rfl HA.out ?_; intro gf w_ hA; (try simp only [List.cons_append, List.nil_append] at hA); replace HA := Aside0.mk hA; clear hA) | (refine fr_guard rfl (by rfl) ?_; dsimp only) | (refine fr_load rfl rfl rfl HA.out (by first | exact List.mem_cons_self | exact List.mem_cons_of_mem _ List.mem_cons_self | exact List.mem_cons_of_mem _ (List.mem_cons_of_mem _ List.mem_cons_self) | exact List.mem_cons_of_mem _ (List.mem_cons_of_mem _ (List.mem_cons_of_mem _ List.mem_cons_self))) ?_) | (refine fr_load0 rfl rfl rfl HA.out (by first | exact List.mem_cons_self | exact List.mem_cons_of_mem _ List.mem_cons_self | exact List.mem_cons_of_mem _ (List.mem_cons_of_mem _ List.mem_cons_self) | exact List.mem_cons_of_mem _ (List.mem_cons_of_mem _ (List.mem_cons_of_mem _ List.mem_cons_self))) ?_) | (refine fr_load1 rfl rfl rfl HA.out (by first | exact List.mem_cons_self | exact List.mem_cons_of_mem _ List.mem_cons_self | exact List.mem_cons_of_mem _ (List.mem_cons_of_mem _ List.mem_cons_self) | exact List.mem_cons_of_mem _ (List.mem_cons_of_mem _ (List.mem_cons_of_mem _ List.mem_cons_self))) ?_) | (refine fr_store rfl rfl rfl rfl (by first | exact HF.out | exact HEF.out | exact HFI.out | exact HRO.out | exact Fr.zero_ok) [] HA.out ?_; intro w_ hA; (try simp only [List.cons_append, List.nil_append] at hA); replace HA := Aside0.mk hA; clear hA) | (refine fr_store rfl rfl rfl rfl (by first | exact HF.out | exact HEF.out | exact HFI.out | exact HRO.out | exact Fr.zero_ok) [_] HA.out ?_; intro w_ hA; (try simp only [List.cons_append, List.nil_append] at hA); replace HA := Aside0.mk hA; clear hA) | (refine fr_store rfl rfl rfl rfl (by first | exact HF.out | exact HEF.out | exact HFI.out | exact HRO.out | exact Fr.zero_ok) [_, _] HA.out ?_; intro w_ hA; (try simp only [List.cons_append, List.nil_append] at hA); replace HA := Aside0.mk hA; clear hA) | (refine fr_store rfl rfl rfl rfl (by first | exact HF.out | exact HEF.out | exact HFI.out | exact HRO.out | exact Fr.zero_ok) [_, _, _] HA.out ?_; intro w_ hA; (try simp only [List.cons_append, List.nil_append] at hA); replace HA := Aside0.mk hA; clear hA) | (refine fr_box rfl rfl rfl (by first | exact HF.out | exact HEF.out | exact HFI.out | exact HRO.out | exact Fr.zero_ok) HA.out ?_; intro gp w_ hA; (try simp only [List.cons_append, List.nil_append] at hA); replace HA := Aside0.mk hA; clear hA) | (refine fr_alloc rfl rfl HA.out ?_; intro gr w_ hA; (try simp only [List.cons_append, List.nil_append] at hA); replace HA := Aside0.mk hA; clear hA) | (refine fr_build0 rfl rfl ?_) | (refine fr_build1 rfl rfl rfl ?_) | (refine fr_build2 rfl rfl rfl rfl ?_) | (refine fr_slot rfl rfl rfl rfl [] HA.out HQ.out ?_; intro w_ hA; (try simp only [List.cons_append, List.nil_append] at hA); replace HA := Aside0.mk hA; clear hA) | (refine fr_slot rfl rfl rfl rfl [_] HA.out HQ.out ?_; intro w_ hA; (try simp only [List.cons_append, List.nil_append] at hA); replace HA := Aside0.mk hA; clear hA) | (refine fr_slot rfl rfl rfl rfl [_, _] HA.out HQ.out ?_; intro w_ hA; (try simp only [List.cons_append, List.nil_append] at hA); replace HA := Aside0.mk hA; clear hA) | (refine fr_high rfl rfl rfl rfl [] HA.out ?_; intro w_ hA; (try simp only [List.cons_append, List.nil_append] at hA); replace HA := Aside0.mk hA; clear hA) | (refine fr_high rfl rfl rfl rfl [_] HA.out ?_; intro w_ hA; (try simp only [List.cons_append, List.nil_append] at hA); replace HA := Aside0.mk hA; clear hA) | (refine fr_high rfl rfl rfl rfl [_, _] HA.out ?_; intro w_ hA; (try simp only [List.cons_append, List.nil_append] at hA); replace HA := Aside0.mk hA; clear hA) | (refine fr_loads rfl rfl rfl HA.out (by first | exact List.mem_cons_self | exact List.mem_cons_of_mem _ List.mem_cons_self | exact List.mem_cons_of_mem _ (List.mem_cons_of_mem _ List.mem_cons_self) | exact List.mem_cons_of_mem _ (List.mem_cons_of_mem _ (List.mem_cons_of_mem _ List.mem_cons_self))) HQ.out ?_))
      have hcall := Empty_calls n w_
      rw [← HES.out] at hcall
      refine hcall.mono ?_
      clear hcall
      rintro e w_ ⟨rfl, hb⟩
      replace HA := Aside0.mk (HA.out.step hb)
      clear hb
      go_wp2_with (first | ((with_reducible refine gate_dst (N := 8) rfl ?_); refine fr_alloc rfl rfl HA.out ?_; intro gf w_ hA; (try simp only [List.cons_append, List.nil_append] at hA); replace HA := Aside0.mk hA; clear hA) | (refine fr_guard rfl (by rfl) ?_; dsimp only) | (refine fr_load rfl rfl rfl HA.out (by first | exact List.mem_cons_self | exact List.mem_cons_of_mem _ List.mem_cons_self | exact List.mem_cons_of_mem _ (List.mem_cons_of_mem _ List.mem_cons_self) | exact List.mem_cons_of_mem _ (List.mem_cons_of_mem _ (List.mem_cons_of_mem _ List.mem_cons_self))) ?_) | (refine fr_load0 rfl rfl rfl HA.out (by first | exact List.mem_cons_self | exact List.mem_cons_of_mem _ List.mem_cons_self | exact List.mem_cons_of_mem _ (List.mem_cons_of_mem _ List.mem_cons_self) | exact List.mem_cons_of_mem _ (List.mem_cons_of_mem _ (List.mem_cons_of_mem _ List.mem_cons_self))) ?_) | (refine fr_load1 rfl rfl rfl HA.out (by first | exact List.mem_cons_self | exact List.mem_cons_of_mem _ List.mem_cons_self | exact List.mem_cons_of_mem _ (List.mem_cons_of_mem _ List.mem_cons_self) | exact List.mem_cons_of_mem _ (List.mem_cons_of_mem _ (List.mem_cons_of_mem _ List.mem_cons_self))) ?_) | (refine fr_store rfl rfl rfl rfl (by first | exact HF.out | exact HEF.out | exact HFI.out | exact HRO.out | exact Fr.zero_ok) [] HA.out ?_; intro w_ hA; (try simp only [List.cons_append, List.nil_append] at hA); replace HA := Aside0.mk hA; clear hA) | (refine fr_store rfl rfl rfl rfl (by first | exact HF.out | exact HEF.out | exact HFI.out | exact HRO.out | exact Fr.zero_ok) [_] HA.out ?_; intro w_ hA; (try simp only [List.cons_append, List.nil_append] at hA); replace HA := Aside0.mk hA; clear hA) | (refine fr_store rfl rfl rfl rfl (by first | exact HF.out | exact HEF.out | exact HFI.out | exact HRO.out | exact Fr.zero_ok) [_, _] HA.out ?_; intro w_ hA; (try simp only [List.cons_append, List.nil_append] at hA); replace HA := Aside0.mk hA; clear hA) | (refine fr_store rfl rfl rfl rfl (by first | exact HF.out | exact HEF.out | exact HFI.out | exact HRO.out | exact Fr.zero_ok) [_, _, _] HA.out ?_; intro w_ hA; (try simp only [List.cons_append, List.nil_append] at hA); replace HA := Aside0.mk hA; clear hA) | (refine fr_box rfl rfl rfl (by first | exact HF.out | exact HEF.out | exact HFI.out | exact HRO.out | exact Fr.zero_ok) HA.out ?_; intro gp w_ hA; (try simp only [List.cons_append, List.nil_append] at hA); replace HA := Aside0.mk hA; clear hA) | (refine fr_alloc rfl rfl HA.out ?_; intro gr w_ hA; (try simp only [List.cons_append, List.nil_append] at hA); replace HA := Aside0.mk hA; clear hA) | (refine fr_build0 rfl rfl ?_) | (refine fr_build1 rfl rfl rfl ?_) | (refine fr_build2 rfl rfl rfl rfl ?_) | (refine fr_slot rfl rfl rfl rfl [] HA.out HQ.out ?_; intro w_ hA; (try simp only [List.cons_append, List.nil_append] at hA); replace HA := Aside0.mk hA; clear hA) | (refine fr_slot rfl rfl rfl rfl [_] HA.out HQ.out ?_; intro w_ hA; (try simp only [List.cons_append, List.nil_append] at hA); replace HA := Aside0.mk hA; clear hA) | (refine fr_slot rfl rfl rfl rfl [_, _] HA.out HQ.out ?_; intro w_ hA; (try simp only [List.cons_append, List.nil_append] at hA); replace HA := Aside0.mk hA; clear hA) | (refine fr_high rfl rfl rfl rfl [] HA.out ?_; intro w_ hA; (try simp only [List.cons_append, List.nil_append] at hA); replace HA := Aside0.mk hA; clear hA) | (refine fr_high rfl rfl rfl rfl [_] HA.out ?_; intro w_ hA; (try simp only [List.cons_append, List.nil_append] at hA); replace HA := Aside0.mk hA; clear hA) | (refine fr_high rfl rfl rfl rfl [_, _] HA.out ?_; intro w_ hA; (try simp only [List.cons_append, List.nil_append] at hA); replace HA := Aside0.mk hA; clear hA) | (refine fr_loads rfl rfl rfl HA.out (by first | exact List.mem_cons_self | exact List.mem_cons_of_mem _ List.mem_cons_self | exact List.mem_cons_of_mem _ (List.mem_cons_of_mem _ List.mem_cons_self) | exact List.mem_cons_of_mem _ (List.mem_cons_of_mem _ (List.mem_cons_of_mem _ List.mem_cons_self))) HQ.out ?_))
      refine bodyPost_ret (fr_ret2 rfl _ HA.out (by first | exact List.mem_cons_self | exact List.mem_cons_of_mem _ List.mem_cons_self | exact List.mem_cons_of_mem _ (List.mem_cons_of_mem _ List.mem_cons_self) | exact List.mem_cons_of_mem _ (List.mem_cons_of_mem _ (List.mem_cons_of_mem _ List.mem_cons_self))) rfl) rfl ⟨?_, HA.out.below⟩
      rfl
  · unfold startS at h
    rw [if_neg c] at h
    have e1 : (emptyS n).2 = 0 := by
      by_cases hh : (emptyS n).2 = 0
      · exact hh
      · exact absurd (.inl hh) c
    have e2 : l1.length ≤ 8 := by omega
    have e3 : (l1.length : Int) ≤ n := by omega
    have d2 : decide (8 < l1.length) = false := decide_eq_false (by omega)
    have d2b : decide (8 < (l1.length : Int)) = false := decide_eq_false (by omega)
    have d3 : decide (n < (l1.length : Int)) = false := decide_eq_false (by omega)
    have E2 := Aside0.mk e2
    have H := Aside0.mk h
    have HES : Aside0 (emptyS n = ((emptyS n).1, 0)) := ⟨by rw [← e1]⟩
    generalize (emptyS n).1 = f0 at H HEF HES
    clear hr0 hc0 hr1 hc1 h c e1 e2 e3
    go_enter Try.func16, Try.ntmps16
    go_wp2_with (first | ((with_reducible refine gate_dst (N := 8) rfl ?_); refine fr_alloc rfl rfl HA.out ?_; intro gf w_ hA; (try simp only [List.cons_append, List.nil_append] at hA); replace HA := Aside0.mk hA; clear hA) | (refine fr_guard rfl (by rfl) ?_; dsimp only) | (refine fr_load rfl rfl rfl HA.out (by first | exact List.mem_cons_self | exact List.mem_cons_of_mem _ List.mem_cons_self | exact List.mem_cons_of_mem _ (List.mem_cons_of_mem _ List.mem_cons_self) | exact List.mem_cons_of_mem _ (List.mem_cons_of_mem _ (List.mem_cons_of_mem _ List.mem_cons_self))) ?_) | (refine fr_load0 rfl rfl rfl HA.out (by first | exact List.mem_cons_self | exact List.mem_cons_of_mem _ List.mem_cons_self | exact List.mem_cons_of_mem _ (List.mem_cons_of_mem _ List.mem_cons_self) | exact List.mem_cons_of_mem _ (List.mem_cons_of_mem _ (List.mem_cons_of_mem _ List.mem_cons_self))) ?_) | (refine fr_load1 rfl rfl rfl HA.out (by first | exact List.mem_cons_self | exact List.mem_cons_of_mem _ List.mem_cons_self | exact List.mem_cons_of_mem _ (List.mem_cons_of_mem _ List.mem_cons_self) | exact List.mem_cons_of_mem _ (List.mem_cons_of_mem _ (List.mem_cons_of_mem _ List.mem_cons_self))) ?_) | (refine fr_store rfl rfl rfl rfl (by first | exact HF.out | exact HEF.out | exact HFI.out | exact HRO.out | exact Fr.zero_ok) [] HA.out ?_; intro w_ hA; (try simp only [List.cons_append, List.nil_append] at hA); replace HA := Aside0.mk hA; clear hA) | (refine fr_store rfl rfl rfl rfl (by first | exact HF.out | exact HEF.out | exact HFI.out | exact HRO.out | exact Fr.zero_ok) [_] HA.out ?_; intro w_ hA; (try simp only [List.cons_append, List.nil_append] at hA); replace HA := Aside0.mk hA; clear hA) | (refine fr_store rfl rfl rfl rfl (by first | exact HF.out | exact HEF.out | exact HFI.out | exact HRO.out | exact Fr.zero_ok) [_, _] HA.out ?_; intro w_ hA; (try simp only [List.cons_append, List.nil_append] at hA); replace HA := Aside0.mk hA; clear hA) | (refine fr_store rfl rfl rfl rfl (by first | exact HF.out | exact HEF.out | exact HFI.out | exact HRO.out | exact Fr.zero_ok) [_, _, _] HA.out ?_; intro w_ hA; (try simp only [List.cons_append, List.nil_append] at hA); replace HA := Aside0.mk hA; clear hA) | (refine fr_box rfl rfl rfl (by first | exact HF.out | exact HEF.out | exact HFI.out | exact HRO.out | exact Fr.zero_ok) HA.out ?_; intro gp w_ hA; (try simp only [List.cons_append, List.nil_append] at hA); replace HA := Aside0.mk hA; clear hA) | (refine fr_alloc rfl rfl HA.out ?_; intro gr w_ hA; (try simp only [List.cons_append, List.nil_append] at hA); replace HA := Aside0.mk hA; clear hA) | (refine fr_build0 rfl rfl ?_) | (refine fr_build1 rfl rfl rfl ?_) | (refine fr_build2 rfl rfl rfl rfl ?_) | (refine fr_slot rfl rfl rfl rfl [] HA.out HQ.out ?_; intro w_ hA; (try simp only [List.cons_append, List.nil_append] at hA); replace HA := Aside0.mk hA; clear hA) | (refine fr_slot rfl rfl rfl rfl [_] HA.out HQ.out ?_; intro w_ hA; (try simp only [List.cons_append, List.nil_append] at hA); replace HA := Aside0.mk hA; clear hA) | (refine fr_slot rfl rfl rfl rfl [_, _] HA.out HQ.out ?_; intro w_ hA; (try simp only [List.cons_append, List.nil_append] at hA); replace HA := Aside0.mk hA; clear hA) | (refine fr_high rfl rfl rfl rfl [] HA.out ?_; intro w_ hA; (try simp only [List.cons_append, List.nil_append] at hA); replace HA := Aside0.mk hA; clear hA) | (refine fr_high rfl rfl rfl rfl [_] HA.out ?_; intro w_ hA; (try simp only [List.cons_append, List.nil_append] at hA); replace HA := Aside0.mk hA; clear hA) | (refine fr_high rfl rfl rfl rfl [_, _] HA.out ?_; intro w_ hA; (try simp only [List.cons_append, List.nil_append] at hA); replace HA := Aside0.mk hA; clear hA) | (refine fr_loads rfl rfl rfl HA.out (by first | exact List.mem_cons_self | exact List.mem_cons_of_mem _ List.mem_cons_self | exact List.mem_cons_of_mem _ (List.mem_cons_of_mem _ List.mem_cons_self) | exact List.mem_cons_of_mem _ (List.mem_cons_of_mem _ (List.mem_cons_of_mem _ List.mem_cons_self))) HQ.out ?_))
    have hcall := Empty_calls n w_
    rw [HES.out] at hcall
    refine hcall.mono ?_
    clear hcall
    rintro e w_ ⟨rfl, hb⟩
    replace HA := Aside0.mk (HA.out.step hb)
    clear hb
    go_wp2_with (first | ((with_reducible refine gate_dst (N := 8) rfl ?_); refine fr_alloc rfl rfl HA.out ?_; intro gf w_ hA; (try simp only [List.cons_append, List.nil_append] at hA); replace HA := Aside0.mk hA; clear hA) | (refine fr_guard rfl (by rfl) ?_; dsimp only) | (refine fr_load rfl rfl rfl HA.out (by first | exact List.mem_cons_self | exact List.mem_cons_of_mem _ List.mem_cons_self | exact List.mem_cons_of_mem _ (List.mem_cons_of_mem _ List.mem_cons_self) | exact List.mem_cons_of_mem _ (List.mem_cons_of_mem _ (List.mem_cons_of_mem _ List.mem_cons_self))) ?_) | (refine fr_load0 rfl rfl rfl HA.out (by first | exact List.mem_cons_self | exact List.mem_cons_of_mem _ List.mem_cons_self | exact List.mem_cons_of_mem _ (List.mem_cons_of_mem _ List.mem_cons_self) | exact List.mem_cons_of_mem _ (List.mem_cons_of_mem _ (List.mem_cons_of_mem _ List.mem_cons_self))) ?_) | (refine fr_load1 rfl rfl rfl HA.out (by first | exact List.mem_cons_self | exact List.mem_cons_of_mem _ List.mem_cons_self | exact List.mem_cons_of_mem _ (List.mem_cons_of_mem _ List.mem_cons_self) | exact List.mem_cons_of_mem _ (List.mem_cons_of_mem _ (List.mem_cons_of_mem _ List.mem_cons_self))) ?_) | (refine fr_store rfl rfl rfl rfl (by first | exact HF.out | exact HEF.out | exact HFI.out | exact HRO.out | exact Fr.zero_ok) [] HA.out ?_; intro w_ hA; (try simp only [List.cons_append, List.nil_append] at hA); replace HA := Aside0.mk hA; clear hA) | (refine fr_store rfl rfl rfl rfl (by first | exact HF.out | exact HEF.out | exact HFI.out | exact HRO.out | exact Fr.zero_ok) [_] HA.out ?_; intro w_ hA; (try simp only [List.cons_append, List.nil_append] at hA); replace HA := Aside0.mk hA; clear hA) | (refine fr_store rfl rfl rfl rfl (by first | exact HF.out | exact HEF.out | exact HFI.out | exact HRO.out | exact Fr.zero_ok) [_, _] HA.out ?_; intro w_ hA; (try simp only [List.cons_append, List.nil_append] at hA); replace HA := Aside0.mk hA; clear hA) | (refine fr_store rfl rfl rfl rfl (by first | exact HF.out | exact HEF.out | exact HFI.out | exact HRO.out | exact Fr.zero_ok) [_, _, _] HA.out ?_; intro w_ hA; (try simp only [List.cons_append, List.nil_append] at hA); replace HA := Aside0.mk hA; clear hA) | (refine fr_box rfl rfl rfl (by first | exact HF.out | exact HEF.out | exact HFI.out | exact HRO.out | exact Fr.zero_ok) HA.out ?_; intro gp w_ hA; (try simp only [List.cons_append, List.nil_append] at hA); replace HA := Aside0.mk hA; clear hA) | (refine fr_alloc rfl rfl HA.out ?_; intro gr w_ hA; (try simp only [List.cons_append, List.nil_append] at hA); replace HA := Aside0.mk hA; clear hA) | (refine fr_build0 rfl rfl ?_) | (refine fr_build1 rfl rfl rfl ?_) | (refine fr_build2 rfl rfl rfl rfl ?_) | (refine fr_slot rfl rfl rfl rfl [] HA.out HQ.out ?_; intro w_ hA; (try simp only [List.cons_append, List.nil_append] at hA); replace HA := Aside0.mk hA; clear hA) | (refine fr_slot rfl rfl rfl rfl [_] HA.out HQ.out ?_; intro w_ hA; (try simp only [List.cons_append, List.nil_append] at hA); replace HA := Aside0.mk hA; clear hA) | (refine fr_slot rfl rfl rfl rfl [_, _] HA.out HQ.out ?_; intro w_ hA; (try simp only [List.cons_append, List.nil_append] at hA); replace HA := Aside0.mk hA; clear hA) | (refine fr_high rfl rfl rfl rfl [] HA.out ?_; intro w_ hA; (try simp only [List.cons_append, List.nil_append] at hA); replace HA := Aside0.mk hA; clear hA) | (refine fr_high rfl rfl rfl rfl [_] HA.out ?_; intro w_ hA; (try simp only [List.cons_append, List.nil_append] at hA); replace HA := Aside0.mk hA; clear hA) | (refine fr_high rfl rfl rfl rfl [_, _] HA.out ?_; intro w_ hA; (try simp only [List.cons_append, List.nil_append] at hA); replace HA := Aside0.mk hA; clear hA) | (refine fr_loads rfl rfl rfl HA.out (by first | exact List.mem_cons_self | exact List.mem_cons_of_mem _ List.mem_cons_self | exact List.mem_cons_of_mem _ (List.mem_cons_of_mem _ List.mem_cons_self) | exact List.mem_cons_of_mem _ (List.mem_cons_of_mem _ (List.mem_cons_of_mem _ List.mem_cons_self))) HQ.out ?_))
    go_loopw [33, 10, 11] (fun v33 v10 v11 wr => ∃ (i : Nat) (f : Fr), v33 = .int .i64 (i : Int) ∧ i ≤ l1.length ∧ Aside0 (startFrom (okI l0) (l1.drop i) i f = some r) ∧ Aside0 (Frs w [(gf, f), (gr, Fr.zero)] wr)) (fun v33 _ _ _ => ((l1.length : Int) - intOf v33).toNat)
    case atStart => exact ⟨0, f0, rfl, Nat.zero_le _, H, HA⟩
    case round =>
      obtain ⟨i, f, rfl, hi, H, HA⟩ := hrel
      by_cases c1 : i < l1.length
      · have c1b : decide ((i : Int) < (l1.length : Int)) = true := decide_eq_true (by omega)
        obtain ⟨ad, e1, hx⟩ := Kd.at_int HR1.out (i : Int) (by omega) (by omega)
        cases e1
        replace hx := (HA.out.below.cell (World.block_lt_of_cell? _ _ hx)).trans hx
        simp only [Int.toNat_natCast] at hx
        have hz : rd l1 (i : Int) = l1[i] := by simp [rd, List.getD_eq_getElem?_getD, c1]
        have h1 := H.out
        rw [List.drop_eq_getElem_cons c1, ← hz] at h1
        generalize rd l1 (i : Int) = t at hx h1
        obtain ⟨b, hok, hb⟩ := Option.bind_eq_some_iff.mp h1
        have HOKT := Aside0.mk hok
        have HB := Aside0.mk hb
        have p1 : (0 ≤ (i : Int)) = True := eq_true (by omega)
        have p2 : ((i : Int) < (l1.length : Int)) = True := eq_true (by omega)
        have p3 : ((i : Int) < 24) = True := eq_true (by have := E2.out; omega)
        have HQ : Aside0 (i < 24) := ⟨by have := E2.out; omega⟩
        clear hok hb h1 hz H
        obtain ⟨v, hv, hb0⟩ := Option.bind_eq_some_iff.mp HOKT.out
        have HV := Aside0.mk hv
        have hb1 := Option.some.inj hb0
        clear hv hb0
        go_wp2_with (first | ((with_reducible refine gate_dst (N := 8) rfl ?_); refine fr_alloc rfl rfl HA.out ?_; intro gf w_ hA; (try simp only [List.cons_append, List.nil_append] at hA); replace HA := Aside0.mk hA; clear hA) | (refine fr_guard rfl (by rfl) ?_; dsimp only) | (refine fr_load rfl rfl rfl HA.out (by first | exact List.mem_cons_self | exact List.mem_cons_of_mem _ List.mem_cons_self | exact List.mem_cons_of_mem _ (List.mem_cons_of_mem _ List.mem_cons_self) | exact List.mem_cons_of_mem _ (List.mem_cons_of_mem _ (List.mem_cons_of_mem _ List.mem_cons_self))) ?_) | (refine fr_load0 rfl rfl rfl HA.out (by first | exact List.mem_cons_self | exact List.mem_cons_of_mem _ List.mem_cons_self | exact List.mem_cons_of_mem _ (List.mem_cons_of_mem _ List.mem_cons_self) | exact List.mem_cons_of_mem _ (List.mem_cons_of_mem _ (List.mem_cons_of_mem _ List.mem_cons_self))) ?_) | (refine fr_load1 rfl rfl rfl HA.out (by first | exact List.mem_cons_self | exact List.mem_cons_of_mem _ List.mem_cons_self | exact List.mem_cons_of_mem _ (List.mem_cons_of_mem _ List.mem_cons_self) | exact List.mem_cons_of_mem _ (List.mem_cons_of_mem _ (List.mem_cons_of_mem _ List.mem_cons_self))) ?_) | (refine fr_store rfl rfl rfl rfl (by first | exact HF.out | exact HEF.out | exact HFI.out | exact HRO.out | exact Fr.zero_ok) [] HA.out ?_; intro w_ hA; (try simp only [List.cons_append, List.nil_append] at hA); replace HA := Aside0.mk hA; clear hA) | (refine fr_store rfl rfl rfl rfl (by first | exact HF.out | exact HEF.out | exact HFI.out | exact HRO.out | exact Fr.zero_ok) [_] HA.out ?_; intro w_ hA; (try simp only [List.cons_append, List.nil_append] at hA); replace HA := Aside0.mk hA; clear hA) | (refine fr_store rfl rfl rfl rfl (by first | exact HF.out | exact HEF.out | exact HFI.out | exact HRO.out | exact Fr.zero_ok) [_, _] HA.out ?_; intro w_ hA; (try simp only [List.cons_append, List.nil_append] at hA); replace HA := Aside0.mk hA; clear hA) | (refine fr_store rfl rfl rfl rfl (by first | exact HF.out | exact HEF.out | exact HFI.out | exact HRO.out | exact Fr.zero_ok) [_, _, _] HA.out ?_; intro w_ hA; (try simp only [List.cons_append, List.nil_append] at hA); replace HA := Aside0.mk hA; clear hA) | (refine fr_box rfl rfl rfl (by first | exact HF.out | exact HEF.out | exact HFI.out | exact HRO.out | exact Fr.zero_ok) HA.out ?_; intro gp w_ hA; (try simp only [List.cons_append, List.nil_append] at hA); replace HA := Aside0.mk hA; clear hA) | (refine fr_alloc rfl rfl HA.out ?_; intro gr w_ hA; (try simp only [List.cons_append, List.nil_append] at hA); replace HA := Aside0.mk hA; clear hA) | (refine fr_build0 rfl rfl ?_) | (refine fr_build1 rfl rfl rfl ?_) | (refine fr_build2 rfl rfl rfl rfl ?_) | (refine fr_slot rfl rfl rfl rfl [] HA.out HQ.out ?_; intro w_ hA; (try simp only [List.cons_append, List.nil_append] at hA); replace HA := Aside0.mk hA; clear hA) | (refine fr_slot rfl rfl rfl rfl [_] HA.out HQ.out ?_; intro w_ hA; (try simp only [List.cons_append, List.nil_append] at hA); replace HA := Aside0.mk hA; clear hA) | (refine fr_slot rfl rfl rfl rfl [_, _] HA.out HQ.out ?_; intro w_ hA; (try simp only [List.cons_append, List.nil_append] at hA); replace HA := Aside0.mk hA; clear hA) | (refine fr_high rfl rfl rfl rfl [] HA.out ?_; intro w_ hA; (try simp only [List.cons_append, List.nil_append] at hA); replace HA := Aside0.mk hA; clear hA) | (refine fr_high rfl rfl rfl rfl [_] HA.out ?_; intro w_ hA; (try simp only [List.cons_append, List.nil_append] at hA); replace HA := Aside0.mk hA; clear hA) | (refine fr_high rfl rfl rfl rfl [_, _] HA.out ?_; intro w_ hA; (try simp only [List.cons_append, List.nil_append] at hA); replace HA := Aside0.mk hA; clear hA) | (refine fr_loads rfl rfl rfl HA.out (by first | exact List.mem_cons_self | exact List.mem_cons_of_mem _ List.mem_cons_self | exact List.mem_cons_of_mem _ (List.mem_cons_of_mem _ List.mem_cons_self) | exact List.mem_cons_of_mem _ (List.mem_cons_of_mem _ (List.mem_cons_of_mem _ List.mem_cons_self))) HQ.out ?_))
        refine (types_Valid.calls A0 c0 l0 t v _ (Kd.C_below HR0.out HA.out.below) HC0.out HV.out).mono ?_
        rintro e w_ ⟨rfl, m, rfl⟩
        replace HA := Aside0.mk (HA.out.drewN m)
        generalize World.drewN _ m = w_ at HA ⊢
        cases v with
        | false =>
          have HRR : Aside0 ((Fr.zero, 1) = r) := ⟨by have := HB.out; rw [← hb1] at this; simpa using this⟩
          clear hb1
          go_wp2_with (first | ((with_reducible refine gate_dst (N := 8) rfl ?_); refine fr_alloc rfl rfl HA.out ?_; intro gf w_ hA; (try simp only [List.cons_append, List.nil_append] at hA); replace HA := Aside0.mk hA; clear hA) | (refine fr_guard rfl (by rfl) ?_; dsimp only) | (refine fr_load rfl rfl rfl HA.out (by first | exact List.mem_cons_self | exact List.mem_cons_of_mem _ List.mem_cons_self | exact List.mem_cons_of_mem _ (List.mem_cons_of_mem _ List.mem_cons_self) | exact List.mem_cons_of_mem _ (List.mem_cons_of_mem _ (List.mem_cons_of_mem _ List.mem_cons_self))) ?_) | (refine fr_load0 rfl rfl rfl HA.out (by first | exact List.mem_cons_self | exact List.mem_cons_of_mem _ List.mem_cons_self | exact List.mem_cons_of_mem _ (List.mem_cons_of_mem _ List.mem_cons_self) | exact List.mem_cons_of_mem _ (List.mem_cons_of_mem _ (List.mem_cons_of_mem _ List.mem_cons_self))) ?_) | (refine fr_load1 rfl rfl rfl HA.out (by first | exact List.mem_cons_self | exact List.mem_cons_of_mem _ List.mem_cons_self | exact List.mem_cons_of_mem _ (List.mem_cons_of_mem _ List.mem_cons_self) | exact List.mem_cons_of_mem _ (List.mem_cons_of_mem _ (List.mem_cons_of_mem _ List.mem_cons_self))) ?_) | (refine fr_store rfl rfl rfl rfl (by first | exact HF.out | exact HEF.out | exact HFI.out | exact HRO.out | exact Fr.zero_ok) [] HA.out ?_; intro w_ hA; (try simp only [List.cons_append, List.nil_append] at hA); replace HA := Aside0.mk hA; clear hA) | (refine fr_store rfl rfl rfl rfl (by first | exact HF.out | exact HEF.out | exact HFI.out | exact HRO.out | exact Fr.zero_ok) [_] HA.out ?_; intro w_ hA; (try simp only [List.cons_append, List.nil_append] at hA); replace HA := Aside0.mk hA; clear hA) | (refine fr_store rfl rfl rfl rfl (by first | exact HF.out | exact HEF.out | exact HFI.out | exact HRO.out | exact Fr.zero_ok) [_, _] HA.out ?_; intro w_ hA; (try simp only [List.cons_append, List.nil_append] at hA); replace HA := Aside0.mk hA; clear hA) | (refine fr_store rfl rfl rfl rfl (by first | exact HF.out | exact HEF.out | exact HFI.out | exact HRO.out | exact Fr.zero_ok) [_, _, _] HA.out ?_; intro w_ hA; (try simp only [List.cons_append, List.nil_append] at hA); replace HA := Aside0.mk hA; clear hA) | (refine fr_box rfl rfl rfl (by first | exact HF.out | exact HEF.out | exact HFI.out | exact HRO.out | exact Fr.zero_ok) HA.out ?_; intro gp w_ hA; (try simp only [List.cons_append, List.nil_append] at hA); replace HA := Aside0.mk hA; clear hA) | (refine fr_alloc rfl rfl HA.out ?_; intro gr w_ hA; (try simp only [List.cons_append, List.nil_append] at hA); replace HA := Aside0.mk hA; clear hA) | (refine fr_build0 rfl rfl ?_) | (refine fr_build1 rfl rfl rfl ?_) | (refine fr_build2 rfl rfl rfl rfl ?_) | (refine fr_slot rfl rfl rfl rfl [] HA.out HQ.out ?_; intro w_ hA; (try simp only [List.cons_append, List.nil_append] at hA); replace HA := Aside0.mk hA; clear hA) | (refine fr_slot rfl rfl rfl rfl [_] HA.out HQ.out ?_; intro w_ hA; (try simp only [List.cons_append, List.nil_append] at hA); replace HA := Aside0.mk hA; clear hA) | (refine fr_slot rfl rfl rfl rfl [_, _] HA.out HQ.out ?_; intro w_ hA; (try simp only [List.cons_append, List.nil_append] at hA); replace HA := Aside0.mk hA; clear hA) | (refine fr_high rfl rfl rfl rfl [] HA.out ?_; intro w_ hA; (try simp only [List.cons_append, List.nil_append] at hA); replace HA := Aside0.mk hA; clear hA) | (refine fr_high rfl rfl rfl rfl [_] HA.out ?_; intro w_ hA; (try simp only [List.cons_append, List.nil_append] at hA); replace HA := Aside0.mk hA; clear hA) | (refine fr_high rfl rfl rfl rfl [_, _] HA.out ?_; intro w_ hA; (try simp only [List.cons_append, List.nil_append] at hA); replace HA := Aside0.mk hA; clear hA) | (refine fr_loads rfl rfl rfl HA.out (by first | exact List.mem_cons_self | exact List.mem_cons_of_mem _ List.mem_cons_self | exact List.mem_cons_of_mem _ (List.mem_cons_of_mem _ List.mem_cons_self) | exact List.mem_cons_of_mem _ (List.mem_cons_of_mem _ (List.mem_cons_of_mem _ List.mem_cons_self))) HQ.out ?_))
          refine bodyPost_ret (fr_ret2 rfl _ HA.out (by first | exact List.mem_cons_self | exact List.mem_cons_of_mem _ List.mem_cons_self | exact List.mem_cons_of_mem _ (List.mem_cons_of_mem _ List.mem_cons_self) | exact List.mem_cons_of_mem _ (List.mem_cons_of_mem _ (List.mem_cons_of_mem _ List.mem_cons_self))) rfl) rfl ⟨?_, HA.out.below⟩
          rw [← HRR.out]
          rfl
        | true =>
          by_cases t0 : t = 0
          · have HRR : Aside0 ((Fr.zero, 1) = r) := ⟨by have := HB.out; rw [← hb1, t0] at this; simpa using this⟩
            have t0b : (t == 0) = true := by rw [beq_iff_eq]; exact t0
            clear hb1 t0
            go_wp2_with (first | ((with_reducible refine gate_dst (N := 8) rfl ?_); refine fr_alloc rfl rfl HA.out ?_; intro gf w_ hA; (try simp only [List.cons_append, List.nil_append] at hA); replace HA := Aside0.mk hA; clear hA) | (refine fr_guard rfl (by rfl) ?_; dsimp only) | (refine fr_load rfl rfl rfl HA.out (by first | exact List.mem_cons_self | exact List.mem_cons_of_mem _ List.mem_cons_self | exact List.mem_cons_of_mem _ (List.mem_cons_of_mem _ List.mem_cons_self) | exact List.mem_cons_of_mem _ (List.mem_cons_of_mem _ (List.mem_cons_of_mem _ List.mem_cons_self))) ?_) | (refine fr_load0 rfl rfl rfl HA.out (by first | exact List.mem_cons_self | exact List.mem_cons_of_mem _ List.mem_cons_self | exact List.mem_cons_of_mem _ (List.mem_cons_of_mem _ List.mem_cons_self) | exact List.mem_cons_of_mem _ (List.mem_cons_of_mem _ (List.mem_cons_of_mem _ List.mem_cons_self))) ?_) | (refine fr_load1 rfl rfl rfl HA.out (by first | exact List.mem_cons_self | exact List.mem_cons_of_mem _ List.mem_cons_self | exact List.mem_cons_of_mem _ (List.mem_cons_of_mem _ List.mem_cons_self) | exact List.mem_cons_of_mem _ (List.mem_cons_of_mem _ (List.mem_cons_of_mem _ List.mem_cons_self))) ?_) | (refine fr_store rfl rfl rfl rfl (by first | exact HF.out | exact HEF.out | exact HFI.out | exact HRO.out | exact Fr.zero_ok) [] HA.out ?_; intro w_ hA; (try simp only [List.cons_append, List.nil_append] at hA); replace HA := Aside0.mk hA; clear hA) | (refine fr_store rfl rfl rfl rfl (by first | exact HF.out | exact HEF.out | exact HFI.out | exact HRO.out | exact Fr.zero_ok) [_] HA.out ?_; intro w_ hA; (try simp only [List.cons_append, List.nil_append] at hA); replace HA := Aside0.mk hA; clear hA) | (refine fr_store rfl rfl rfl rfl (by first | exact HF.out | exact HEF.out | exact HFI.out | exact HRO.out | exact Fr.zero_ok) [_, _] HA.out ?_; intro w_ hA; (try simp only [List.cons_append, List.nil_append] at hA); replace HA := Aside0.mk hA; clear hA) | (refine fr_store rfl rfl rfl rfl (by first | exact HF.out | exact HEF.out | exact HFI.out | exact HRO.out | exact Fr.zero_ok) [_, _, _] HA.out ?_; intro w_ hA; (try simp only [List.cons_append, List.nil_append] at hA); replace HA := Aside0.mk hA; clear hA) | (refine fr_box rfl rfl rfl (by first | exact HF.out | exact HEF.out | exact HFI.out | exact HRO.out | exact Fr.zero_ok) HA.out ?_; intro gp w_ hA; (try simp only [List.cons_append, List.nil_append] at hA); replace HA := Aside0.mk hA; clear hA) | (refine fr_alloc rfl rfl HA.out ?_; intro gr w_ hA; (try simp only [List.cons_append, List.nil_append] at hA); replace HA := Aside0.mk hA; clear hA) | (refine fr_build0 rfl rfl ?_) | (refine fr_build1 rfl rfl rfl ?_) | (refine fr_build2 rfl rfl rfl rfl ?_) | (refine fr_slot rfl rfl rfl rfl [] HA.out HQ.out ?_; intro w_ hA; (try simp only [List.cons_append, List.nil_append] at hA); replace HA := Aside0.mk hA; clear hA) | (refine fr_slot rfl rfl rfl rfl [_] HA.out HQ.out ?_; intro w_ hA; (try simp only [List.cons_append, List.nil_append] at hA); replace HA := Aside0.mk hA; clear hA) | (refine fr_slot rfl rfl rfl rfl [_, _] HA.out HQ.out ?_; intro w_ hA; (try simp only [List.cons_append, List.nil_append] at hA); replace HA := Aside0.mk hA; clear hA) | (refine fr_high rfl rfl rfl rfl [] HA.out ?_; intro w_ hA; (try simp only [List.cons_append, List.nil_append] at hA); replace HA := Aside0.mk hA; clear hA) | (refine fr_high rfl rfl rfl rfl [_] HA.out ?_; intro w_ hA; (try simp only [List.cons_append, List.nil_append] at hA); replace HA := Aside0.mk hA; clear hA) | (refine fr_high rfl rfl rfl rfl [_, _] HA.out ?_; intro w_ hA; (try simp only [List.cons_append, List.nil_append] at hA); replace HA := Aside0.mk hA; clear hA) | (refine fr_loads rfl rfl rfl HA.out (by first | exact List.mem_cons_self | exact List.mem_cons_of_mem _ List.mem_cons_self | exact List.mem_cons_of_mem _ (List.mem_cons_of_mem _ List.mem_cons_self) | exact List.mem_cons_of_mem _ (List.mem_cons_of_mem _ (List.mem_cons_of_mem _ List.mem_cons_self))) HQ.out ?_))
            refine bodyPost_ret (fr_ret2 rfl _ HA.out (by first | exact List.mem_cons_self | exact List.mem_cons_of_mem _ List.mem_cons_self | exact List.mem_cons_of_mem _ (List.mem_cons_of_mem _ List.mem_cons_self) | exact List.mem_cons_of_mem _ (List.mem_cons_of_mem _ (List.mem_cons_of_mem _ List.mem_cons_self))) rfl) rfl ⟨?_, HA.out.below⟩
            rw [← HRR.out]
            rfl
          · by_cases t3 : t = 3
            · have HRR : Aside0 ((Fr.zero, 1) = r) := ⟨by have := HB.out; rw [← hb1, t3] at this; simpa using this⟩
              have t0b : (t == 0) = false := by rw [beq_eq_false_iff_ne]; exact t0
              have t3b : (t == 3) = true := by rw [beq_iff_eq]; exact t3
              clear hb1 t0 t3
              go_wp2_with (first | ((with_reducible refine gate_dst (N := 8) rfl ?_); refine fr_alloc rfl rfl HA.out ?_; intro gf w_ hA; (try simp only [List.cons_append, List.nil_append] at hA); replace HA := Aside0.mk hA; clear hA) | (refine fr_guard rfl (by rfl) ?_; dsimp only) | (refine fr_load rfl rfl rfl HA.out (by first | exact List.mem_cons_self | exact List.mem_cons_of_mem _ List.mem_cons_self | exact List.mem_cons_of_mem _ (List.mem_cons_of_mem _ List.mem_cons_self) | exact List.mem_cons_of_mem _ (List.mem_cons_of_mem _ (List.mem_cons_of_mem _ List.mem_cons_self))) ?_) | (refine fr_load0 rfl rfl rfl HA.out (by first | exact List.mem_cons_self | exact List.mem_cons_of_mem _ List.mem_cons_self | exact List.mem_cons_of_mem _ (List.mem_cons_of_mem _ List.mem_cons_self) | exact List.mem_cons_of_mem _ (List.mem_cons_of_mem _ (List.mem_cons_of_mem _ List.mem_cons_self))) ?_) | (refine fr_load1 rfl rfl rfl HA.out (by first | exact List.mem_cons_self | exact List.mem_cons_of_mem _ List.mem_cons_self | exact List.mem_cons_of_mem _ (List.mem_cons_of_mem _ List.mem_cons_self) | exact List.mem_cons_of_mem _ (List.mem_cons_of_mem _ (List.mem_cons_of_mem _ List.mem_cons_self))) ?_) | (refine fr_store rfl rfl rfl rfl (by first | exact HF.out | exact HEF.out | exact HFI.out | exact HRO.out | exact Fr.zero_ok) [] HA.out ?_; intro w_ hA; (try simp only [List.cons_append, List.nil_append] at hA); replace HA := Aside0.mk hA; clear hA) | (refine fr_store rfl rfl rfl rfl (by first | exact HF.out | exact HEF.out | exact HFI.out | exact HRO.out | exact Fr.zero_ok) [_] HA.out ?_; intro w_ hA; (try simp only [List.cons_append, List.nil_append] at hA); replace HA := Aside0.mk hA; clear hA) | (refine fr_store rfl rfl rfl rfl (by first | exact HF.out | exact HEF.out | exact HFI.out | exact HRO.out | exact Fr.zero_ok) [_, _] HA.out ?_; intro w_ hA; (try simp only [List.cons_append, List.nil_append] at hA); replace HA := Aside0.mk hA; clear hA) | (refine fr_store rfl rfl rfl rfl (by first | exact HF.out | exact HEF.out | exact HFI.out | exact HRO.out | exact Fr.zero_ok) [_, _, _] HA.out ?_; intro w_ hA; (try simp only [List.cons_append, List.nil_append] at hA); replace HA := Aside0.mk hA; clear hA) | (refine fr_box rfl rfl rfl (by first | exact HF.out | exact HEF.out | exact HFI.out | exact HRO.out | exact Fr.zero_ok) HA.out ?_; intro gp w_ hA; (try simp only [List.cons_append, List.nil_append] at hA); replace HA := Aside0.mk hA; clear hA) | (refine fr_alloc rfl rfl HA.out ?_; intro gr w_ hA; (try simp only [List.cons_append, List.nil_append] at hA); replace HA := Aside0.mk hA; clear hA) | (refine fr_build0 rfl rfl ?_) | (refine fr_build1 rfl rfl rfl ?_) | (refine fr_build2 rfl rfl rfl rfl ?_) | (refine fr_slot rfl rfl rfl rfl [] HA.out HQ.out ?_; intro w_ hA; (try simp only [List.cons_append, List.nil_append] at hA); replace HA := Aside0.mk hA; clear hA) | (refine fr_slot rfl rfl rfl rfl [_] HA.out HQ.out ?_; intro w_ hA; (try simp only [List.cons_append, List.nil_append] at hA); replace HA := Aside0.mk hA; clear hA) | (refine fr_slot rfl rfl rfl rfl [_, _] HA.out HQ.out ?_; intro w_ hA; (try simp only [List.cons_append, List.nil_append] at hA); replace HA := Aside0.mk hA; clear hA) | (refine fr_high rfl rfl rfl rfl [] HA.out ?_; intro w_ hA; (try simp only [List.cons_append, List.nil_append] at hA); replace HA := Aside0.mk hA; clear hA) | (refine fr_high rfl rfl rfl rfl [_] HA.out ?_; intro w_ hA; (try simp only [List.cons_append, List.nil_append] at hA); replace HA := Aside0.mk hA; clear hA) | (refine fr_high rfl rfl rfl rfl [_, _] HA.out ?_; intro w_ hA; (try simp only [List.cons_append, List.nil_append] at hA); replace HA := Aside0.mk hA; clear hA) | (refine fr_loads rfl rfl rfl HA.out (by first | exact List.mem_cons_self | exact List.mem_cons_of_mem _ List.mem_cons_self | exact List.mem_cons_of_mem _ (List.mem_cons_of_mem _ List.mem_cons_self) | exact List.mem_cons_of_mem _ (List.mem_cons_of_mem _ (List.mem_cons_of_mem _ List.mem_cons_self))) HQ.out ?_))
              refine bodyPost_ret (fr_ret2 rfl _ HA.out (by first | exact List.mem_cons_self | exact List.mem_cons_of_mem _ List.mem_cons_self | exact List.mem_cons_of_mem _ (List.mem_cons_of_mem _ List.mem_cons_self) | exact List.mem_cons_of_mem _ (List.mem_cons_of_mem _ (List.mem_cons_of_mem _ List.mem_cons_self))) rfl) rfl ⟨?_, HA.out.below⟩
              rw [← HRR.out]
              rfl
            · have HB2 : Aside0 (startFrom (okI l0) (l1.drop (i + 1)) (i + 1) ⟨f.loc, f.hgt, f.sl.set i t⟩ = some r) := ⟨by have := HB.out; rw [← hb1] at this; simpa [t0, t3] using this⟩
              have t0b : (t == 0) = false := by rw [beq_eq_false_iff_ne]; exact t0
              have t3b : (t == 3) = false := by rw [beq_eq_false_iff_ne]; exact t3
              clear hb1 t0 t3
              go_wp2_with (first | ((with_reducible refine gate_dst (N := 8) rfl ?_); refine fr_alloc rfl rfl HA.out ?_; intro gf w_ hA; (try simp only [List.cons_append, List.nil_append] at hA); replace HA := Aside0.mk hA; clear hA) | (refine fr_guard rfl (by rfl) ?_; dsimp only) | (refine fr_load rfl rfl rfl HA.out (by first | exact List.mem_cons_self | exact List.mem_cons_of_mem _ List.mem_cons_self | exact List.mem_cons_of_mem _ (List.mem_cons_of_mem _ List.mem_cons_self) | exact List.mem_cons_of_mem _ (List.mem_cons_of_mem _ (List.mem_cons_of_mem _ List.mem_cons_self))) ?_) | (refine fr_load0 rfl rfl rfl HA.out (by first | exact List.mem_cons_self | exact List.mem_cons_of_mem _ List.mem_cons_self | exact List.mem_cons_of_mem _ (List.mem_cons_of_mem _ List.mem_cons_self) | exact List.mem_cons_of_mem _ (List.mem_cons_of_mem _ (List.mem_cons_of_mem _ List.mem_cons_self))) ?_) | (refine fr_load1 rfl rfl rfl HA.out (by first | exact List.mem_cons_self | exact List.mem_cons_of_mem _ List.mem_cons_self | exact List.mem_cons_of_mem _ (List.mem_cons_of_mem _ List.mem_cons_self) | exact List.mem_cons_of_mem _ (List.mem_cons_of_mem _ (List.mem_cons_of_mem _ List.mem_cons_self))) ?_) | (refine fr_store rfl rfl rfl rfl (by first | exact HF.out | exact HEF.out | exact HFI.out | exact HRO.out | exact Fr.zero_ok) [] HA.out ?_; intro w_ hA; (try simp only [List.cons_append, List.nil_append] at hA); replace HA := Aside0.mk hA; clear hA) | (refine fr_store rfl rfl rfl rfl (by first | exact HF.out | exact HEF.out | exact HFI.out | exact HRO.out | exact Fr.zero_ok) [_] HA.out ?_; intro w_ hA; (try simp only [List.cons_append, List.nil_append] at hA); replace HA := Aside0.mk hA; clear hA) | (refine fr_store rfl rfl rfl rfl (by first | exact HF.out | exact HEF.out | exact HFI.out | exact HRO.out | exact Fr.zero_ok) [_, _] HA.out ?_; intro w_ hA; (try simp only [List.cons_append, List.nil_append] at hA); replace HA := Aside0.mk hA; clear hA) | (refine fr_store rfl rfl rfl rfl (by first | exact HF.out | exact HEF.out | exact HFI.out | exact HRO.out | exact Fr.zero_ok) [_, _, _] HA.out ?_; intro w_ hA; (try simp only [List.cons_append, List.nil_append] at hA); replace HA := Aside0.mk hA; clear hA) | (refine fr_box rfl rfl rfl (by first | exact HF.out | exact HEF.out | exact HFI.out | exact HRO.out | exact Fr.zero_ok) HA.out ?_; intro gp w_ hA; (try simp only [List.cons_append, List.nil_append] at hA); replace HA := Aside0.mk hA; clear hA) | (refine fr_alloc rfl rfl HA.out ?_; intro gr w_ hA; (try simp only [List.cons_append, List.nil_append] at hA); replace HA := Aside0.mk hA; clear hA) | (refine fr_build0 rfl rfl ?_) | (refine fr_build1 rfl rfl rfl ?_) | (refine fr_build2 rfl rfl rfl rfl ?_) | (refine fr_slot rfl rfl rfl rfl [] HA.out HQ.out ?_; intro w_ hA; (try simp only [List.cons_append, List.nil_append] at hA); replace HA := Aside0.mk hA; clear hA) | (refine fr_slot rfl rfl rfl rfl [_] HA.out HQ.out ?_; intro w_ hA; (try simp only [List.cons_append, List.nil_append] at hA); replace HA := Aside0.mk hA; clear hA) | (refine fr_slot rfl rfl rfl rfl [_, _] HA.out HQ.out ?_; intro w_ hA; (try simp only [List.cons_append, List.nil_append] at hA); replace HA := Aside0.mk hA; clear hA) | (refine fr_high rfl rfl rfl rfl [] HA.out ?_; intro w_ hA; (try simp only [List.cons_append, List.nil_append] at hA); replace HA := Aside0.mk hA; clear hA) | (refine fr_high rfl rfl rfl rfl [_] HA.out ?_; intro w_ hA; (try simp only [List.cons_append, List.nil_append] at hA); replace HA := Aside0.mk hA; clear hA) | (refine fr_high rfl rfl rfl rfl [_, _] HA.out ?_; intro w_ hA; (try simp only [List.cons_append, List.nil_append] at hA); replace HA := Aside0.mk hA; clear hA) | (refine fr_loads rfl rfl rfl HA.out (by first | exact List.mem_cons_self | exact List.mem_cons_of_mem _ List.mem_cons_self | exact List.mem_cons_of_mem _ (List.mem_cons_of_mem _ List.mem_cons_self) | exact List.mem_cons_of_mem _ (List.mem_cons_of_mem _ (List.mem_cons_of_mem _ List.mem_cons_self))) HQ.out ?_))
              exact ⟨⟨i + 1, _, rfl, by omega, HB2, HA⟩, by simp [intOf]; omega⟩

      · have c1b : decide ((i : Int) < (l1.length : Int)) = false := decide_eq_false (by omega)
        have h1 := H.out
        rw [List.drop_of_length_le (by omega)] at h1
        obtain rfl := Option.some.inj h1
        have HFI := Aside0.mk (HA.out.mem (g := gf) (x := f) List.mem_cons_self).2
        clear h1 H
        go_wp2_with (first | ((with_reducible refine gate_dst (N := 8) rfl ?_); refine fr_alloc rfl rfl HA.out ?_; intro gf w_ hA; (try simp only [List.cons_append, List.nil_append] at hA); replace HA := Aside0.mk hA; clear hA) | (refine fr_guard rfl (by rfl) ?_; dsimp only) | (refine fr_load rfl rfl rfl HA.out (by first | exact List.mem_cons_self | exact List.mem_cons_of_mem _ List.mem_cons_self | exact List.mem_cons_of_mem _ (List.mem_cons_of_mem _ List.mem_cons_self) | exact List.mem_cons_of_mem _ (List.mem_cons_of_mem _ (List.mem_cons_of_mem _ List.mem_cons_self))) ?_) | (refine fr_load0 rfl rfl rfl HA.out (by first | exact List.mem_cons_self | exact List.mem_cons_of_mem _ List.mem_cons_self | exact List.mem_cons_of_mem _ (List.mem_cons_of_mem _ List.mem_cons_self) | exact List.mem_cons_of_mem _ (List.mem_cons_of_mem _ (List.mem_cons_of_mem _ List.mem_cons_self))) ?_) | (refine fr_load1 rfl rfl rfl HA.out (by first | exact List.mem_cons_self | exact List.mem_cons_of_mem _ List.mem_cons_self | exact List.mem_cons_of_mem _ (List.mem_cons_of_mem _ List.mem_cons_self) | exact List.mem_cons_of_mem _ (List.mem_cons_of_mem _ (List.mem_cons_of_mem _ List.mem_cons_self))) ?_) | (refine fr_store rfl rfl rfl rfl (by first | exact HF.out | exact HEF.out | exact HFI.out | exact HRO.out | exact Fr.zero_ok) [] HA.out ?_; intro w_ hA; (try simp only [List.cons_append, List.nil_append] at hA); replace HA := Aside0.mk hA; clear hA) | (refine fr_store rfl rfl rfl rfl (by first | exact HF.out | exact HEF.out | exact HFI.out | exact HRO.out | exact Fr.zero_ok) [_] HA.out ?_; intro w_ hA; (try simp only [List.cons_append, List.nil_append] at hA); replace HA := Aside0.mk hA; clear hA) | (refine fr_store rfl rfl rfl rfl (by first | exact HF.out | exact HEF.out | exact HFI.out | exact HRO.out | exact Fr.zero_ok) [_, _] HA.out ?_; intro w_ hA; (try simp only [List.cons_append, List.nil_append] at hA); replace HA := Aside0.mk hA; clear hA) | (refine fr_store rfl rfl rfl rfl (by first | exact HF.out | exact HEF.out | exact HFI.out | exact HRO.out | exact Fr.zero_ok) [_, _, _] HA.out ?_; intro w_ hA; (try simp only [List.cons_append, List.nil_append] at hA); replace HA := Aside0.mk hA; clear hA) | (refine fr_box rfl rfl rfl (by first | exact HF.out | exact HEF.out | exact HFI.out | exact HRO.out | exact Fr.zero_ok) HA.out ?_; intro gp w_ hA; (try simp only [List.cons_append, List.nil_append] at hA); replace HA := Aside0.mk hA; clear hA) | (refine fr_alloc rfl rfl HA.out ?_; intro gr w_ hA; (try simp only [List.cons_append, List.nil_append] at hA); replace HA := Aside0.mk hA; clear hA) | (refine fr_build0 rfl rfl ?_) | (refine fr_build1 rfl rfl rfl ?_) | (refine fr_build2 rfl rfl rfl rfl ?_) | (refine fr_slot rfl rfl rfl rfl [] HA.out HQ.out ?_; intro w_ hA; (try simp only [List.cons_append, List.nil_append] at hA); replace HA := Aside0.mk hA; clear hA) | (refine fr_slot rfl rfl rfl rfl [_] HA.out HQ.out ?_; intro w_ hA; (try simp only [List.cons_append, List.nil_append] at hA); replace HA := Aside0.mk hA; clear hA) | (refine fr_slot rfl rfl rfl rfl [_, _] HA.out HQ.out ?_; intro w_ hA; (try simp only [List.cons_append, List.nil_append] at hA); replace HA := Aside0.mk hA; clear hA) | (refine fr_high rfl rfl rfl rfl [] HA.out ?_; intro w_ hA; (try simp only [List.cons_append, List.nil_append] at hA); replace HA := Aside0.mk hA; clear hA) | (refine fr_high rfl rfl rfl rfl [_] HA.out ?_; intro w_ hA; (try simp only [List.cons_append, List.nil_append] at hA); replace HA := Aside0.mk hA; clear hA) | (refine fr_high rfl rfl rfl rfl [_, _] HA.out ?_; intro w_ hA; (try simp only [List.cons_append, List.nil_append] at hA); replace HA := Aside0.mk hA; clear hA) | (refine fr_loads rfl rfl rfl HA.out (by first | exact List.mem_cons_self | exact List.mem_cons_of_mem _ List.mem_cons_self | exact List.mem_cons_of_mem _ (List.mem_cons_of_mem _ List.mem_cons_self) | exact List.mem_cons_of_mem _ (List.mem_cons_of_mem _ (List.mem_cons_of_mem _ List.mem_cons_self))) HQ.out ?_))
        refine bodyPost_ret (fr_ret2 rfl _ HA.out (by first | exact List.mem_cons_self | exact List.mem_cons_of_mem _ List.mem_cons_self | exact List.mem_cons_of_mem _ (List.mem_cons_of_mem _ List.mem_cons_self) | exact List.mem_cons_of_mem _ (List.mem_cons_of_mem _ (List.mem_cons_of_mem _ List.mem_cons_self))) rfl) rfl ⟨?_, HA.out.below⟩
        rfl

end Go.Proofs.Ytgjnmpgmbhbbhaa.P
end

