/- Proved: the law FlowScans holds for every input that the row lets in. No condition of ours. -/
import Derived.Test.YtcffniaieegbgaaBFlowScansc
import Derived.Test.YtcffniaieegbgaaRows
import Derived.ShutString
import Derived.ChangeOld
import Derived.Lib.SmallJoins
section
namespace Go.Proofs.Ytcffniaieegbgaa.P
open Go.RowKit Go.Proofs.YtcffniaieegbgaaW.PrintWords Go.Proofs.YtcffniaieegbgaaW.PrintLast Go.Proofs.YtcffniaieegbgaaW.PrintMore
attribute [local go_sem] max2_int min2_int max_two min_two max_three min_three max_four min_four   -- for this text's walks alone
set_option linter.unusedVariables false
set_option linter.unusedSimpArgs false

set_option maxHeartbeats 8000000 in
set_option maxRecDepth 100000 in
theorem provisoref05_Scan.calls (k : Nat) (A0 : Option Addr) (c0 : Nat) (l0 : List Int) (r1 : List (S46)) (r2 : Int) (r3 : Int) (w : World) (hr0 : Kd.C (Kd.int .u8) w A0 l0.length l0) (hc0 : l0.length ≤ c0) (h : provisoref05_Scan.f k l0 = some (r1, r2, r3)) :
    Calls Try.prog 13 #[.slice A0 l0.length c0] w fun e w' => ∃ v0_ : Value, e = .returned (.tuple #[v0_, .int .i64 r2, .int .i64 r3]) ∧ Kd.R k46 46 w' w.heap.size (fun _ => True) v0_ r1 ∧ Below w.heap.size w w' := by
  have hu46 := Try.underlying46
  have HR0 := Aside0.mk hr0
  have HC0 := Aside0.mk hc0
  clear hr0 hc0
  have HB := Aside0.mk (Below.refl w.heap.size w)
  have H : (if (l0.length : Int) > 4096 then (some (([] : List (S46)), 0, 4)) else (provisoref05_Scan.l0 k l0 ([] : List (S46)) 0)) = some (r1, r2, r3) := h
  clear h
  by_cases c2 : (l0.length : Int) > 4096
  · rw [if_pos c2] at H
    have c2b0 : decide (4096 < (l0.length : Int)) = true := decide_eq_true c2
    have c2b1 : decide (4096 < l0.length) = true := decide_eq_true (by omega)
    clear c2
    simp only [Option.some.injEq, Prod.mk.injEq] at H
    obtain ⟨rfl, rfl, rfl⟩ := H
    go_enter Try.func13, Try.ntmps13
    go_wp2
    go_ret3
    exact ⟨_, by first | rfl | (simp [errW_none, errW_some] <;> rfl) | (simp [*, errW_none, errW_some] <;> rfl), by first | exact Kd.R_nil _ _ _ _ _ | exact Kd.N_nil _ _ _ _ _ | exact Kd.V_nil _ _ _ _ _ | exact Kd.Q_nil _ _ _ _ _ | exact Kd.S_nil _ _ _ _ _, by repeat (first | (with_reducible first | exact HB.out | apply below_alloc | apply pw_below_drewN | apply below_drew1) | exact HB.out)⟩
  · rw [if_neg c2] at H
    have c2b0 : decide (4096 < (l0.length : Int)) = false := decide_eq_false c2
    have c2b1 : decide (4096 < l0.length) = false := decide_eq_false (by omega)
    clear c2
    have H' := Aside0.mk H
    clear H
    go_enter Try.func13, Try.ntmps13
    go_wp2
    go_loopg [5, 6] k (fun kq v5 v6 w' => ∃ (x5_1 : List (S46)) (x6_1 : Int), v6 = .int .i64 x6_1 ∧ Aside0 (provisoref05_Scan.l0 kq l0 x5_1 x6_1 = some (r1, r2, r3)) ∧ Aside0 (kq ≤ k) ∧ Aside0 (Kd.R k46 46 w' w.heap.size (fun _ => True) v5 x5_1) ∧ Aside0 (Below w.heap.size w w'))
    case atStart => exact ⟨(([] : List (S46))), (0), (by first | rfl | (simp; done) | (simp [*]; done)), H', ⟨Nat.le_refl _⟩, ⟨by first | exact Kd.R_nil _ _ _ _ _ | exact Kd.N_nil _ _ _ _ _ | exact Kd.V_nil _ _ _ _ _ | exact Kd.Q_nil _ _ _ _ _ | exact Kd.S_nil _ _ _ _ _⟩, ⟨by repeat (first | (with_reducible first | exact HB.out | apply below_alloc | apply pw_below_drewN | apply below_drew1) | exact HB.out)⟩⟩
    case round =>
      clear H'
      try clear c1
      try clear c2
      try clear c2b0
      try clear c2b1
      try clear p2
      obtain ⟨x5_1, x6_1, rfl, HA, HK1, HO_5, HB⟩ := hrel
      cases gk with
      | zero => exact absurd HA.out (by simp [provisoref05_Scan.l0])
      | succ k1 =>
        have H := HA.out
        clear HA
        simp only [provisoref05_Scan.l0] at H
        by_cases c3 : x6_1 < (l0.length : Int)
        · rw [if_pos c3] at H
          have c3b0 : decide (x6_1 < (l0.length : Int)) = true := decide_eq_true c3
          clear c3
          replace H := Option.bind_eq_some_iff.mp H
          obtain ⟨⟨t156, t157, t158, t159, t160⟩, A40, H⟩ := H
          replace H : (if t160 = 0 then (if x5_1.length < 4398046511104 then ((provisoref04_Size.f k1 t157).bind fun t165 => (provisoref05_Scan.l0 k1 l0 (x5_1 ++ [(⟨t156, t157, t158, t159⟩ : S46)]) (wrap64 (x6_1 + t165)))) else (none)) else (some (([] : List (S46)), x6_1, t160))) = some (r1, r2, r3) := H
          have A4 := Aside0.mk A40
          clear A40
          by_cases c5 : t160 = 0
          · rw [if_pos c5] at H
            have c5b0 : (t160 == 0) = true := beq_iff_eq.mpr c5
            have c5b1 : (t160 != 0) = false := bne_eq_false_iff_eq.mpr c5
            clear c5
            by_cases c6 : x5_1.length < 4398046511104
            · rw [if_pos c6] at H
              have LMc6 := Aside0.mk c6
              clear c6
              obtain ⟨y162, hy162⟩ : ∃ y_ : List (S46), y_ = (x5_1 ++ [(⟨t156, t157, t158, t159⟩ : S46)]) := ⟨_, rfl⟩
              replace H : ((provisoref04_Size.f k1 t157).bind fun t165 => (provisoref05_Scan.l0 k1 l0 y162 (wrap64 (x6_1 + t165)))) = some (r1, r2, r3) := by first | (rw [hy162]; with_reducible exact H) | (have H2_ := (Option.bind_some _ _).symm.trans H; rw [hy162]; with_reducible exact H2_) | (have H2_ := (Option.bind_some _ _).symm.trans H; with_reducible exact H2_) | with_reducible exact H | (rw [hy162]; exact H) | exact H
              have Ny162 := Aside0.mk hy162
              clear hy162
              replace H := Option.bind_eq_some_iff.mp H
              obtain ⟨t165, A70, H⟩ := H
              replace H : (provisoref05_Scan.l0 k1 l0 y162 (wrap64 (x6_1 + t165))) = some (r1, r2, r3) := H
              have A7 := Aside0.mk A70
              clear A70
              have H' := Aside0.mk H
              clear H
              go_wp2_with (first | ((with_reducible refine gate_callee (f := 43) rfl ?_); refine goesL_ (some 19) rfl rfl Try.func43 (by kernel_rfl) rfl #[.slice A0 l0.length c0, .int .i64 x6_1] rfl (by (try simp only [List.map_toArray, List.map_cons, List.map_nil]); first | done | rfl | (simp only [List.length_drop, List.length_take]; rfl)) ?_; (with_reducible refine (provisoref04_Decode.calls k1 _ _ l0 x6_1 t156 t157 t158 t159 t160 _ ?side1 ?side2 A4.out).mono ?_); (case side1 => repeat (first | exact (Kd.C_below HR0.out HB.out) | (with_reducible refine Kd.C_alloc ?_ _) | (with_reducible refine Kd.C_drewN ?_ _) | (with_reducible refine Kd.C_drew ?_))); (case side2 => exact HC0.out); rintro e w8 ⟨rfl, hb⟩; refine ⟨_, rfl, ?_⟩; have n0_ := Aside0.mk (Kd.R_below (by (with_reducible repeat (first | apply Kd.R_alloc | apply Kd.R_drewN | apply Kd.R_drew)); exact HO_5.out) hb); have n1_ := Aside0.mk (below_step (by repeat (first | (with_reducible first | exact HB.out | apply below_alloc | apply pw_below_drewN | apply below_drew1) | exact HB.out)) hb); clear HO_5; clear HB; have HO_5 := n0_; have HB := n1_; clear n0_ n1_; (try clear hb); (try clear hb2); (try clear hk); (try clear hi)) | ((with_reducible refine gate_dst (N := 7) rfl ?_); refine box_event ?hg (N := 7) ?hd (cs := #[.int .i64 0, .int .u8 0, .int .i64 0, .int .i64 0]) (t := 46) ?hr ?_; (case hd => rfl); (case hg => rfl); (case hr => first | (go_simp; done) | (go_simp; rfl)); intro gb161 hg w9 hbox hb; have n0_ := Aside0.mk (Kd.R_below (Kd.R_elderB (by (with_reducible repeat (first | apply Kd.R_alloc | apply Kd.R_drewN | apply Kd.R_drew)); exact HO_5.out) gb161 (Nat.le_of_eq hg.symm)) hb); have n1_ := Aside0.mk (below_step (by repeat (first | (with_reducible first | exact HB.out | apply below_alloc | apply pw_below_drewN | apply below_drew1) | exact HB.out)) hb); have n2_ := Aside0.mk (hbox); have n3_ := Aside0.mk ((by rw [hg]; exact (below_size (by repeat (first | (with_reducible first | exact HB.out | apply below_alloc | apply pw_below_drewN | apply below_drew1) | exact HB.out))) : w.heap.size ≤ gb161)); have n4_ := Aside0.mk ((by rw [hg]; exact (below_size (by repeat (first | (with_reducible first | exact HB.out | apply below_alloc | apply pw_below_drewN | apply below_drew1) | exact HB.out))) : w.heap.size ≤ gb161)); clear HO_5; clear HB; have HO_5 := n0_; have HB := n1_; have BK161 := n2_; have GW161 := n3_; have GE161 := n4_; clear n0_ n1_ n2_ n3_ n4_; clear hb hbox hg; have hcz10_0 : w9.cell? ⟨gb161, 0, none⟩ = some (.int .i64 0) := (blk_cell BK161.out 0).trans rfl; have hcz10_1 : w9.cell? ⟨gb161, 1, none⟩ = some (.int .u8 0) := (blk_cell BK161.out 1).trans rfl; have hcz10_2 : w9.cell? ⟨gb161, 2, none⟩ = some (.int .i64 0) := (blk_cell BK161.out 2).trans rfl; have hcz10_3 : w9.cell? ⟨gb161, 3, none⟩ = some (.int .i64 0) := (blk_cell BK161.out 3).trans rfl; have hfz10_0 := blk_frozen BK161.out 0; have hfz10_1 := blk_frozen BK161.out 1; have hfz10_2 := blk_frozen BK161.out 2; have hfz10_3 := blk_frozen BK161.out 3) | ((with_reducible refine gate_builtin (b := .append) (xs := #[.tmp 26, .tmp 28]) rfl ?_); at_builtin; refine Kd.R_append k46 (w0 := w) w.heap.size rfl (.tmp 26) (.tmp 28) 23 46 (.agg #[(.int .i64 0), (.int .u8 0), (.int .i64 0), (.int .i64 0)]) 32 rfl Try.underlying23 info46 rfl (by decide) (by omega) u5 x5_1 (⟨t156, t157, t158, t159⟩ : S46) [.int .i64 t156, .int .u8 t157, .int .i64 t158, .int .i64 t159] (fun k_ => k_ ≠ gb161) (fun _ => False) rfl (by first | (go_simp; done) | (go_simp; rfl)) ?aP (fun _ hk => hk.elim) ?aF ?aO ?aB ?aS ?aL ?_; (case aP => exact k46_mkM _ _ _ (⟨t156, t157, t158, t159⟩ : S46)); (case aB => exact (by repeat (first | (with_reducible first | exact HB.out | apply below_alloc | apply pw_below_drewN | apply below_drew1 | refine below_set ?_ GE161.out) | exact HB.out))); (case aF => exact (fun k_ hk => Kd.freshB (g := gb161) (o := .cells #[.int .i64 t156, .int .u8 t157, .int .i64 t158, .int .i64 t159] 46 (0, 0)) (by (with_reducible repeat (first | refine blk_drewN ?_ _ | refine blk_drew ?_ | refine blk_alloc ?_ _)); refine blk_put (cs := #[.int .i64 t156, .int .u8 t157, .int .i64 t158, .int .i64 0]) ?_ 3 _ rfl; (with_reducible repeat (first | refine blk_drewN ?_ _ | refine blk_drew ?_ | refine blk_alloc ?_ _)); refine blk_put (cs := #[.int .i64 t156, .int .u8 t157, .int .i64 0, .int .i64 0]) ?_ 2 _ rfl; (with_reducible repeat (first | refine blk_drewN ?_ _ | refine blk_drew ?_ | refine blk_alloc ?_ _)); refine blk_put (cs := #[.int .i64 t156, .int .u8 0, .int .i64 0, .int .i64 0]) ?_ 1 _ rfl; (with_reducible repeat (first | refine blk_drewN ?_ _ | refine blk_drew ?_ | refine blk_alloc ?_ _)); refine blk_put (cs := #[.int .i64 0, .int .u8 0, .int .i64 0, .int .i64 0]) ?_ 0 _ rfl; (with_reducible repeat (first | refine blk_drewN ?_ _ | refine blk_drew ?_ | refine blk_alloc ?_ _)); exact BK161.out) k_ hk)); (case aO => exact (by (with_reducible repeat (first | apply Kd.R_alloc | apply Kd.R_drewN | apply Kd.R_drew)); exact Kd.R_mono (Kd.R_far (p := ⟨gb161, 3, none⟩) (Kd.R_far (p := ⟨gb161, 2, none⟩) (Kd.R_far (p := ⟨gb161, 1, none⟩) (Kd.R_far (p := ⟨gb161, 0, none⟩) (Kd.R_mono HO_5.out (fun k_ hk => (⟨hk, hk.2⟩ : _ ∧ k_ ≠ gb161))) (fun _ hk => hk.2) (.int .i64 t156)) (fun _ hk => hk.2) (.int .u8 t157)) (fun _ hk => hk.2) (.int .i64 t158)) (fun _ hk => hk.2) (.int .i64 t159)) (fun _ hk => hk.1.2))); (case aS => exact (below_size (by repeat (first | (with_reducible first | exact HB.out | apply below_alloc | apply pw_below_drewN | apply below_drew1 | refine below_set ?_ GE161.out) | exact HB.out)))); (case aL => have := LMc6.out; omega); intro v163 w11 ho hb hg hat; rw [← Ny162.out] at ho; have n0_ := Aside0.mk (blk_grown (g := gb161) (o := .cells #[.int .i64 t156, .int .u8 t157, .int .i64 t158, .int .i64 t159] 46 (0, 0)) (by (with_reducible repeat (first | refine blk_drewN ?_ _ | refine blk_drew ?_ | refine blk_alloc ?_ _)); refine blk_put (cs := #[.int .i64 t156, .int .u8 t157, .int .i64 t158, .int .i64 0]) ?_ 3 _ rfl; (with_reducible repeat (first | refine blk_drewN ?_ _ | refine blk_drew ?_ | refine blk_alloc ?_ _)); refine blk_put (cs := #[.int .i64 t156, .int .u8 t157, .int .i64 0, .int .i64 0]) ?_ 2 _ rfl; (with_reducible repeat (first | refine blk_drewN ?_ _ | refine blk_drew ?_ | refine blk_alloc ?_ _)); refine blk_put (cs := #[.int .i64 t156, .int .u8 0, .int .i64 0, .int .i64 0]) ?_ 1 _ rfl; (with_reducible repeat (first | refine blk_drewN ?_ _ | refine blk_drew ?_ | refine blk_alloc ?_ _)); refine blk_put (cs := #[.int .i64 0, .int .u8 0, .int .i64 0, .int .i64 0]) ?_ 0 _ rfl; (with_reducible repeat (first | refine blk_drewN ?_ _ | refine blk_drew ?_ | refine blk_alloc ?_ _)); exact BK161.out) hg (Kd.R_away HO_5.out (fun _ hk => hk.2))); have n1_ := Aside0.mk (hb); have n2_ := Aside0.mk (ho); clear BK161; clear HB; clear HO_5; have BK161 := n0_; have HB := n1_; have HO164 := n2_; clear n0_ n1_ n2_; clear ho hb hg hat; have hcz12_0 : w11.cell? ⟨gb161, 0, none⟩ = some (.int .i64 t156) := (blk_cell BK161.out 0).trans rfl; have hcz12_1 : w11.cell? ⟨gb161, 1, none⟩ = some (.int .u8 t157) := (blk_cell BK161.out 1).trans rfl; have hcz12_2 : w11.cell? ⟨gb161, 2, none⟩ = some (.int .i64 t158) := (blk_cell BK161.out 2).trans rfl; have hcz12_3 : w11.cell? ⟨gb161, 3, none⟩ = some (.int .i64 t159) := (blk_cell BK161.out 3).trans rfl; have hfz12_0 := blk_frozen BK161.out 0; have hfz12_1 := blk_frozen BK161.out 1; have hfz12_2 := blk_frozen BK161.out 2; have hfz12_3 := blk_frozen BK161.out 3) | ((with_reducible refine gate_callee (f := 44) rfl ?_); refine goesL_ (some 33) rfl rfl Try.func44 (by kernel_rfl) rfl #[.int .u8 t157] rfl (by (try simp only [List.map_toArray, List.map_cons, List.map_nil]); first | done | rfl | (simp only [List.length_drop, List.length_take]; rfl)) ?_; (with_reducible refine (provisoref04_Size.calls k1 t157 t165 _ A7.out).mono ?_); rintro e w' ⟨rfl, ⟨nd, rfl⟩⟩; refine ⟨_, rfl, ?_⟩))
              go_roundg k1
              case measure => have := HK1.out; omega
              case rel => exact ⟨(y162), (wrap64 (x6_1 + t165)), (by first | rfl | (simp; done) | (simp [*]; done)), H', ⟨by have := HK1.out; omega⟩, ⟨by (with_reducible repeat (first | apply Kd.R_alloc | apply Kd.R_drewN | apply Kd.R_drew)); exact Kd.R_mono HO164.out (fun _ hk => trivial)⟩, ⟨by repeat (first | (with_reducible first | exact HB.out | apply below_alloc | apply pw_below_drewN | apply below_drew1 | refine below_set ?_ GE161.out) | exact HB.out)⟩⟩
            · rw [if_neg c6] at H
              exact absurd H (by simp)
          · rw [if_neg c5] at H
            have c5b0 : (t160 == 0) = false := beq_eq_false_iff_ne.mpr c5
            have c5b1 : (t160 != 0) = true := bne_iff_ne.mpr c5
            simp only [Option.some.injEq, Prod.mk.injEq] at H
            obtain ⟨rfl, rfl, rfl⟩ := H
            go_wp2_with (first | ((with_reducible refine gate_callee (f := 43) rfl ?_); refine goesL_ (some 19) rfl rfl Try.func43 (by kernel_rfl) rfl #[.slice A0 l0.length c0, .int .i64 x6_1] rfl (by (try simp only [List.map_toArray, List.map_cons, List.map_nil]); first | done | rfl | (simp only [List.length_drop, List.length_take]; rfl)) ?_; (with_reducible refine (provisoref04_Decode.calls k1 _ _ l0 x6_1 t156 t157 t158 t159 t160 _ ?side1 ?side2 A4.out).mono ?_); (case side1 => repeat (first | exact (Kd.C_below HR0.out HB.out) | (with_reducible refine Kd.C_alloc ?_ _) | (with_reducible refine Kd.C_drewN ?_ _) | (with_reducible refine Kd.C_drew ?_))); (case side2 => exact HC0.out); rintro e w13 ⟨rfl, hb⟩; refine ⟨_, rfl, ?_⟩; have n0_ := Aside0.mk (Kd.R_below (by (with_reducible repeat (first | apply Kd.R_alloc | apply Kd.R_drewN | apply Kd.R_drew)); exact HO_5.out) hb); have n1_ := Aside0.mk (below_step (by repeat (first | (with_reducible first | exact HB.out | apply below_alloc | apply pw_below_drewN | apply below_drew1) | exact HB.out)) hb); clear HO_5; clear HB; have HO_5 := n0_; have HB := n1_; clear n0_ n1_; (try clear hb); (try clear hb2); (try clear hk); (try clear hi)) | ((with_reducible refine gate_dst (N := 7) rfl ?_); refine box_event ?hg (N := 7) ?hd (cs := #[.int .i64 0, .int .u8 0, .int .i64 0, .int .i64 0]) (t := 46) ?hr ?_; (case hd => rfl); (case hg => rfl); (case hr => first | (go_simp; done) | (go_simp; rfl)); intro gb161 hg w14 hbox hb; have n0_ := Aside0.mk (Kd.R_below (Kd.R_elderB (by (with_reducible repeat (first | apply Kd.R_alloc | apply Kd.R_drewN | apply Kd.R_drew)); exact HO_5.out) gb161 (Nat.le_of_eq hg.symm)) hb); have n1_ := Aside0.mk (below_step (by repeat (first | (with_reducible first | exact HB.out | apply below_alloc | apply pw_below_drewN | apply below_drew1) | exact HB.out)) hb); have n2_ := Aside0.mk (hbox); have n3_ := Aside0.mk ((by rw [hg]; exact (below_size (by repeat (first | (with_reducible first | exact HB.out | apply below_alloc | apply pw_below_drewN | apply below_drew1) | exact HB.out))) : w.heap.size ≤ gb161)); have n4_ := Aside0.mk ((by rw [hg]; exact (below_size (by repeat (first | (with_reducible first | exact HB.out | apply below_alloc | apply pw_below_drewN | apply below_drew1) | exact HB.out))) : w.heap.size ≤ gb161)); clear HO_5; clear HB; have HO_5 := n0_; have HB := n1_; have BK161 := n2_; have GW161 := n3_; have GE161 := n4_; clear n0_ n1_ n2_ n3_ n4_; clear hb hbox hg; have hcz15_0 : w14.cell? ⟨gb161, 0, none⟩ = some (.int .i64 0) := (blk_cell BK161.out 0).trans rfl; have hcz15_1 : w14.cell? ⟨gb161, 1, none⟩ = some (.int .u8 0) := (blk_cell BK161.out 1).trans rfl; have hcz15_2 : w14.cell? ⟨gb161, 2, none⟩ = some (.int .i64 0) := (blk_cell BK161.out 2).trans rfl; have hcz15_3 : w14.cell? ⟨gb161, 3, none⟩ = some (.int .i64 0) := (blk_cell BK161.out 3).trans rfl; have hfz15_0 := blk_frozen BK161.out 0; have hfz15_1 := blk_frozen BK161.out 1; have hfz15_2 := blk_frozen BK161.out 2; have hfz15_3 := blk_frozen BK161.out 3))
            go_ret3
            exact ⟨_, by first | rfl | (simp [errW_none, errW_some] <;> rfl) | (simp [*, errW_none, errW_some] <;> rfl), by first | exact Kd.R_nil _ _ _ _ _ | exact Kd.N_nil _ _ _ _ _ | exact Kd.V_nil _ _ _ _ _ | exact Kd.Q_nil _ _ _ _ _ | exact Kd.S_nil _ _ _ _ _, by repeat (first | (with_reducible first | exact HB.out | apply below_alloc | apply pw_below_drewN | apply below_drew1 | refine below_set ?_ GE161.out) | exact HB.out)⟩
        · rw [if_neg c3] at H
          have c3b0 : decide (x6_1 < (l0.length : Int)) = false := decide_eq_false c3
          clear c3
          simp only [Option.some.injEq, Prod.mk.injEq] at H
          obtain ⟨rfl, rfl, rfl⟩ := H
          go_wp2
          go_ret3
          exact ⟨_, by first | rfl | (simp [errW_none, errW_some] <;> rfl) | (simp [*, errW_none, errW_some] <;> rfl), by (with_reducible repeat (first | apply Kd.R_alloc | apply Kd.R_drewN | apply Kd.R_drew)); exact HO_5.out, by repeat (first | (with_reducible first | exact HB.out | apply below_alloc | apply pw_below_drewN | apply below_drew1) | exact HB.out)⟩

def provisoref05_Place.l0 : Nat → Int → List (S46) → Int → Int → Option (Int)
  | 0, _, _, _, _ => none
  | k + 1, x1, x7, x8, x9 => if x9 < x8 then (if 0 ≤ x9 then (if x9 < (x7.length : Int) then (if ((rd_T46 x7 x9).f0) = x1 then (some x9) else (provisoref05_Place.l0 k x1 x7 x8 (wrap64 (x9 + 1)))) else (none)) else (none)) else (some (-1))
def provisoref05_Place.f (k : Nat) (l0 : List (S46)) (a1 : Int) : Option (Int) := provisoref05_Place.l0 k a1 l0 (l0.length : Int) 0
set_option maxHeartbeats 8000000 in
set_option maxRecDepth 100000 in
theorem provisoref05_Place.calls (k : Nat) (A0 : Option Addr) (c0 : Nat) (l0 : List (S46)) (a1 : Int) (r : Int) (w : World) (hr0 : Kd.C k46 w A0 l0.length l0) (hc0 : l0.length ≤ c0) (h : provisoref05_Place.f k l0 a1 = some r) :
    Calls Try.prog 49 #[.slice A0 l0.length c0, .int .i64 a1] w fun e w' => e = .returned (.int .i64 r) ∧ Below w.heap.size w w' := by
  have hu46 := Try.underlying46
  have HR0 := Aside0.mk hr0
  have HC0 := Aside0.mk hc0
  clear hr0 hc0
  have HB := Aside0.mk (Below.refl w.heap.size w)
  have H : (provisoref05_Place.l0 k a1 l0 (l0.length : Int) 0) = some r := h
  clear h
  have H' := Aside0.mk H
  clear H
  go_enter Try.func49, Try.ntmps49
  go_wp2
  go_loopg [9] k (fun kq v9 w' => ∃ (x9_1 : Int), v9 = .int .i64 x9_1 ∧ Aside0 (provisoref05_Place.l0 kq a1 l0 (l0.length : Int) x9_1 = some r) ∧ Aside0 (kq ≤ k) ∧ Aside0 (Below w.heap.size w w'))
  case atStart => exact ⟨(0), (by first | rfl | (simp; done) | (simp [*]; done)), H', ⟨Nat.le_refl _⟩, ⟨by repeat (first | (with_reducible first | exact HB.out | apply below_alloc | apply pw_below_drewN | apply below_drew1) | exact HB.out)⟩⟩
  case round =>
    clear H'
    try clear p2
    obtain ⟨x9_1, rfl, HA, HK1, HB⟩ := hrel
    cases gk with
    | zero => exact absurd HA.out (by simp [provisoref05_Place.l0])
    | succ k1 =>
      have H := HA.out
      clear HA
      simp only [provisoref05_Place.l0] at H
      by_cases c3 : x9_1 < (l0.length : Int)
      · rw [if_pos c3] at H
        have c3b0 : decide (x9_1 < (l0.length : Int)) = true := decide_eq_true c3
        clear c3
        by_cases c4 : 0 ≤ x9_1
        · rw [if_pos c4] at H
          have c4b0 : decide (0 ≤ x9_1) = true := decide_eq_true c4
          clear c4
          by_cases c5 : x9_1 < (l0.length : Int)
          · rw [if_pos c5] at H
            have c5b0 : decide (x9_1 < (l0.length : Int)) = true := decide_eq_true c5
            clear c5
            by_cases c6 : ((rd_T46 l0 x9_1).f0) = a1
            · rw [if_pos c6] at H
              have c6b0 : (((rd_T46 l0 x9_1).f0) == a1) = true := beq_iff_eq.mpr c6
              have c6b1 : (((rd_T46 l0 x9_1).f0) != a1) = false := bne_eq_false_iff_eq.mpr c6
              clear c6
              obtain rfl := Option.some.inj H
              have p170 : 0 ≤ (x9_1 : Int) := of_decide_eq_true (by first | (with_reducible assumption) | assumption)
              have q170 : x9_1 < (l0.length : Int) := of_decide_eq_true (by first | (with_reducible assumption) | assumption)
              obtain ⟨ad170, e170, hx170_0, hx170_1, hx170_2, hx170_3⟩ := at_T46 HR0.out x9_1 p170 q170
              cases e170
              replace hx170_0 := (HB.out.cell (World.block_lt_of_cell? w _ hx170_0)).trans hx170_0
              replace hx170_1 := (HB.out.cell (World.block_lt_of_cell? w _ hx170_1)).trans hx170_1
              replace hx170_2 := (HB.out.cell (World.block_lt_of_cell? w _ hx170_2)).trans hx170_2
              replace hx170_3 := (HB.out.cell (World.block_lt_of_cell? w _ hx170_3)).trans hx170_3
              replace p170 := eq_true p170
              replace q170 := eq_true q170
              go_wp2_with (first | ((with_reducible refine gate_dst (N := 6) rfl ?_); refine box_event ?hg (N := 6) ?hd (cs := #[.int .i64 0, .int .u8 0, .int .i64 0, .int .i64 0]) (t := 46) ?hr ?_; (case hd => rfl); (case hg => rfl); (case hr => first | (go_simp; done) | (go_simp; rfl)); intro gb171 hg w7 hbox hb; have n0_ := Aside0.mk (below_step (by repeat (first | (with_reducible first | exact HB.out | apply below_alloc | apply pw_below_drewN | apply below_drew1) | exact HB.out)) hb); have n1_ := Aside0.mk (hbox); have n2_ := Aside0.mk ((by rw [hg]; exact (below_size (by repeat (first | (with_reducible first | exact HB.out | apply below_alloc | apply pw_below_drewN | apply below_drew1) | exact HB.out))) : w.heap.size ≤ gb171)); have n3_ := Aside0.mk ((by rw [hg]; exact (below_size (by repeat (first | (with_reducible first | exact HB.out | apply below_alloc | apply pw_below_drewN | apply below_drew1) | exact HB.out))) : w.heap.size ≤ gb171)); clear HB; have HB := n0_; have BK171 := n1_; have GW171 := n2_; have GE171 := n3_; clear n0_ n1_ n2_ n3_; clear hb hbox hg; have hcz8_0 : w7.cell? ⟨gb171, 0, none⟩ = some (.int .i64 0) := (blk_cell BK171.out 0).trans rfl; have hcz8_1 : w7.cell? ⟨gb171, 1, none⟩ = some (.int .u8 0) := (blk_cell BK171.out 1).trans rfl; have hcz8_2 : w7.cell? ⟨gb171, 2, none⟩ = some (.int .i64 0) := (blk_cell BK171.out 2).trans rfl; have hcz8_3 : w7.cell? ⟨gb171, 3, none⟩ = some (.int .i64 0) := (blk_cell BK171.out 3).trans rfl; have hfz8_0 := blk_frozen BK171.out 0; have hfz8_1 := blk_frozen BK171.out 1; have hfz8_2 := blk_frozen BK171.out 2; have hfz8_3 := blk_frozen BK171.out 3))
              go_ret
              exact ⟨by first | rfl | (simp [errW_none, errW_some] <;> rfl) | (simp [*, errW_none, errW_some] <;> rfl), by repeat (first | (with_reducible first | exact HB.out | apply below_alloc | apply pw_below_drewN | apply below_drew1 | refine below_set ?_ GE171.out) | exact HB.out)⟩
            · rw [if_neg c6] at H
              have c6b0 : (((rd_T46 l0 x9_1).f0) == a1) = false := beq_eq_false_iff_ne.mpr c6
              have c6b1 : (((rd_T46 l0 x9_1).f0) != a1) = true := bne_iff_ne.mpr c6
              have H' := Aside0.mk H
              clear H
              have p170 : 0 ≤ (x9_1 : Int) := of_decide_eq_true (by first | (with_reducible assumption) | assumption)
              have q170 : x9_1 < (l0.length : Int) := of_decide_eq_true (by first | (with_reducible assumption) | assumption)
              obtain ⟨ad170, e170, hx170_0, hx170_1, hx170_2, hx170_3⟩ := at_T46 HR0.out x9_1 p170 q170
              cases e170
              replace hx170_0 := (HB.out.cell (World.block_lt_of_cell? w _ hx170_0)).trans hx170_0
              replace hx170_1 := (HB.out.cell (World.block_lt_of_cell? w _ hx170_1)).trans hx170_1
              replace hx170_2 := (HB.out.cell (World.block_lt_of_cell? w _ hx170_2)).trans hx170_2
              replace hx170_3 := (HB.out.cell (World.block_lt_of_cell? w _ hx170_3)).trans hx170_3
              replace p170 := eq_true p170
              replace q170 := eq_true q170
              go_wp2_with (first | ((with_reducible refine gate_dst (N := 6) rfl ?_); refine box_event ?hg (N := 6) ?hd (cs := #[.int .i64 0, .int .u8 0, .int .i64 0, .int .i64 0]) (t := 46) ?hr ?_; (case hd => rfl); (case hg => rfl); (case hr => first | (go_simp; done) | (go_simp; rfl)); intro gb171 hg w9 hbox hb; have n0_ := Aside0.mk (below_step (by repeat (first | (with_reducible first | exact HB.out | apply below_alloc | apply pw_below_drewN | apply below_drew1) | exact HB.out)) hb); have n1_ := Aside0.mk (hbox); have n2_ := Aside0.mk ((by rw [hg]; exact (below_size (by repeat (first | (with_reducible first | exact HB.out | apply below_alloc | apply pw_below_drewN | apply below_drew1) | exact HB.out))) : w.heap.size ≤ gb171)); have n3_ := Aside0.mk ((by rw [hg]; exact (below_size (by repeat (first | (with_reducible first | exact HB.out | apply below_alloc | apply pw_below_drewN | apply below_drew1) | exact HB.out))) : w.heap.size ≤ gb171)); clear HB; have HB := n0_; have BK171 := n1_; have GW171 := n2_; have GE171 := n3_; clear n0_ n1_ n2_ n3_; clear hb hbox hg; have hcz10_0 : w9.cell? ⟨gb171, 0, none⟩ = some (.int .i64 0) := (blk_cell BK171.out 0).trans rfl; have hcz10_1 : w9.cell? ⟨gb171, 1, none⟩ = some (.int .u8 0) := (blk_cell BK171.out 1).trans rfl; have hcz10_2 : w9.cell? ⟨gb171, 2, none⟩ = some (.int .i64 0) := (blk_cell BK171.out 2).trans rfl; have hcz10_3 : w9.cell? ⟨gb171, 3, none⟩ = some (.int .i64 0) := (blk_cell BK171.out 3).trans rfl; have hfz10_0 := blk_frozen BK171.out 0; have hfz10_1 := blk_frozen BK171.out 1; have hfz10_2 := blk_frozen BK171.out 2; have hfz10_3 := blk_frozen BK171.out 3))
              go_roundg k1
              case measure => have := HK1.out; omega
              case rel => exact ⟨(wrap64 (x9_1 + 1)), (by first | rfl | (simp; done) | (simp [*]; done)), H', ⟨by have := HK1.out; omega⟩, ⟨by repeat (first | (with_reducible first | exact HB.out | apply below_alloc | apply pw_below_drewN | apply below_drew1 | refine below_set ?_ GE171.out) | exact HB.out)⟩⟩
          · rw [if_neg c5] at H
            exact absurd H (by simp)
        · rw [if_neg c4] at H
          exact absurd H (by simp)
      · rw [if_neg c3] at H
        have c3b0 : decide (x9_1 < (l0.length : Int)) = false := decide_eq_false c3
        clear c3
        obtain rfl := Option.some.inj H
        go_wp2
        go_ret
        exact ⟨by first | rfl | (simp [errW_none, errW_some] <;> rfl) | (simp [*, errW_none, errW_some] <;> rfl), by repeat (first | (with_reducible first | exact HB.out | apply below_alloc | apply pw_below_drewN | apply below_drew1) | exact HB.out)⟩


end Go.Proofs.Ytcffniaieegbgaa.P

end

section
namespace Go.Proofs.Ytcffniaieegbgaa.P
open Go.RowKit Go.Proofs.YtcffniaieegbgaaW.PrintWords Go.Proofs.YtcffniaieegbgaaW.PrintLast Go.Proofs.YtcffniaieegbgaaW.PrintMore
attribute [local go_sem] max2_int min2_int max_two min_two max_three min_three max_four min_four   -- for this text's walks alone
set_option linter.unusedVariables false
set_option linter.unusedSimpArgs false

theorem eqA46 (d : Nat) (w : World) (x0 y0 : Int) (x1 y1 : Int) (x2 y2 : Int) (x3 y3 : Int) :
    (Op.equalIn (d + 2) 46 (.agg #[.int .i64 x0, .int .u8 x1, .int .i64 x2, .int .i64 x3]) (.agg #[.int .i64 y0, .int .u8 y1, .int .i64 y2, .int .i64 y3])).run Try.prog w = .ok (x0 == y0 && (x1 == y1 && (x2 == y2 && (x3 == y3)))) w := by
  refine eqA_of Try.underlying46 (by kernel_rfl) ?_
  refine eqf_cons (by rfl) (by go_simp; rfl) (by go_simp; rfl) (by go_simp) ?_
  refine eqf_cons (by rfl) (by go_simp; rfl) (by go_simp; rfl) (by go_simp) ?_
  refine eqf_cons (by rfl) (by go_simp; rfl) (by go_simp; rfl) (by go_simp) ?_
  exact eqf_last (by rfl) (by go_simp; rfl) (by go_simp; rfl) (by go_simp)
end Go.Proofs.Ytcffniaieegbgaa.P

end

section
namespace Go.Proofs.Ytcffniaieegbgaa.P
open Go.RowKit Go.Proofs.YtcffniaieegbgaaW.PrintWords Go.Proofs.YtcffniaieegbgaaW.PrintLast Go.Proofs.YtcffniaieegbgaaW.PrintMore
attribute [local go_sem] max2_int min2_int max_two min_two max_three min_three max_four min_four   -- for this text's walks alone
set_option linter.unusedVariables false
set_option linter.unusedSimpArgs false

attribute [local go_sem high] eqA46

def slices_Clone_byte_byte.f (l0 : List Int) : Option (List Int) := if l0.length < 140737488355328 then some l0 else none
set_option maxHeartbeats 800000 in
set_option maxRecDepth 100000 in
theorem slices_Clone_byte_byte.calls (A0 : Option Addr) (c0 : Nat) (l0 : List Int) (r : List Int) (w : World) (hr0 : Kd.C (Kd.int .u8) w A0 l0.length l0) (hc0 : l0.length ≤ c0) (h : slices_Clone_byte_byte.f l0 = some r) :
    Calls Try.prog 40 #[.slice A0 l0.length c0] w fun e w' => ∃ v0_ : Value, e = .returned v0_ ∧ Kd.R (Kd.int .u8) 5 w' w.heap.size (fun _ => True) v0_ r ∧ Below w.heap.size w w' := by
  obtain ⟨hlim, rfl⟩ : l0.length < 140737488355328 ∧ r = l0 := by
    unfold slices_Clone_byte_byte.f at h
    split at h
    · rename_i h9
      exact ⟨h9, (Option.some.inj h).symm⟩
    · cases h
  have hnil := Lib.run_eql_slice_nil (P := Try.prog) (h := Try.underlying22)
  have HR := Aside0.mk hr0
  have HL := Aside0.mk hlim
  cases A0 with
  | none =>
    have e0 : r = [] := by
      rcases Nat.eq_zero_or_pos r.length with h0 | h0
      · exact List.length_eq_zero_iff.1 h0
      · obtain ⟨ad, e, _⟩ := hr0.2.2 h0
        cases e
    have E0 := Aside0.mk e0
    clear h hr0 hlim e0
    go_enter Try.func40, Try.ntmps40
    go_wp2
    go_ret
    refine ⟨_, rfl, ?_, Below.refl _ _⟩
    rw [E0.out]
    exact Kd.R_nil _ _ _ _ _
  | some ad =>
    clear h hr0 hlim
    go_enter Try.func40, Try.ntmps40
    go_wp2_with (first | ((with_reducible refine gate_dst (N := 5) rfl ?_); refine Kd.R_lit (Kd.int .u8) _ 5 ?hg (N := 5) ?hd (xs := ([] : List Int)) (inner := []) (ok := fun _ => True) (okp := fun _ => True) ?hr ?hp (fun _ hk => hk) trivial (Below.refl _ _) (Nat.le_refl _) (by simp) ?_; (case hd => rfl); (case hg => rfl); (case hr => first | (go_simp; done) | (go_simp; rfl)); (case hp => exact (Reps.none _ _)); intro v1 w1 ho1 hb1 _ _; have n1 := Aside0.mk ho1; have n2 := Aside0.mk hb1; clear ho1 hb1; obtain ⟨A1, c1, e1⟩ := Kd.R_slice n1.out; subst e1) | ((with_reducible refine gate_builtin (b := .append) (xs := #[.tmp 5, .tmp 6]) rfl ?_); at_builtin; refine Kd.R_append_rows (Kd.int .u8) (w0 := w) w.heap.size rfl (.tmp 5) (.tmp 6) 22 5 (.int .u8 0) 1 rfl Try.underlying22 info5 rfl (by decide) (by omega) (.slice A1 (([] : List Int)).length c1) ([] : List Int) r _ _ _ (fun _ => True) (fun _ => False) rfl rfl ?aO ?aR (fun _ _ h => h) (fun _ h => h.elim) ?aF ?aB ?aS ?aL ?_; (case aR => exact Kd.C_below HR.out n2.out); (case aB => exact n2.out); (case aF => exact (fun _ _ => trivial)); (case aO => exact n1.out); (case aS => exact n2.out.size); (case aL => have h9 := HL.out; simp only [List.length_nil]; omega); intro v2 w2 ho2 hb2 _ _; have n3 := Aside0.mk ho2; have n4 := Aside0.mk hb2; clear ho2 hb2))
    go_ret
    exact ⟨_, rfl, n3.out, n4.out⟩

theorem C_of_lit {W : World} {gb : Nat} {cs : Array Value} {t : TypeId} {xs : List Int} (h : W.heap[gb]? = some (.cells cs t (0, 0))) (hl : xs.length ≤ 9223372036854775807) (hx : ∀ (j : Nat) (p : Int), xs[j]? = some p → cs[j]? = some (.int .u8 p)) : Kd.C (Kd.int .u8) W (some ⟨gb, 0, none⟩) xs.length xs :=
  ⟨rfl, hl, fun _ => ⟨⟨gb, 0, none⟩, rfl, fun j p hj => ⟨[.int .u8 p], rfl, rfl, fun i u hu => by
    cases i with
    | zero =>
      obtain rfl := Option.some.inj hu
      have h2 := (blk_cell h j).trans (hx j p hj)
      rcases Nat.eq_zero_or_pos j with rfl | hj0
      · simpa [Addr.add, show (Kd.int .u8).sz = 1 from rfl] using h2
      · have : ¬ j = 0 := by omega
        simpa [Addr.add, show (Kd.int .u8).sz = 1 from rfl, this] using h2
    | succ i => cases hu⟩⟩⟩
set_option maxHeartbeats 1600000 in
set_option maxRecDepth 100000 in
theorem Roomy_calls (A0 : Option Addr) (c0 : Nat) (l0 : List Int) (w : World) (hr0 : Kd.C (Kd.int .u8) w A0 l0.length l0) (hc0 : l0.length ≤ c0) (hlim : l0.length ≤ 140737488351232) :
    Calls Try.prog 25 #[.slice A0 l0.length c0] w fun e w' => ∃ A c, e = .returned (.tuple #[.slice A l0.length c, .slice A (l0.length + 4) c]) ∧ l0.length + 4 ≤ c ∧ Kd.R (Kd.int .u8) 5 w' w.heap.size (fun _ => True) (.slice A (l0.length + 4) c) (l0 ++ [165, 90, 195, 60]) ∧ Below w.heap.size w w' := by
  have HR := Aside0.mk hr0
  have HC := Aside0.mk hc0
  have HL := Aside0.mk hlim
  have HCL : Aside0 (slices_Clone_byte_byte.f l0 = some l0) := ⟨by unfold slices_Clone_byte_byte.f; rw [if_pos (by omega)]⟩
  clear hr0 hc0
  go_enter Try.func25, Try.ntmps25
  go_wp2_with fail
  refine (slices_Clone_byte_byte.calls A0 c0 l0 l0 _ HR.out HC.out HCL.out).mono ?_
  rintro e w1 ⟨v, rfl, hR, hb⟩
  obtain ⟨A1, c1, rfl⟩ := Kd.R_slice hR
  have n1 := Aside0.mk (Kd.R_below hR (below_alloc (Below.refl _ _) (.cells #[.int .u8 165, .int .u8 90, .int .u8 195, .int .u8 60] 5)))
  have n2 := Aside0.mk (below_alloc hb (.cells #[.int .u8 165, .int .u8 90, .int .u8 195, .int .u8 60] 5))
  have n3 : Aside0 (Kd.C (Kd.int .u8) (w1.alloc (.cells #[.int .u8 165, .int .u8 90, .int .u8 195, .int .u8 60] 5)) (some ⟨w1.heap.size, 0, none⟩) [165, 90, 195, 60].length [165, 90, 195, 60]) := ⟨C_of_lit (blk_new _ _) (by decide) (fun j p hj => by
    match j, hj with
    | 0, hj => obtain rfl := Option.some.inj hj; rfl
    | 1, hj => obtain rfl := Option.some.inj hj; rfl
    | 2, hj => obtain rfl := Option.some.inj hj; rfl
    | 3, hj => obtain rfl := Option.some.inj hj; rfl
    | j + 4, hj => simp at hj)⟩
  clear hR hb
  go_wp2_with (first | ((with_reducible refine gate_builtin (b := .append) (xs := #[.tmp 6, .tmp 7]) rfl ?_); at_builtin; refine Kd.R_append_rows (Kd.int .u8) (w0 := w) w.heap.size rfl (.tmp 6) (.tmp 7) 22 5 (.int .u8 0) 1 rfl Try.underlying22 info5 rfl (by decide) (by omega) (.slice A1 l0.length c1) l0 [165, 90, 195, 60] (some ⟨w1.heap.size, 0, none⟩) 4 4 (fun _ => True) (fun _ => False) rfl rfl n1.out n3.out (fun _ _ h => h) (fun _ h => h.elim) (fun _ _ => trivial) n2.out n2.out.size (by have := HL.out; omega) ?_; intro v1 w2 ho hb hg hat; obtain ⟨Av, cv, hcl, e7⟩ : ∃ A c, l0.length + 4 ≤ c ∧ v1 = .slice A (l0.length + 4) c := (by obtain ⟨A, c, e, h, _⟩ := Kd.R_reads ho; rw [List.length_append] at e h; exact ⟨A, c, h, e⟩); subst e7; have HO := Aside0.mk ho; have HB := Aside0.mk hb; have p1 : l0.length ≤ cv := (by omega); clear ho hb hg hat))
  go_ret2
  exact ⟨Av, cv, rfl, hcl, HO.out, HB.out⟩

def numOf (bs : List Int) : Int := bs.foldl (fun x c => x * 256 + c) 0
theorem num_bound : ∀ (bs : List Int), (∀ x ∈ bs, 0 ≤ x ∧ x ≤ 255) → ∀ z : Int, 0 ≤ z → 0 ≤ bs.foldl (fun x c => x * 256 + c) z ∧ bs.foldl (fun x c => x * 256 + c) z < (z + 1) * 256 ^ bs.length
  | [], _, z, hz => ⟨hz, by simp; omega⟩
  | x :: bs, h, z, hz => by
    have hx := h x List.mem_cons_self
    obtain ⟨h1, h2⟩ := num_bound bs (fun y hy => h y (List.mem_cons_of_mem _ hy)) (z * 256 + x) (by omega)
    refine ⟨h1, Int.lt_of_lt_of_le h2 ?_⟩
    rw [List.length_cons, Int.pow_succ, ← Int.mul_assoc, Int.mul_right_comm]
    exact Int.mul_le_mul_of_nonneg_right (by omega) (Int.pow_nonneg (by decide))
theorem i64_or8 (x y : Int) (hx₀ : 0 ≤ x) (hx : x % 256 = 0) (hx₁ : x < 1099511627776) (h₀ : 0 ≤ y) (h₁ : y < 256) : bits .or .i64 x y = x + y :=
  bits_join .i64 40 (by decide) (fun n a b => by rw [IntKind.wrap_i64]; omega) 8 x y hx₀ hx hx₁ h₀ h₁ (by omega)
theorem num_take (seg : List Int) (i : Nat) (hi : i < seg.length) : numOf (seg.take (i + 1)) = numOf (seg.take i) * 256 + rd seg (i : Int) := by
  have hr : rd seg (i : Int) = seg[i] := by simp [rd, List.getD_eq_getElem?_getD, hi]
  unfold numOf
  rw [List.take_succ_eq_append_getElem hi, List.foldl_append, hr]
  rfl
theorem num_small (seg : List Int) (hb : ∀ x ∈ seg, 0 ≤ x ∧ x ≤ 255) (h4 : seg.length ≤ 4) : 0 ≤ numOf seg ∧ numOf seg < 4294967296 := by
  have hz := num_bound seg hb 0 (Int.le_refl _)
  have hp : (256 : Int) ^ seg.length ≤ 4294967296 := by
    have : seg.length = 0 ∨ seg.length = 1 ∨ seg.length = 2 ∨ seg.length = 3 ∨ seg.length = 4 := by omega
    rcases this with e | e | e | e | e <;> rw [e] <;> decide
  unfold numOf
  omega
def opnd (seg : List Int) : Int := if seg.length = 4 then (if numOf seg > 2147483647 then numOf seg - 4294967296 else numOf seg) else numOf seg
set_option maxHeartbeats 1600000 in
set_option maxRecDepth 100000 in
theorem take_calls (w0 : World) (A : Option Addr) (n c : Nat) (rest : List Int) (wd : Nat) (g : Nat) (l : List (Nat × TypeId × Array Value)) (W : World) (hb : ∀ x ∈ rest, 0 ≤ x ∧ x ≤ 255) (h4 : wd ≤ 4) (hn : wd ≤ rest.length) (hc : rest.length ≤ c) (hC : Kd.C (Kd.int .u8) w0 A rest.length rest) (hl : Rws w0 ((g, 22, #[.slice A rest.length c]) :: l) W) :
    Calls Try.prog 67 (#[.int .i64 (wd : Int)] ++ #[.pointer (some ⟨g, 0, none⟩)]) W fun e W' => ∃ (A' : Option Addr) (c' : Nat), e = .returned (.int .i64 (opnd (rest.take wd))) ∧ (rest.drop wd).length ≤ c' ∧ Kd.C (Kd.int .u8) w0 A' (rest.drop wd).length (rest.drop wd) ∧ Rws w0 ((g, 22, #[.slice A' (rest.drop wd).length c']) :: l) W' := by
  have hsl : (rest.take wd).length = wd := by rw [List.length_take]; omega
  have hsb : ∀ x ∈ rest.take wd, 0 ≤ x ∧ x ≤ 255 := fun x hx => hb x (List.mem_of_mem_take hx)
  have hC1 := Kd.C_take hC (m := wd) hn
  have hC2 := Kd.C_drop hC (m := wd) (c := c) hn hc
  rw [show (Kd.int .u8).sz = 1 from rfl, Nat.mul_one] at hC2
  rw [hsl] at hC1
  have hdl : (rest.drop wd).length = rest.length - wd := List.length_drop
  rw [hdl] at hC2 ⊢
  have HC1 := Aside0.mk hC1
  have HC2 := Aside0.mk hC2
  have HSB := Aside0.mk hsb
  have HSL := Aside0.mk hsl
  have HM := Aside0.mk hl
  have hc' : rest.length - wd ≤ c - wd := by omega
  have HCC := Aside0.mk hc'
  have m0 := blk_cell (hl.mem List.mem_cons_self) 0
  have mf := blk_frozen (hl.mem List.mem_cons_self) 0
  have p1 : (wd ≤ c) = True := eq_true (by omega)
  have p2 : ((wd : Int) ≤ (c : Int)) = True := eq_true (by omega)
  have p3 : (wd ≤ rest.length) = True := eq_true (by omega)
  have p4 : ((wd : Int) ≤ (rest.length : Int)) = True := eq_true (by omega)
  have p5 : (0 ≤ (wd : Int)) = True := eq_true (by omega)
  generalize rest.take wd = seg at hC1 HC1 HSB HSL hsb ⊢
  generalize rest.drop wd = rst at HC2 hC2 ⊢
  clear hC hC1 hC2 hsb hsl hb hl hdl hc'
  show Calls Try.prog 67 #[.int .i64 (wd : Int), .pointer (some ⟨g, 0, none⟩)] W _
  go_enter Try.func67, Try.ntmps67
  go_wp2_with fail
  go_loopw [4, 11] (fun v4 v11 wr => ∃ i : Nat, v11 = .int .i64 (i : Int) ∧ i ≤ wd ∧ v4 = .int .i64 (numOf (seg.take i)) ∧ wr = W) (fun _ v11 _ => ((wd : Int) - intOf v11).toNat)
  case atStart => exact ⟨0, rfl, Nat.zero_le _, rfl, rfl⟩
  case round =>
    obtain ⟨i, rfl, hi, rfl, rfl⟩ := hrel
    by_cases c1 : i < wd
    · have c1b : decide ((i : Int) < (wd : Int)) = true := decide_eq_true (by omega)
      have hC2 := Kd.C_below HC1.out HM.out.below
      obtain ⟨ad, e3, hx⟩ := Kd.at_int hC2 (i : Int) (by omega) (by omega)
      subst e3
      have p7 : ((i : Int) < (wd : Int)) = True := eq_true (by omega)
      have p8 : (0 ≤ (i : Int)) = True := eq_true (by omega)
      simp only [Int.toNat_natCast] at hx
      have hz := num_small (seg.take i) (fun x hx => HSB.out x (List.mem_of_mem_take hx)) (by rw [List.length_take]; omega)
      have hzi : i < 4 → numOf (seg.take i) < 16777216 := fun h => by
        have h9 := num_bound (seg.take i) (fun x hx => HSB.out x (List.mem_of_mem_take hx)) 0 (Int.le_refl _)
        rw [List.length_take, Nat.min_eq_left (by have := HSL.out; omega)] at h9
        have hp : (256 : Int) ^ i ≤ 16777216 := by
          have : i = 0 ∨ i = 1 ∨ i = 2 ∨ i = 3 := by omega
          rcases this with rfl | rfl | rfl | rfl <;> decide
        unfold numOf
        omega
      have hzi := hzi (by omega)
      have hr := HSB.out (rd seg (i : Int)) (by
        have hi9 : i < seg.length := by have := HSL.out; omega
        have hr : rd seg (i : Int) = seg[i] := by simp [rd, List.getD_eq_getElem?_getD, hi9]
        rw [hr]; exact List.getElem_mem hi9)
      have HNT := Aside0.mk (num_take seg i (by have := HSL.out; omega))
      obtain ⟨hr0, hr1⟩ := hr
      obtain ⟨hz0, hz1⟩ := hz
      generalize hzz : numOf (seg.take i) = z at *
      generalize hyy : rd seg (i : Int) = y at *
      have HOR := Aside0.mk (i64_or8 (z * 256) y (by omega) (by omega) (by omega) hr0 (by omega))
      have HWM : Aside0 (IntKind.i64.wrap (z * 256) = z * 256 ∧ IntKind.i64.wrap y = y) := ⟨by rw [IntKind.wrap_i64, IntKind.wrap_i64]; constructor <;> omega⟩
      clear hC2 hzz hyy
      go_wp2
      refine ⟨⟨i + 1, rfl, by omega, by rw [HNT.out, HOR.out], trivial⟩, by simp [intOf]; omega⟩
    · have c1b : decide ((i : Int) < (wd : Int)) = false := decide_eq_false (by omega)
      have c1c : decide (i < wd) = false := decide_eq_false (by omega)
      have e9 : seg.take i = seg := List.take_of_length_le (by have := HSL.out; omega)
      rw [e9]
      have hz := num_small seg HSB.out (by have := HSL.out; omega)
      have HZ := Aside0.mk hz
      obtain ⟨z, hzz⟩ : ∃ z, z = numOf seg := ⟨_, rfl⟩
      rw [← hzz] at hz ⊢
      have HZZ := Aside0.mk hzz
      obtain ⟨hz0, hz1⟩ := hz
      clear e9 hi c1 hzz
      by_cases d4 : wd = 4
      · have d4b : ((wd : Int) == 4) = true := by rw [d4]; rfl
        have HV : Aside0 (opnd seg = IntKind.i32.wrap z) := ⟨by
          unfold opnd
          rw [if_pos (by rw [HSL.out, d4]), ← HZZ.out, IntKind.wrap_i32]
          split <;> omega⟩
        clear d4
        go_wp2
        · go_ret
          have h9 : c = wd := by assumption
          exact ⟨(show Ending.returned (.int .i64 (wrap64 (wrap32 z))) = _ by rw [HV.out, IntKind.wrap_i32]; unfold wrap64 wrap32; first | rfl | (congr 2; omega)), A, 0, by omega, by have h8 := HC2.out; rw [if_pos h9] at h8; exact h8, HM.out.set [] 0 _⟩
        · go_ret
          have h9 : ¬c = wd := by assumption
          exact ⟨(show Ending.returned (.int .i64 (wrap64 (wrap32 z))) = _ by rw [HV.out, IntKind.wrap_i32]; unfold wrap64 wrap32; first | rfl | (congr 2; omega)), Option.map (fun x => x.add wd) A, c - wd, by omega, by have h8 := HC2.out; rw [if_neg h9] at h8; exact h8, HM.out.set [] 0 _⟩
      · have d4b : ((wd : Int) == 4) = false := by rw [beq_eq_false_iff_ne]; omega
        have HV : Aside0 (opnd seg = z) := ⟨by
          unfold opnd
          rw [if_neg (by rw [HSL.out]; exact d4), ← HZZ.out]⟩
        clear d4
        go_wp2
        · go_ret
          have h9 : c = wd := by assumption
          exact ⟨(show Ending.returned (.int .i64 z) = _ by rw [HV.out]), A, 0, by omega, by have h8 := HC2.out; rw [if_pos h9] at h8; exact h8, HM.out.set [] 0 _⟩
        · go_ret
          have h9 : ¬c = wd := by assumption
          exact ⟨(show Ending.returned (.int .i64 z) = _ by rw [HV.out]), Option.map (fun x => x.add wd) A, c - wd, by omega, by have h8 := HC2.out; rw [if_neg h9] at h8; exact h8, HM.out.set [] 0 _⟩
theorem callFunc_run2 {f : Nat} {fn : Func} (hf : Try.prog.funcs[f]? = some fn) (hname : (fn.name == "runtime.NumGoroutine") = false) (hb : fn.body.isSome = true) (vs : Array Value) (w : World) : Sem.run Try.prog (callFunc f vs) w = .ok (.enter f vs) w := enters_ hf hname hb vs w
def decW (op : Int) : Int × Int := (code_widths.f 3 op).getD (0, 0)
theorem decW_is (op : Int) : code_widths.f 3 op = some ((decW op).1, (decW op).2) := by
  obtain ⟨a, b, h, _⟩ := widths_is 0 op
  rw [Nat.zero_add] at h
  unfold decW
  rw [h]
  rfl
theorem decW_range (op : Int) : 0 ≤ (decW op).1 ∧ (decW op).1 ≤ 4 ∧ 0 ≤ (decW op).2 ∧ (decW op).2 ≤ 1 := by
  obtain ⟨a, b, h, h1⟩ := widths_is 0 op
  rw [Nat.zero_add] at h
  unfold decW
  rw [h]
  exact h1
theorem szOf_is (op : Int) : szOf op = if op ≥ 34 then 0 else 1 + (decW op).1 + (decW op).2 := by
  have hr := decW_range op
  unfold szOf code_Size.f
  split
  · rfl
  · rw [decW_is op]
    show wrap64 (wrap64 (1 + (decW op).1) + (decW op).2) = _
    unfold wrap64; omega
def decL (l : List Int) (i : Nat) : Int × Int × Int × Int × Int :=
  if szOf (rd l (i : Int)) = 0 then (0, 0, 0, 0, 40)
  else if (l.length : Int) - (i : Int) < szOf (rd l (i : Int)) then (0, 0, 0, 0, 2)
  else if rd l (i : Int) = 2 ∧ opnd ((l.drop (i + 1)).take (decW (rd l (i : Int))).1.toNat) > 1 then (0, 0, 0, 0, 5)
  else ((i : Int), rd l (i : Int), opnd ((l.drop (i + 1)).take (decW (rd l (i : Int))).1.toNat), opnd (((l.drop (i + 1)).drop (decW (rd l (i : Int))).1.toNat).take (decW (rd l (i : Int))).2.toNat), 0)
def bytesOk (l : List Int) : Bool := l.all fun x => decide (0 ≤ x) && decide (x ≤ 255)
theorem bytesOk_is {l : List Int} (h : bytesOk l = true) : ∀ x ∈ l, 0 ≤ x ∧ x ≤ 255 := fun x hx => by
  have := List.all_eq_true.1 h x hx
  simpa using this
def code_Decode.f (l0 : List Int) (a1 : Int) : Option (Int × Int × Int × Int × Int) := if 0 ≤ a1 ∧ a1 < (l0.length : Int) ∧ bytesOk l0 = true then some (decL l0 a1.toNat) else none
set_option maxHeartbeats 3200000 in
set_option maxRecDepth 100000 in
theorem code_Decode.calls (A0 : Option Addr) (c0 : Nat) (l0 : List Int) (a1 : Int) (r1 : Int) (r2 : Int) (r3 : Int) (r4 : Int) (r5 : Int) (w : World) (hr0 : Kd.C (Kd.int .u8) w A0 l0.length l0) (hc0 : l0.length ≤ c0) (h : code_Decode.f l0 a1 = some (r1, r2, r3, r4, r5)) :
    Calls Try.prog 52 #[.slice A0 l0.length c0, .int .i64 a1] w fun e w' => e = .returned (.tuple #[.agg #[.int .i64 r1, .int .u8 r2, .int .i64 r3, .int .i64 r4], .int .i64 r5]) ∧ Below w.heap.size w w' := by
  have hmf : ∀ (fn : Fn) (first cap : Array Value) (w : World), (Instr.makeFunc fn first cap).run Try.prog w = .ok (.func fn first cap) w := fun _ _ _ _ => rfl
  have hcf := callFunc_run2 Try.func67 (by kernel_rfl) (by kernel_rfl)
  unfold code_Decode.f at h
  by_cases q : 0 ≤ a1 ∧ a1 < (l0.length : Int) ∧ bytesOk l0 = true
  case neg => rw [if_neg q] at h; cases h
  rw [if_pos q] at h
  obtain ⟨q0, q1, q2⟩ := q
  obtain ⟨i, rfl⟩ : ∃ i : Nat, a1 = (i : Int) := ⟨a1.toNat, by omega⟩
  rw [Int.toNat_natCast] at h
  have H := Aside0.mk (Option.some.inj h).symm
  have HR := Aside0.mk hr0
  have HC := Aside0.mk hc0
  have HBY := Aside0.mk (bytesOk_is q2)
  have hmax : l0.length ≤ 9223372036854775807 := hr0.2.1
  have hlt : i < l0.length := by omega
  have HLT := Aside0.mk hlt
  obtain ⟨ad, e1, hx⟩ := Kd.at_int hr0 (i : Int) q0 q1
  subst e1
  simp only [Int.toNat_natCast] at hx
  have HX := Aside0.mk hx
  have HM := Aside0.mk (Rws.nil w)
  have t0 : decide ((i : Int) < 0) = false := decide_eq_false (by omega)
  have t1 : decide ((i : Int) > (l0.length : Int)) = false := decide_eq_false (by omega)
  have t2 : decide ((l0.length : Int) < (i : Int)) = false := decide_eq_false (by omega)
  have t2b : decide (l0.length < i) = false := decide_eq_false (by omega)
  have t3 : ((i : Int) == (l0.length : Int)) = false := by rw [beq_eq_false_iff_ne]; omega
  have p5 : (0 ≤ (i : Int)) = True := eq_true (by omega)
  have p6 : ((i : Int) < (l0.length : Int)) = True := eq_true (by omega)
  have p7 : (i < l0.length) = True := eq_true hlt
  obtain ⟨op, hop⟩ : ∃ op, op = rd l0 (i : Int) := ⟨_, rfl⟩
  have HOP := Aside0.mk hop
  have H : Aside0 ((r1, r2, r3, r4, r5) = if szOf op = 0 then (0, 0, 0, 0, 40) else if (l0.length : Int) - (i : Int) < szOf op then (0, 0, 0, 0, 2) else if op = 2 ∧ opnd ((l0.drop (i + 1)).take (decW op).1.toNat) > 1 then (0, 0, 0, 0, 5) else ((i : Int), op, opnd ((l0.drop (i + 1)).take (decW op).1.toNat), opnd (((l0.drop (i + 1)).drop (decW op).1.toNat).take (decW op).2.toNat), 0)) := ⟨by rw [H.out, HOP.out]; rfl⟩
  have HX : Aside0 (w.cell? (ad.add i) = some (.int .u8 op)) := ⟨by rw [HX.out, HOP.out]⟩
  clear h hr0 hc0 hx q0 q1 q2 hop
  go_enter Try.func52, Try.ntmps52
  go_wp2_with (first | ((with_reducible refine gate_dst (N := 4) rfl ?_); refine rw_alloc rfl 46 rfl (cs := #[.int .i64 0, .int .u8 0, .int .i64 0, .int .i64 0]) (by kernel_rfl) HM.out ?_; intro b4 w_ hg9 hM hb9; clear hg9 hb9; replace HM := Aside0.mk hM; clear hM ) | ((with_reducible refine gate_dst (N := 6) rfl ?_); refine rw_alloc rfl 46 rfl (cs := #[.int .i64 0, .int .u8 0, .int .i64 0, .int .i64 0]) (by kernel_rfl) HM.out ?_; intro b6 w_ hg9 hM hb9; clear hg9 hb9; have hx := (pw_cell_below hM.below HX.out); replace HM := Aside0.mk hM; clear hM ) | (refine rw_store rfl 46 rfl rfl (cs' := #[.int .i64 0, .int .u8 0, .int .i64 0, .int .i64 0]) rfl [] HM.out (by kernel_rfl) rfl (by show _ = _; kernel_rfl) ?_; intro w_ hM hb9; clear hb9; (try simp only [List.nil_append, List.cons_append] at hM); have hx := (pw_cell_below hM.below HX.out); replace HM := Aside0.mk hM; clear hM ))
  refine (code_Size.calls 3 op (szOf op) _ (size_is 0 op)).mono ?_
  rintro e w_ ⟨rfl, hd⟩
  replace HM := Aside0.mk (HM.out.step hd.below)
  clear hd hx
  by_cases s0 : szOf op = 0
  · have s0b : (szOf op == 0) = true := by rw [s0]; rfl
    have HV : Aside0 ((r1, r2, r3, r4, r5) = ((0 : Int), (0 : Int), (0 : Int), (0 : Int), (40 : Int))) := ⟨by rw [H.out, if_pos s0]⟩
    clear s0
    go_wp2_with (first | (refine rw_load rfl 46 rfl rfl HM.out (by first | exact List.mem_cons_self | exact (List.mem_cons_of_mem _ List.mem_cons_self) | exact (List.mem_cons_of_mem _ (List.mem_cons_of_mem _ List.mem_cons_self)) | exact (List.mem_cons_of_mem _ (List.mem_cons_of_mem _ (List.mem_cons_of_mem _ List.mem_cons_self)))) _ Try.underlying46 rfl (by kernel_rfl) ?_) | ((first | (refine rw_store rfl 46 rfl rfl (cs' := #[.int .i64 0, .int .u8 0, .int .i64 0, .int .i64 0]) rfl [_] HM.out (by kernel_rfl) rfl (by show _ = _; kernel_rfl) ?_) | (refine rw_store rfl 46 rfl rfl (cs' := #[.int .i64 0, .int .u8 0, .int .i64 0, .int .i64 0]) rfl [_, _, _] HM.out (by kernel_rfl) rfl (by show _ = _; kernel_rfl) ?_)); intro w_ hM hb9; clear hb9; (try simp only [List.nil_append, List.cons_append] at hM); replace HM := Aside0.mk hM; clear hM))
    refine bodyPost_ret (results_ct rfl _ _ b4 46 #[.int .i64 0, .int .u8 0, .int .i64 0, .int .i64 0] (0, 0) _ rfl (HM.out.mem (List.mem_cons_of_mem _ List.mem_cons_self)) Try.underlying46 rfl (by kernel_rfl)) rfl ⟨?_, HM.out.below⟩
    have e9 := HV.out
    simp only [Prod.mk.injEq] at e9
    obtain ⟨rfl, rfl, rfl, rfl, rfl⟩ := e9
    rfl
  · have s0b : (szOf op == 0) = false := by rw [beq_eq_false_iff_ne]; exact s0
    have H : Aside0 ((r1, r2, r3, r4, r5) = if (l0.length : Int) - (i : Int) < szOf op then (0, 0, 0, 0, 2) else if op = 2 ∧ opnd ((l0.drop (i + 1)).take (decW op).1.toNat) > 1 then (0, 0, 0, 0, 5) else ((i : Int), op, opnd ((l0.drop (i + 1)).take (decW op).1.toNat), opnd (((l0.drop (i + 1)).drop (decW op).1.toNat).take (decW op).2.toNat), 0)) := ⟨by rw [H.out, if_neg s0]⟩
    have HS0 := Aside0.mk s0
    clear s0
    have hx := pw_cell_below HM.out.below HX.out
    go_wp2_with fail
    refine (code_Size.calls 3 op (szOf op) _ (size_is 0 op)).mono ?_
    rintro e w_ ⟨rfl, hd⟩
    replace HM := Aside0.mk (HM.out.step hd.below)
    clear hd hx
    by_cases s1 : (l0.length : Int) - (i : Int) < szOf op
    · have s1b : decide ((l0.length : Int) - (i : Int) < szOf op) = true := decide_eq_true s1
      have HV : Aside0 ((r1, r2, r3, r4, r5) = ((0 : Int), (0 : Int), (0 : Int), (0 : Int), (2 : Int))) := ⟨by rw [H.out, if_pos s1]⟩
      clear s1
      go_wp2_with (first | (refine rw_load rfl 46 rfl rfl HM.out (by first | exact List.mem_cons_self | exact (List.mem_cons_of_mem _ List.mem_cons_self) | exact (List.mem_cons_of_mem _ (List.mem_cons_of_mem _ List.mem_cons_self)) | exact (List.mem_cons_of_mem _ (List.mem_cons_of_mem _ (List.mem_cons_of_mem _ List.mem_cons_self)))) _ Try.underlying46 rfl (by kernel_rfl) ?_) | ((first | (refine rw_store rfl 46 rfl rfl (cs' := #[.int .i64 0, .int .u8 0, .int .i64 0, .int .i64 0]) rfl [_] HM.out (by kernel_rfl) rfl (by show _ = _; kernel_rfl) ?_) | (refine rw_store rfl 46 rfl rfl (cs' := #[.int .i64 0, .int .u8 0, .int .i64 0, .int .i64 0]) rfl [_, _, _] HM.out (by kernel_rfl) rfl (by show _ = _; kernel_rfl) ?_)); intro w_ hM hb9; clear hb9; (try simp only [List.nil_append, List.cons_append] at hM); replace HM := Aside0.mk hM; clear hM))
      refine bodyPost_ret (results_ct rfl _ _ b4 46 #[.int .i64 0, .int .u8 0, .int .i64 0, .int .i64 0] (0, 0) _ rfl (HM.out.mem (List.mem_cons_of_mem _ List.mem_cons_self)) Try.underlying46 rfl (by kernel_rfl)) rfl ⟨?_, HM.out.below⟩
      have e9 := HV.out
      simp only [Prod.mk.injEq] at e9
      obtain ⟨rfl, rfl, rfl, rfl, rfl⟩ := e9
      rfl
    · have s1b : decide ((l0.length : Int) - (i : Int) < szOf op) = false := decide_eq_false s1
      have H : Aside0 ((r1, r2, r3, r4, r5) = if op = 2 ∧ opnd ((l0.drop (i + 1)).take (decW op).1.toNat) > 1 then (0, 0, 0, 0, 5) else ((i : Int), op, opnd ((l0.drop (i + 1)).take (decW op).1.toNat), opnd (((l0.drop (i + 1)).drop (decW op).1.toNat).take (decW op).2.toNat), 0)) := ⟨by rw [H.out, if_neg s1]⟩
      have HS1 := Aside0.mk s1
      clear s1
      obtain ⟨hw0, hw1, hw2, hw3⟩ := decW_range op
      have hsz := szOf_is op
      obtain ⟨wa, hwa⟩ : ∃ wa : Nat, (decW op).1 = (wa : Int) := ⟨(decW op).1.toNat, by omega⟩
      obtain ⟨wb, hwb⟩ : ∃ wb : Nat, (decW op).2 = (wb : Int) := ⟨(decW op).2.toNat, by omega⟩
      have hdw := decW_is op
      have hlen2 : wa ≤ 4 ∧ wb ≤ 1 ∧ wa + wb + i + 1 ≤ l0.length := by
        have h1 := HS0.out
        have h2 := HS1.out
        have h3 := HLT.out
        rw [hsz] at h1 h2
        split at h1
        · exact absurd rfl h1
        · rename_i h4
          rw [if_neg h4] at h2
          omega
      have H : Aside0 ((r1, r2, r3, r4, r5) = if op = 2 ∧ opnd ((l0.drop (i + 1)).take wa) > 1 then (0, 0, 0, 0, 5) else ((i : Int), op, opnd ((l0.drop (i + 1)).take wa), opnd (((l0.drop (i + 1)).drop wa).take wb), 0)) := ⟨by rw [H.out, hwa, hwb, Int.toNat_natCast, Int.toNat_natCast]⟩
      rw [hwa, hwb] at hdw
      have HDW := Aside0.mk hdw
      have HL2 := Aside0.mk hlen2
      clear hw0 hw1 hw2 hw3 hsz hwa hwb hdw hlen2
      have hx := pw_cell_below HM.out.below HX.out
      by_cases hcw : c0 = i + 1
      · have p9 : (c0 = i + 1) = True := eq_true hcw
        have hC := Kd.C_drop HR.out (m := i + 1) (c := c0) (by have := HLT.out; omega) HC.out
        rw [show (Kd.int .u8).sz = 1 from rfl, Nat.mul_one, if_pos hcw] at hC
        obtain ⟨rs, hrs⟩ : ∃ rs, rs = l0.drop (i + 1) := ⟨_, rfl⟩
        have hrl : rs.length = l0.length - (i + 1) := by rw [hrs, List.length_drop]
        rw [← hrs] at hC
        have HC8 : Aside0 (Kd.C (Kd.int .u8) w (some ad) rs.length rs) := ⟨hC⟩
        have HBR : Aside0 (∀ x ∈ rs, 0 ≤ x ∧ x ≤ 255) := ⟨fun x hx => HBY.out x (by rw [hrs] at hx; exact List.mem_of_mem_drop hx)⟩
        have HRS := Aside0.mk hrs
        have HRL := Aside0.mk hrl
        have p10 : (i + 1 ≤ c0) = True := eq_true (by have := HLT.out; have := HC.out; omega)
        have p11 : ((i : Int) + 1 ≤ (c0 : Int)) = True := eq_true (by have := HLT.out; have := HC.out; omega)
        have p12 : (i + 1 ≤ l0.length) = True := eq_true (by have := HLT.out; omega)
        have p13 : ((i : Int) + 1 ≤ (l0.length : Int)) = True := eq_true (by have := HLT.out; omega)
        have p14 : (0 ≤ (i : Int) + 1) = True := eq_true (by omega)
        have p15 : ((i : Int) + 1).toNat = i + 1 := by omega
        clear hC hrs hrl hcw
        go_wp2_with (first | ((with_reducible refine gate_dst (N := 7) rfl ?_); refine rw_alloc rfl 46 rfl (cs := #[.int .i64 0, .int .u8 0, .int .i64 0, .int .i64 0]) (by kernel_rfl) HM.out ?_; intro b7 w_ hg9 hM hb9; clear hg9 hb9 hx; have hx := (pw_cell_below hM.below HX.out); replace HM := Aside0.mk hM; clear hM) | (refine rw_store rfl 46 rfl rfl (cs' := #[.int .i64 (i : Int), .int .u8 op, .int .i64 0, .int .i64 0]) rfl [] HM.out (by kernel_rfl) rfl (by show _ = _; kernel_rfl) ?_; intro w_ hM hb9; clear hb9; (try simp only [List.nil_append, List.cons_append] at hM); replace HM := Aside0.mk hM; clear hM) | ((with_reducible refine gate_dst (N := 8) rfl ?_); refine rw_alloc1 rfl 22 rfl (z := .slice none 0 0) (by kernel_rfl) rfl HM.out ?_; intro b8 w_ hg9 hM hb9; clear hg9 hb9; replace HM := Aside0.mk hM; clear hM) | (refine rw_cell rfl 22 rfl (i := 0) rfl rfl rfl [] HM.out (by show (_ : Nat) < 1; decide) (by kernel_rfl) ?_; intro w_ hM hb9; clear hb9; (try simp only [List.nil_append, List.cons_append] at hM); have g1 := blk_cell (hM.mem (List.mem_cons_of_mem _ List.mem_cons_self)) 1; replace HM := Aside0.mk hM; clear hM hx))
        replace HM : Aside0 (Rws w [(b8, 22, #[.slice (some ad) rs.length (c0 - (i + 1))]), (b7, 46, #[.int .i64 (i : Int), .int .u8 op, .int .i64 0, .int .i64 0]), (b6, 46, #[.int .i64 0, .int .u8 0, .int .i64 0, .int .i64 0]), (b4, 46, #[.int .i64 0, .int .u8 0, .int .i64 0, .int .i64 0])] _) := ⟨by have h9 := HM.out; rw [HRL.out]; exact h9⟩
        refine (code_widths.calls 3 op (wa : Int) (wb : Int) _ HDW.out).mono ?_
        rintro e w_ ⟨rfl, hd⟩
        replace HM := Aside0.mk (HM.out.step hd.below)
        clear hd g1
        have HL3 : Aside0 (wa ≤ rs.length ∧ wb ≤ (rs.drop wa).length ∧ rs.length ≤ c0 - (i + 1)) := ⟨by have h1 := HL2.out; have h2 := HRL.out; have h3 := HC.out; rw [List.length_drop]; omega⟩
        go_wp2_with fail
        refine (take_calls w (some ad) 0 (c0 - (i + 1)) rs wa b8 _ _ HBR.out HL2.out.1 HL3.out.1 HL3.out.2.2 HC8.out HM.out).mono ?_
        rintro e w_ ⟨A9, c9, rfl, hc9, hC9, hM9⟩
        replace HM := Aside0.mk hM9
        have HC9 := Aside0.mk hC9
        have HCC9 := Aside0.mk hc9
        clear hM9 hC9 hc9
        obtain ⟨v1, hv1⟩ : ∃ v1, v1 = opnd (rs.take wa) := ⟨_, rfl⟩
        rw [← hv1]
        have HV1 := Aside0.mk hv1
        clear hv1
        go_wp2_with (first | (refine rw_cell rfl 3 rfl (i := 2) rfl rfl rfl [_] HM.out (by show (_ : Nat) < 4; decide) (by kernel_rfl) ?_; intro w_ hM hb9; clear hb9; replace HM : Aside0 (Rws w [(b8, 22, #[.slice A9 (rs.drop wa).length c9]), (b7, 46, #[.int .i64 (i : Int), .int .u8 op, .int .i64 v1, .int .i64 0]), (b6, 46, #[.int .i64 0, .int .u8 0, .int .i64 0, .int .i64 0]), (b4, 46, #[.int .i64 0, .int .u8 0, .int .i64 0, .int .i64 0])] w_) := ⟨hM⟩; clear hM))
        refine (take_calls w A9 0 c9 (rs.drop wa) wb b8 _ _ (fun x hx => HBR.out x (List.mem_of_mem_drop hx)) (by have := HL2.out; omega) HL3.out.2.1 HCC9.out HC9.out HM.out).mono ?_
        rintro e w_ ⟨A7, c7, rfl, hc7, hC7, hM7⟩
        replace HM := Aside0.mk hM7
        clear hM7 hC7 hc7
        obtain ⟨v2, hv2⟩ : ∃ v2, v2 = opnd ((rs.drop wa).take wb) := ⟨_, rfl⟩
        rw [← hv2]
        have HV2 := Aside0.mk hv2
        clear hv2
        have H : Aside0 ((r1, r2, r3, r4, r5) = if op = 2 ∧ v1 > 1 then (0, 0, 0, 0, 5) else ((i : Int), op, v1, v2, 0)) := ⟨by rw [H.out, ← HRS.out, ← HV1.out, ← HV2.out]⟩
        by_cases q2 : op = 2
        · have q2b : (op == 2) = true := by rw [q2]; rfl
          by_cases q3 : v1 > 1
          · have q3b : decide (v1 > 1) = true := decide_eq_true q3
            have q3c : decide (1 < v1) = true := decide_eq_true q3
            have HV : Aside0 ((r1, r2, r3, r4, r5) = ((0 : Int), (0 : Int), (0 : Int), (0 : Int), (5 : Int))) := ⟨by rw [H.out, if_pos ⟨q2, q3⟩]⟩
            clear q2 q3
            go_wp2_with (first | (refine rw_load rfl 46 rfl rfl HM.out (by first | exact List.mem_cons_self | exact (List.mem_cons_of_mem _ List.mem_cons_self) | exact (List.mem_cons_of_mem _ (List.mem_cons_of_mem _ List.mem_cons_self)) | exact (List.mem_cons_of_mem _ (List.mem_cons_of_mem _ (List.mem_cons_of_mem _ List.mem_cons_self)))) _ Try.underlying46 rfl (by kernel_rfl) ?_) | (refine rw_cell rfl 3 rfl (i := 3) rfl rfl rfl [_] HM.out (by show (_ : Nat) < 4; decide) (by kernel_rfl) ?_; intro w_ hM hb9; clear hb9; replace HM : Aside0 (Rws w [(b8, 22, #[.slice A7 ((rs.drop wa).drop wb).length c7]), (b7, 46, #[.int .i64 (i : Int), .int .u8 op, .int .i64 v1, .int .i64 v2]), (b6, 46, #[.int .i64 0, .int .u8 0, .int .i64 0, .int .i64 0]), (b4, 46, #[.int .i64 0, .int .u8 0, .int .i64 0, .int .i64 0])] w_) := ⟨hM⟩; have g1 := blk_cell (hM.mem (List.mem_cons_of_mem _ List.mem_cons_self)) 1; have g2 := blk_cell (hM.mem (List.mem_cons_of_mem _ List.mem_cons_self)) 2; clear hM) | (refine rw_store rfl 46 rfl rfl (cs' := #[.int .i64 0, .int .u8 0, .int .i64 0, .int .i64 0]) rfl [_, _, _] HM.out (by kernel_rfl) rfl (by show _ = _; kernel_rfl) ?_; intro w_ hM hb9; clear hb9; (try simp only [List.nil_append, List.cons_append] at hM); replace HM := Aside0.mk hM; clear hM))
            refine bodyPost_ret (results_ct rfl _ _ b4 46 #[.int .i64 0, .int .u8 0, .int .i64 0, .int .i64 0] (0, 0) _ rfl (HM.out.mem (List.mem_cons_of_mem _ (List.mem_cons_of_mem _ (List.mem_cons_of_mem _ List.mem_cons_self)))) Try.underlying46 rfl (by kernel_rfl)) rfl ⟨?_, HM.out.below⟩
            have e9 := HV.out
            simp only [Prod.mk.injEq] at e9
            obtain ⟨rfl, rfl, rfl, rfl, rfl⟩ := e9
            rfl
          · have q3b : decide (v1 > 1) = false := decide_eq_false q3
            have q3c : decide (1 < v1) = false := decide_eq_false q3
            have HV : Aside0 ((r1, r2, r3, r4, r5) = ((i : Int), op, v1, v2, 0)) := ⟨by rw [H.out, if_neg (fun h => q3 h.2)]⟩
            clear q2 q3
            go_wp2_with (first | (refine rw_load rfl 46 rfl rfl HM.out (by first | exact List.mem_cons_self | exact (List.mem_cons_of_mem _ List.mem_cons_self) | exact (List.mem_cons_of_mem _ (List.mem_cons_of_mem _ List.mem_cons_self)) | exact (List.mem_cons_of_mem _ (List.mem_cons_of_mem _ (List.mem_cons_of_mem _ List.mem_cons_self)))) _ Try.underlying46 rfl (by kernel_rfl) ?_) | (refine rw_cell rfl 3 rfl (i := 3) rfl rfl rfl [_] HM.out (by show (_ : Nat) < 4; decide) (by kernel_rfl) ?_; intro w_ hM hb9; clear hb9; replace HM : Aside0 (Rws w [(b8, 22, #[.slice A7 ((rs.drop wa).drop wb).length c7]), (b7, 46, #[.int .i64 (i : Int), .int .u8 op, .int .i64 v1, .int .i64 v2]), (b6, 46, #[.int .i64 0, .int .u8 0, .int .i64 0, .int .i64 0]), (b4, 46, #[.int .i64 0, .int .u8 0, .int .i64 0, .int .i64 0])] w_) := ⟨hM⟩; have g1 := blk_cell (hM.mem (List.mem_cons_of_mem _ List.mem_cons_self)) 1; have g2 := blk_cell (hM.mem (List.mem_cons_of_mem _ List.mem_cons_self)) 2; clear hM) | (refine rw_store rfl 46 rfl rfl (cs' := #[.int .i64 (i : Int), .int .u8 op, .int .i64 v1, .int .i64 v2]) rfl [_, _, _] HM.out (by kernel_rfl) rfl (by show _ = _; kernel_rfl) ?_; intro w_ hM hb9; clear hb9; (try simp only [List.nil_append, List.cons_append] at hM); replace HM := Aside0.mk hM; clear hM))
            refine bodyPost_ret (results_ct rfl _ _ b4 46 #[.int .i64 (i : Int), .int .u8 op, .int .i64 v1, .int .i64 v2] (0, 0) _ rfl (HM.out.mem (List.mem_cons_of_mem _ (List.mem_cons_of_mem _ (List.mem_cons_of_mem _ List.mem_cons_self)))) Try.underlying46 rfl (by kernel_rfl)) rfl ⟨?_, HM.out.below⟩
            have e9 := HV.out
            simp only [Prod.mk.injEq] at e9
            obtain ⟨rfl, rfl, rfl, rfl, rfl⟩ := e9
            rfl
        · have q2b : (op == 2) = false := by rw [beq_eq_false_iff_ne]; exact q2
          have HV : Aside0 ((r1, r2, r3, r4, r5) = ((i : Int), op, v1, v2, 0)) := ⟨by rw [H.out, if_neg (fun h => q2 h.1)]⟩
          clear q2
          go_wp2_with (first | (refine rw_load rfl 46 rfl rfl HM.out (by first | exact List.mem_cons_self | exact (List.mem_cons_of_mem _ List.mem_cons_self) | exact (List.mem_cons_of_mem _ (List.mem_cons_of_mem _ List.mem_cons_self)) | exact (List.mem_cons_of_mem _ (List.mem_cons_of_mem _ (List.mem_cons_of_mem _ List.mem_cons_self)))) _ Try.underlying46 rfl (by kernel_rfl) ?_) | (refine rw_cell rfl 3 rfl (i := 3) rfl rfl rfl [_] HM.out (by show (_ : Nat) < 4; decide) (by kernel_rfl) ?_; intro w_ hM hb9; clear hb9; replace HM : Aside0 (Rws w [(b8, 22, #[.slice A7 ((rs.drop wa).drop wb).length c7]), (b7, 46, #[.int .i64 (i : Int), .int .u8 op, .int .i64 v1, .int .i64 v2]), (b6, 46, #[.int .i64 0, .int .u8 0, .int .i64 0, .int .i64 0]), (b4, 46, #[.int .i64 0, .int .u8 0, .int .i64 0, .int .i64 0])] w_) := ⟨hM⟩; have g1 := blk_cell (hM.mem (List.mem_cons_of_mem _ List.mem_cons_self)) 1; have g2 := blk_cell (hM.mem (List.mem_cons_of_mem _ List.mem_cons_self)) 2; clear hM) | (refine rw_store rfl 46 rfl rfl (cs' := #[.int .i64 (i : Int), .int .u8 op, .int .i64 v1, .int .i64 v2]) rfl [_, _, _] HM.out (by kernel_rfl) rfl (by show _ = _; kernel_rfl) ?_; intro w_ hM hb9; clear hb9; (try simp only [List.nil_append, List.cons_append] at hM); replace HM := Aside0.mk hM; clear hM))
          refine bodyPost_ret (results_ct rfl _ _ b4 46 #[.int .i64 (i : Int), .int .u8 op, .int .i64 v1, .int .i64 v2] (0, 0) _ rfl (HM.out.mem (List.mem_cons_of_mem _ (List.mem_cons_of_mem _ (List.mem_cons_of_mem _ List.mem_cons_self)))) Try.underlying46 rfl (by kernel_rfl)) rfl ⟨?_, HM.out.below⟩
          have e9 := HV.out
          simp only [Prod.mk.injEq] at e9
          obtain ⟨rfl, rfl, rfl, rfl, rfl⟩ := e9
          rfl
      · have p9 : (c0 = i + 1) = False := eq_false hcw
        have hC := Kd.C_drop HR.out (m := i + 1) (c := c0) (by have := HLT.out; omega) HC.out
        rw [show (Kd.int .u8).sz = 1 from rfl, Nat.mul_one, if_neg hcw] at hC
        obtain ⟨rs, hrs⟩ : ∃ rs, rs = l0.drop (i + 1) := ⟨_, rfl⟩
        have hrl : rs.length = l0.length - (i + 1) := by rw [hrs, List.length_drop]
        rw [← hrs] at hC
        have HC8 : Aside0 (Kd.C (Kd.int .u8) w (some (ad.add (i + 1))) rs.length rs) := ⟨hC⟩
        have HBR : Aside0 (∀ x ∈ rs, 0 ≤ x ∧ x ≤ 255) := ⟨fun x hx => HBY.out x (by rw [hrs] at hx; exact List.mem_of_mem_drop hx)⟩
        have HRS := Aside0.mk hrs
        have HRL := Aside0.mk hrl
        have p10 : (i + 1 ≤ c0) = True := eq_true (by have := HLT.out; have := HC.out; omega)
        have p11 : ((i : Int) + 1 ≤ (c0 : Int)) = True := eq_true (by have := HLT.out; have := HC.out; omega)
        have p12 : (i + 1 ≤ l0.length) = True := eq_true (by have := HLT.out; omega)
        have p13 : ((i : Int) + 1 ≤ (l0.length : Int)) = True := eq_true (by have := HLT.out; omega)
        have p14 : (0 ≤ (i : Int) + 1) = True := eq_true (by omega)
        have p15 : ((i : Int) + 1).toNat = i + 1 := by omega
        clear hC hrs hrl hcw
        go_wp2_with (first | ((with_reducible refine gate_dst (N := 7) rfl ?_); refine rw_alloc rfl 46 rfl (cs := #[.int .i64 0, .int .u8 0, .int .i64 0, .int .i64 0]) (by kernel_rfl) HM.out ?_; intro b7 w_ hg9 hM hb9; clear hg9 hb9 hx; have hx := (pw_cell_below hM.below HX.out); replace HM := Aside0.mk hM; clear hM) | (refine rw_store rfl 46 rfl rfl (cs' := #[.int .i64 (i : Int), .int .u8 op, .int .i64 0, .int .i64 0]) rfl [] HM.out (by kernel_rfl) rfl (by show _ = _; kernel_rfl) ?_; intro w_ hM hb9; clear hb9; (try simp only [List.nil_append, List.cons_append] at hM); replace HM := Aside0.mk hM; clear hM) | ((with_reducible refine gate_dst (N := 8) rfl ?_); refine rw_alloc1 rfl 22 rfl (z := .slice none 0 0) (by kernel_rfl) rfl HM.out ?_; intro b8 w_ hg9 hM hb9; clear hg9 hb9; replace HM := Aside0.mk hM; clear hM) | (refine rw_cell rfl 22 rfl (i := 0) rfl rfl rfl [] HM.out (by show (_ : Nat) < 1; decide) (by kernel_rfl) ?_; intro w_ hM hb9; clear hb9; (try simp only [List.nil_append, List.cons_append] at hM); have g1 := blk_cell (hM.mem (List.mem_cons_of_mem _ List.mem_cons_self)) 1; replace HM := Aside0.mk hM; clear hM hx))
        replace HM : Aside0 (Rws w [(b8, 22, #[.slice (some (ad.add (i + 1))) rs.length (c0 - (i + 1))]), (b7, 46, #[.int .i64 (i : Int), .int .u8 op, .int .i64 0, .int .i64 0]), (b6, 46, #[.int .i64 0, .int .u8 0, .int .i64 0, .int .i64 0]), (b4, 46, #[.int .i64 0, .int .u8 0, .int .i64 0, .int .i64 0])] _) := ⟨by have h9 := HM.out; rw [HRL.out]; exact h9⟩
        refine (code_widths.calls 3 op (wa : Int) (wb : Int) _ HDW.out).mono ?_
        rintro e w_ ⟨rfl, hd⟩
        replace HM := Aside0.mk (HM.out.step hd.below)
        clear hd g1
        have HL3 : Aside0 (wa ≤ rs.length ∧ wb ≤ (rs.drop wa).length ∧ rs.length ≤ c0 - (i + 1)) := ⟨by have h1 := HL2.out; have h2 := HRL.out; have h3 := HC.out; rw [List.length_drop]; omega⟩
        go_wp2_with fail
        refine (take_calls w (some (ad.add (i + 1))) 0 (c0 - (i + 1)) rs wa b8 _ _ HBR.out HL2.out.1 HL3.out.1 HL3.out.2.2 HC8.out HM.out).mono ?_
        rintro e w_ ⟨A9, c9, rfl, hc9, hC9, hM9⟩
        replace HM := Aside0.mk hM9
        have HC9 := Aside0.mk hC9
        have HCC9 := Aside0.mk hc9
        clear hM9 hC9 hc9
        obtain ⟨v1, hv1⟩ : ∃ v1, v1 = opnd (rs.take wa) := ⟨_, rfl⟩
        rw [← hv1]
        have HV1 := Aside0.mk hv1
        clear hv1
        go_wp2_with (first | (refine rw_cell rfl 3 rfl (i := 2) rfl rfl rfl [_] HM.out (by show (_ : Nat) < 4; decide) (by kernel_rfl) ?_; intro w_ hM hb9; clear hb9; replace HM : Aside0 (Rws w [(b8, 22, #[.slice A9 (rs.drop wa).length c9]), (b7, 46, #[.int .i64 (i : Int), .int .u8 op, .int .i64 v1, .int .i64 0]), (b6, 46, #[.int .i64 0, .int .u8 0, .int .i64 0, .int .i64 0]), (b4, 46, #[.int .i64 0, .int .u8 0, .int .i64 0, .int .i64 0])] w_) := ⟨hM⟩; clear hM))
        refine (take_calls w A9 0 c9 (rs.drop wa) wb b8 _ _ (fun x hx => HBR.out x (List.mem_of_mem_drop hx)) (by have := HL2.out; omega) HL3.out.2.1 HCC9.out HC9.out HM.out).mono ?_
        rintro e w_ ⟨A7, c7, rfl, hc7, hC7, hM7⟩
        replace HM := Aside0.mk hM7
        clear hM7 hC7 hc7
        obtain ⟨v2, hv2⟩ : ∃ v2, v2 = opnd ((rs.drop wa).take wb) := ⟨_, rfl⟩
        rw [← hv2]
        have HV2 := Aside0.mk hv2
        clear hv2
        have H : Aside0 ((r1, r2, r3, r4, r5) = if op = 2 ∧ v1 > 1 then (0, 0, 0, 0, 5) else ((i : Int), op, v1, v2, 0)) := ⟨by rw [H.out, ← HRS.out, ← HV1.out, ← HV2.out]⟩
        by_cases q2 : op = 2
        · have q2b : (op == 2) = true := by rw [q2]; rfl
          by_cases q3 : v1 > 1
          · have q3b : decide (v1 > 1) = true := decide_eq_true q3
            have q3c : decide (1 < v1) = true := decide_eq_true q3
            have HV : Aside0 ((r1, r2, r3, r4, r5) = ((0 : Int), (0 : Int), (0 : Int), (0 : Int), (5 : Int))) := ⟨by rw [H.out, if_pos ⟨q2, q3⟩]⟩
            clear q2 q3
            go_wp2_with (first | (refine rw_load rfl 46 rfl rfl HM.out (by first | exact List.mem_cons_self | exact (List.mem_cons_of_mem _ List.mem_cons_self) | exact (List.mem_cons_of_mem _ (List.mem_cons_of_mem _ List.mem_cons_self)) | exact (List.mem_cons_of_mem _ (List.mem_cons_of_mem _ (List.mem_cons_of_mem _ List.mem_cons_self)))) _ Try.underlying46 rfl (by kernel_rfl) ?_) | (refine rw_cell rfl 3 rfl (i := 3) rfl rfl rfl [_] HM.out (by show (_ : Nat) < 4; decide) (by kernel_rfl) ?_; intro w_ hM hb9; clear hb9; replace HM : Aside0 (Rws w [(b8, 22, #[.slice A7 ((rs.drop wa).drop wb).length c7]), (b7, 46, #[.int .i64 (i : Int), .int .u8 op, .int .i64 v1, .int .i64 v2]), (b6, 46, #[.int .i64 0, .int .u8 0, .int .i64 0, .int .i64 0]), (b4, 46, #[.int .i64 0, .int .u8 0, .int .i64 0, .int .i64 0])] w_) := ⟨hM⟩; have g1 := blk_cell (hM.mem (List.mem_cons_of_mem _ List.mem_cons_self)) 1; have g2 := blk_cell (hM.mem (List.mem_cons_of_mem _ List.mem_cons_self)) 2; clear hM) | (refine rw_store rfl 46 rfl rfl (cs' := #[.int .i64 0, .int .u8 0, .int .i64 0, .int .i64 0]) rfl [_, _, _] HM.out (by kernel_rfl) rfl (by show _ = _; kernel_rfl) ?_; intro w_ hM hb9; clear hb9; (try simp only [List.nil_append, List.cons_append] at hM); replace HM := Aside0.mk hM; clear hM))
            refine bodyPost_ret (results_ct rfl _ _ b4 46 #[.int .i64 0, .int .u8 0, .int .i64 0, .int .i64 0] (0, 0) _ rfl (HM.out.mem (List.mem_cons_of_mem _ (List.mem_cons_of_mem _ (List.mem_cons_of_mem _ List.mem_cons_self)))) Try.underlying46 rfl (by kernel_rfl)) rfl ⟨?_, HM.out.below⟩
            have e9 := HV.out
            simp only [Prod.mk.injEq] at e9
            obtain ⟨rfl, rfl, rfl, rfl, rfl⟩ := e9
            rfl
          · have q3b : decide (v1 > 1) = false := decide_eq_false q3
            have q3c : decide (1 < v1) = false := decide_eq_false q3
            have HV : Aside0 ((r1, r2, r3, r4, r5) = ((i : Int), op, v1, v2, 0)) := ⟨by rw [H.out, if_neg (fun h => q3 h.2)]⟩
            clear q2 q3
            go_wp2_with (first | (refine rw_load rfl 46 rfl rfl HM.out (by first | exact List.mem_cons_self | exact (List.mem_cons_of_mem _ List.mem_cons_self) | exact (List.mem_cons_of_mem _ (List.mem_cons_of_mem _ List.mem_cons_self)) | exact (List.mem_cons_of_mem _ (List.mem_cons_of_mem _ (List.mem_cons_of_mem _ List.mem_cons_self)))) _ Try.underlying46 rfl (by kernel_rfl) ?_) | (refine rw_cell rfl 3 rfl (i := 3) rfl rfl rfl [_] HM.out (by show (_ : Nat) < 4; decide) (by kernel_rfl) ?_; intro w_ hM hb9; clear hb9; replace HM : Aside0 (Rws w [(b8, 22, #[.slice A7 ((rs.drop wa).drop wb).length c7]), (b7, 46, #[.int .i64 (i : Int), .int .u8 op, .int .i64 v1, .int .i64 v2]), (b6, 46, #[.int .i64 0, .int .u8 0, .int .i64 0, .int .i64 0]), (b4, 46, #[.int .i64 0, .int .u8 0, .int .i64 0, .int .i64 0])] w_) := ⟨hM⟩; have g1 := blk_cell (hM.mem (List.mem_cons_of_mem _ List.mem_cons_self)) 1; have g2 := blk_cell (hM.mem (List.mem_cons_of_mem _ List.mem_cons_self)) 2; clear hM) | (refine rw_store rfl 46 rfl rfl (cs' := #[.int .i64 (i : Int), .int .u8 op, .int .i64 v1, .int .i64 v2]) rfl [_, _, _] HM.out (by kernel_rfl) rfl (by show _ = _; kernel_rfl) ?_; intro w_ hM hb9; clear hb9; (try simp only [List.nil_append, List.cons_append] at hM); replace HM := Aside0.mk hM; clear hM))
            refine bodyPost_ret (results_ct rfl _ _ b4 46 #[.int .i64 (i : Int), .int .u8 op, .int .i64 v1, .int .i64 v2] (0, 0) _ rfl (HM.out.mem (List.mem_cons_of_mem _ (List.mem_cons_of_mem _ (List.mem_cons_of_mem _ List.mem_cons_self)))) Try.underlying46 rfl (by kernel_rfl)) rfl ⟨?_, HM.out.below⟩
            have e9 := HV.out
            simp only [Prod.mk.injEq] at e9
            obtain ⟨rfl, rfl, rfl, rfl, rfl⟩ := e9
            rfl
        · have q2b : (op == 2) = false := by rw [beq_eq_false_iff_ne]; exact q2
          have HV : Aside0 ((r1, r2, r3, r4, r5) = ((i : Int), op, v1, v2, 0)) := ⟨by rw [H.out, if_neg (fun h => q2 h.1)]⟩
          clear q2
          go_wp2_with (first | (refine rw_load rfl 46 rfl rfl HM.out (by first | exact List.mem_cons_self | exact (List.mem_cons_of_mem _ List.mem_cons_self) | exact (List.mem_cons_of_mem _ (List.mem_cons_of_mem _ List.mem_cons_self)) | exact (List.mem_cons_of_mem _ (List.mem_cons_of_mem _ (List.mem_cons_of_mem _ List.mem_cons_self)))) _ Try.underlying46 rfl (by kernel_rfl) ?_) | (refine rw_cell rfl 3 rfl (i := 3) rfl rfl rfl [_] HM.out (by show (_ : Nat) < 4; decide) (by kernel_rfl) ?_; intro w_ hM hb9; clear hb9; replace HM : Aside0 (Rws w [(b8, 22, #[.slice A7 ((rs.drop wa).drop wb).length c7]), (b7, 46, #[.int .i64 (i : Int), .int .u8 op, .int .i64 v1, .int .i64 v2]), (b6, 46, #[.int .i64 0, .int .u8 0, .int .i64 0, .int .i64 0]), (b4, 46, #[.int .i64 0, .int .u8 0, .int .i64 0, .int .i64 0])] w_) := ⟨hM⟩; have g1 := blk_cell (hM.mem (List.mem_cons_of_mem _ List.mem_cons_self)) 1; have g2 := blk_cell (hM.mem (List.mem_cons_of_mem _ List.mem_cons_self)) 2; clear hM) | (refine rw_store rfl 46 rfl rfl (cs' := #[.int .i64 (i : Int), .int .u8 op, .int .i64 v1, .int .i64 v2]) rfl [_, _, _] HM.out (by kernel_rfl) rfl (by show _ = _; kernel_rfl) ?_; intro w_ hM hb9; clear hb9; (try simp only [List.nil_append, List.cons_append] at hM); replace HM := Aside0.mk hM; clear hM))
          refine bodyPost_ret (results_ct rfl _ _ b4 46 #[.int .i64 (i : Int), .int .u8 op, .int .i64 v1, .int .i64 v2] (0, 0) _ rfl (HM.out.mem (List.mem_cons_of_mem _ (List.mem_cons_of_mem _ (List.mem_cons_of_mem _ List.mem_cons_self)))) Try.underlying46 rfl (by kernel_rfl)) rfl ⟨?_, HM.out.below⟩
          have e9 := HV.out
          simp only [Prod.mk.injEq] at e9
          obtain ⟨rfl, rfl, rfl, rfl, rfl⟩ := e9
          rfl

def flow_Scan.l0 : Nat → List Int → List (S46) → Int → Option ((List (S46)) × Int × Int)
  | 0, _, _, _ => none
  | k + 1, x0, x5, x6 => if x6 < (x0.length : Int) then ((code_Decode.f x0 x6).bind fun bt267 => (if bt267.2.2.2.2 = 0 then (if x5.length < 4398046511104 then ((code_Size.f k bt267.2.1).bind fun t276 => (flow_Scan.l0 k x0 (x5 ++ [(⟨bt267.1, bt267.2.1, bt267.2.2.1, bt267.2.2.2.1⟩ : S46)]) (wrap64 (x6 + t276)))) else (none)) else (some (([] : List (S46)), x6, bt267.2.2.2.2)))) else (some (x5, 0, 0))
def flow_Scan.f (k : Nat) (l0 : List Int) : Option ((List (S46)) × Int × Int) := if (l0.length : Int) > 4096 then (some (([] : List (S46)), 0, 4)) else (flow_Scan.l0 k l0 ([] : List (S46)) 0)
set_option maxHeartbeats 8000000 in
set_option maxRecDepth 100000 in
theorem flow_Scan.calls (k : Nat) (A0 : Option Addr) (c0 : Nat) (l0 : List Int) (r1 : List (S46)) (r2 : Int) (r3 : Int) (w : World) (hr0 : Kd.C (Kd.int .u8) w A0 l0.length l0) (hc0 : l0.length ≤ c0) (h : flow_Scan.f k l0 = some (r1, r2, r3)) :
    Calls Try.prog 26 #[.slice A0 l0.length c0] w fun e w' => ∃ v0_ : Value, e = .returned (.tuple #[v0_, .int .i64 r2, .int .i64 r3]) ∧ Kd.R k46 46 w' w.heap.size (fun _ => True) v0_ r1 ∧ Below w.heap.size w w' := by
  have hu46 := Try.underlying46
  have HR0 := Aside0.mk hr0
  have HC0 := Aside0.mk hc0
  clear hr0 hc0
  have HB := Aside0.mk (Below.refl w.heap.size w)
  have H : (if (l0.length : Int) > 4096 then (some (([] : List (S46)), 0, 4)) else (flow_Scan.l0 k l0 ([] : List (S46)) 0)) = some (r1, r2, r3) := h
  clear h
  by_cases c2 : (l0.length : Int) > 4096
  · rw [if_pos c2] at H
    have c2b0 : decide (4096 < (l0.length : Int)) = true := decide_eq_true c2
    have c2b1 : decide (4096 < l0.length) = true := decide_eq_true (by omega)
    clear c2
    simp only [Option.some.injEq, Prod.mk.injEq] at H
    obtain ⟨rfl, rfl, rfl⟩ := H
    go_enter Try.func26, Try.ntmps26
    go_wp2
    go_ret3
    exact ⟨_, by first | rfl | (simp [errW_none, errW_some] <;> rfl) | (simp [*, errW_none, errW_some] <;> rfl), by first | exact Kd.R_nil _ _ _ _ _ | exact Kd.N_nil _ _ _ _ _ | exact Kd.V_nil _ _ _ _ _ | exact Kd.Q_nil _ _ _ _ _ | exact Kd.S_nil _ _ _ _ _, by repeat (first | (with_reducible first | exact HB.out | apply below_alloc | apply pw_below_drewN | apply below_drew1) | exact HB.out)⟩
  · rw [if_neg c2] at H
    have c2b0 : decide (4096 < (l0.length : Int)) = false := decide_eq_false c2
    have c2b1 : decide (4096 < l0.length) = false := decide_eq_false (by omega)
    clear c2
    have H' := Aside0.mk H
    clear H
    go_enter Try.func26, Try.ntmps26
    go_wp2
    go_loopg [5, 6] k (fun kq v5 v6 w' => ∃ (x5_1 : List (S46)) (x6_1 : Int), v6 = .int .i64 x6_1 ∧ Aside0 (flow_Scan.l0 kq l0 x5_1 x6_1 = some (r1, r2, r3)) ∧ Aside0 (kq ≤ k) ∧ Aside0 (Kd.R k46 46 w' w.heap.size (fun _ => True) v5 x5_1) ∧ Aside0 (Below w.heap.size w w'))
    case atStart => exact ⟨(([] : List (S46))), (0), (by first | rfl | (simp; done) | (simp [*]; done)), H', ⟨Nat.le_refl _⟩, ⟨by first | exact Kd.R_nil _ _ _ _ _ | exact Kd.N_nil _ _ _ _ _ | exact Kd.V_nil _ _ _ _ _ | exact Kd.Q_nil _ _ _ _ _ | exact Kd.S_nil _ _ _ _ _⟩, ⟨by repeat (first | (with_reducible first | exact HB.out | apply below_alloc | apply pw_below_drewN | apply below_drew1) | exact HB.out)⟩⟩
    case round =>
      clear H'
      try clear c2
      try clear c2b0
      try clear c2b1
      try clear p2
      obtain ⟨x5_1, x6_1, rfl, HA, HK1, HO_5, HB⟩ := hrel
      cases gk with
      | zero => exact absurd HA.out (by simp [flow_Scan.l0])
      | succ k1 =>
        have H := HA.out
        clear HA
        simp only [flow_Scan.l0] at H
        by_cases c3 : x6_1 < (l0.length : Int)
        · rw [if_pos c3] at H
          have c3b0 : decide (x6_1 < (l0.length : Int)) = true := decide_eq_true c3
          clear c3
          replace H := Option.bind_eq_some_iff.mp H
          obtain ⟨⟨t267, t268, t269, t270, t271⟩, A40, H⟩ := H
          replace H : (if t271 = 0 then (if x5_1.length < 4398046511104 then ((code_Size.f k1 t268).bind fun t276 => (flow_Scan.l0 k1 l0 (x5_1 ++ [(⟨t267, t268, t269, t270⟩ : S46)]) (wrap64 (x6_1 + t276)))) else (none)) else (some (([] : List (S46)), x6_1, t271))) = some (r1, r2, r3) := H
          have A4 := Aside0.mk A40
          clear A40
          by_cases c5 : t271 = 0
          · rw [if_pos c5] at H
            have c5b0 : (t271 == 0) = true := beq_iff_eq.mpr c5
            have c5b1 : (t271 != 0) = false := bne_eq_false_iff_eq.mpr c5
            clear c5
            by_cases c6 : x5_1.length < 4398046511104
            · rw [if_pos c6] at H
              have LMc6 := Aside0.mk c6
              clear c6
              obtain ⟨y273, hy273⟩ : ∃ y_ : List (S46), y_ = (x5_1 ++ [(⟨t267, t268, t269, t270⟩ : S46)]) := ⟨_, rfl⟩
              replace H : ((code_Size.f k1 t268).bind fun t276 => (flow_Scan.l0 k1 l0 y273 (wrap64 (x6_1 + t276)))) = some (r1, r2, r3) := by first | (rw [hy273]; with_reducible exact H) | (have H2_ := (Option.bind_some _ _).symm.trans H; rw [hy273]; with_reducible exact H2_) | (have H2_ := (Option.bind_some _ _).symm.trans H; with_reducible exact H2_) | with_reducible exact H | (rw [hy273]; exact H) | exact H
              have Ny273 := Aside0.mk hy273
              clear hy273
              replace H := Option.bind_eq_some_iff.mp H
              obtain ⟨t276, A70, H⟩ := H
              replace H : (flow_Scan.l0 k1 l0 y273 (wrap64 (x6_1 + t276))) = some (r1, r2, r3) := H
              have A7 := Aside0.mk A70
              clear A70
              have H' := Aside0.mk H
              clear H
              go_wp2_with (first | ((with_reducible refine gate_callee (f := 52) rfl ?_); refine goesL_ (some 19) rfl rfl Try.func52 (by kernel_rfl) rfl #[.slice A0 l0.length c0, .int .i64 x6_1] rfl (by (try simp only [List.map_toArray, List.map_cons, List.map_nil]); first | done | rfl | (simp only [List.length_drop, List.length_take]; rfl)) ?_; (with_reducible refine (code_Decode.calls _ _ l0 x6_1 t267 t268 t269 t270 t271 _ ?side1 ?side2 A4.out).mono ?_); (case side1 => repeat (first | exact (Kd.C_below HR0.out HB.out) | (with_reducible refine Kd.C_alloc ?_ _) | (with_reducible refine Kd.C_drewN ?_ _) | (with_reducible refine Kd.C_drew ?_))); (case side2 => exact HC0.out); rintro e w8 ⟨rfl, hb⟩; refine ⟨_, rfl, ?_⟩; have n0_ := Aside0.mk (Kd.R_below (by (with_reducible repeat (first | apply Kd.R_alloc | apply Kd.R_drewN | apply Kd.R_drew)); exact HO_5.out) hb); have n1_ := Aside0.mk (below_step (by repeat (first | (with_reducible first | exact HB.out | apply below_alloc | apply pw_below_drewN | apply below_drew1) | exact HB.out)) hb); clear HO_5; clear HB; have HO_5 := n0_; have HB := n1_; clear n0_ n1_; (try clear hb); (try clear hb2); (try clear hk); (try clear hi)) | ((with_reducible refine gate_dst (N := 7) rfl ?_); refine box_event ?hg (N := 7) ?hd (cs := #[.int .i64 0, .int .u8 0, .int .i64 0, .int .i64 0]) (t := 46) ?hr ?_; (case hd => rfl); (case hg => rfl); (case hr => first | (go_simp; done) | (go_simp; rfl)); intro gb272 hg w9 hbox hb; have n0_ := Aside0.mk (Kd.R_below (Kd.R_elderB (by (with_reducible repeat (first | apply Kd.R_alloc | apply Kd.R_drewN | apply Kd.R_drew)); exact HO_5.out) gb272 (Nat.le_of_eq hg.symm)) hb); have n1_ := Aside0.mk (below_step (by repeat (first | (with_reducible first | exact HB.out | apply below_alloc | apply pw_below_drewN | apply below_drew1) | exact HB.out)) hb); have n2_ := Aside0.mk (hbox); have n3_ := Aside0.mk ((by rw [hg]; exact (below_size (by repeat (first | (with_reducible first | exact HB.out | apply below_alloc | apply pw_below_drewN | apply below_drew1) | exact HB.out))) : w.heap.size ≤ gb272)); have n4_ := Aside0.mk ((by rw [hg]; exact (below_size (by repeat (first | (with_reducible first | exact HB.out | apply below_alloc | apply pw_below_drewN | apply below_drew1) | exact HB.out))) : w.heap.size ≤ gb272)); clear HO_5; clear HB; have HO_5 := n0_; have HB := n1_; have BK272 := n2_; have GW272 := n3_; have GE272 := n4_; clear n0_ n1_ n2_ n3_ n4_; clear hb hbox hg; have hcz10_0 : w9.cell? ⟨gb272, 0, none⟩ = some (.int .i64 0) := (blk_cell BK272.out 0).trans rfl; have hcz10_1 : w9.cell? ⟨gb272, 1, none⟩ = some (.int .u8 0) := (blk_cell BK272.out 1).trans rfl; have hcz10_2 : w9.cell? ⟨gb272, 2, none⟩ = some (.int .i64 0) := (blk_cell BK272.out 2).trans rfl; have hcz10_3 : w9.cell? ⟨gb272, 3, none⟩ = some (.int .i64 0) := (blk_cell BK272.out 3).trans rfl; have hfz10_0 := blk_frozen BK272.out 0; have hfz10_1 := blk_frozen BK272.out 1; have hfz10_2 := blk_frozen BK272.out 2; have hfz10_3 := blk_frozen BK272.out 3) | ((with_reducible refine gate_builtin (b := .append) (xs := #[.tmp 26, .tmp 28]) rfl ?_); at_builtin; refine Kd.R_append k46 (w0 := w) w.heap.size rfl (.tmp 26) (.tmp 28) 23 46 (.agg #[(.int .i64 0), (.int .u8 0), (.int .i64 0), (.int .i64 0)]) 32 rfl Try.underlying23 info46 rfl (by decide) (by omega) u5 x5_1 (⟨t267, t268, t269, t270⟩ : S46) [.int .i64 t267, .int .u8 t268, .int .i64 t269, .int .i64 t270] (fun k_ => k_ ≠ gb272) (fun _ => False) rfl (by first | (go_simp; done) | (go_simp; rfl)) ?aP (fun _ hk => hk.elim) ?aF ?aO ?aB ?aS ?aL ?_; (case aP => exact k46_mkM _ _ _ (⟨t267, t268, t269, t270⟩ : S46)); (case aB => exact (by repeat (first | (with_reducible first | exact HB.out | apply below_alloc | apply pw_below_drewN | apply below_drew1 | refine below_set ?_ GE272.out) | exact HB.out))); (case aF => exact (fun k_ hk => Kd.freshB (g := gb272) (o := .cells #[.int .i64 t267, .int .u8 t268, .int .i64 t269, .int .i64 t270] 46 (0, 0)) (by (with_reducible repeat (first | refine blk_drewN ?_ _ | refine blk_drew ?_ | refine blk_alloc ?_ _)); refine blk_put (cs := #[.int .i64 t267, .int .u8 t268, .int .i64 t269, .int .i64 0]) ?_ 3 _ rfl; (with_reducible repeat (first | refine blk_drewN ?_ _ | refine blk_drew ?_ | refine blk_alloc ?_ _)); refine blk_put (cs := #[.int .i64 t267, .int .u8 t268, .int .i64 0, .int .i64 0]) ?_ 2 _ rfl; (with_reducible repeat (first | refine blk_drewN ?_ _ | refine blk_drew ?_ | refine blk_alloc ?_ _)); refine blk_put (cs := #[.int .i64 t267, .int .u8 0, .int .i64 0, .int .i64 0]) ?_ 1 _ rfl; (with_reducible repeat (first | refine blk_drewN ?_ _ | refine blk_drew ?_ | refine blk_alloc ?_ _)); refine blk_put (cs := #[.int .i64 0, .int .u8 0, .int .i64 0, .int .i64 0]) ?_ 0 _ rfl; (with_reducible repeat (first | refine blk_drewN ?_ _ | refine blk_drew ?_ | refine blk_alloc ?_ _)); exact BK272.out) k_ hk)); (case aO => exact (by (with_reducible repeat (first | apply Kd.R_alloc | apply Kd.R_drewN | apply Kd.R_drew)); exact Kd.R_mono (Kd.R_far (p := ⟨gb272, 3, none⟩) (Kd.R_far (p := ⟨gb272, 2, none⟩) (Kd.R_far (p := ⟨gb272, 1, none⟩) (Kd.R_far (p := ⟨gb272, 0, none⟩) (Kd.R_mono HO_5.out (fun k_ hk => (⟨hk, hk.2⟩ : _ ∧ k_ ≠ gb272))) (fun _ hk => hk.2) (.int .i64 t267)) (fun _ hk => hk.2) (.int .u8 t268)) (fun _ hk => hk.2) (.int .i64 t269)) (fun _ hk => hk.2) (.int .i64 t270)) (fun _ hk => hk.1.2))); (case aS => exact (below_size (by repeat (first | (with_reducible first | exact HB.out | apply below_alloc | apply pw_below_drewN | apply below_drew1 | refine below_set ?_ GE272.out) | exact HB.out)))); (case aL => have := LMc6.out; omega); intro v274 w11 ho hb hg hat; rw [← Ny273.out] at ho; have n0_ := Aside0.mk (blk_grown (g := gb272) (o := .cells #[.int .i64 t267, .int .u8 t268, .int .i64 t269, .int .i64 t270] 46 (0, 0)) (by (with_reducible repeat (first | refine blk_drewN ?_ _ | refine blk_drew ?_ | refine blk_alloc ?_ _)); refine blk_put (cs := #[.int .i64 t267, .int .u8 t268, .int .i64 t269, .int .i64 0]) ?_ 3 _ rfl; (with_reducible repeat (first | refine blk_drewN ?_ _ | refine blk_drew ?_ | refine blk_alloc ?_ _)); refine blk_put (cs := #[.int .i64 t267, .int .u8 t268, .int .i64 0, .int .i64 0]) ?_ 2 _ rfl; (with_reducible repeat (first | refine blk_drewN ?_ _ | refine blk_drew ?_ | refine blk_alloc ?_ _)); refine blk_put (cs := #[.int .i64 t267, .int .u8 0, .int .i64 0, .int .i64 0]) ?_ 1 _ rfl; (with_reducible repeat (first | refine blk_drewN ?_ _ | refine blk_drew ?_ | refine blk_alloc ?_ _)); refine blk_put (cs := #[.int .i64 0, .int .u8 0, .int .i64 0, .int .i64 0]) ?_ 0 _ rfl; (with_reducible repeat (first | refine blk_drewN ?_ _ | refine blk_drew ?_ | refine blk_alloc ?_ _)); exact BK272.out) hg (Kd.R_away HO_5.out (fun _ hk => hk.2))); have n1_ := Aside0.mk (hb); have n2_ := Aside0.mk (ho); clear BK272; clear HB; clear HO_5; have BK272 := n0_; have HB := n1_; have HO275 := n2_; clear n0_ n1_ n2_; clear ho hb hg hat; have hcz12_0 : w11.cell? ⟨gb272, 0, none⟩ = some (.int .i64 t267) := (blk_cell BK272.out 0).trans rfl; have hcz12_1 : w11.cell? ⟨gb272, 1, none⟩ = some (.int .u8 t268) := (blk_cell BK272.out 1).trans rfl; have hcz12_2 : w11.cell? ⟨gb272, 2, none⟩ = some (.int .i64 t269) := (blk_cell BK272.out 2).trans rfl; have hcz12_3 : w11.cell? ⟨gb272, 3, none⟩ = some (.int .i64 t270) := (blk_cell BK272.out 3).trans rfl; have hfz12_0 := blk_frozen BK272.out 0; have hfz12_1 := blk_frozen BK272.out 1; have hfz12_2 := blk_frozen BK272.out 2; have hfz12_3 := blk_frozen BK272.out 3) | ((with_reducible refine gate_callee (f := 53) rfl ?_); refine goesL_ (some 33) rfl rfl Try.func53 (by kernel_rfl) rfl #[.int .u8 t268] rfl (by (try simp only [List.map_toArray, List.map_cons, List.map_nil]); first | done | rfl | (simp only [List.length_drop, List.length_take]; rfl)) ?_; (with_reducible refine (code_Size.calls k1 t268 t276 _ A7.out).mono ?_); rintro e w' ⟨rfl, ⟨nd, rfl⟩⟩; refine ⟨_, rfl, ?_⟩))
              go_roundg k1
              case measure => have := HK1.out; omega
              case rel => exact ⟨(y273), (wrap64 (x6_1 + t276)), (by first | rfl | (simp; done) | (simp [*]; done)), H', ⟨by have := HK1.out; omega⟩, ⟨by (with_reducible repeat (first | apply Kd.R_alloc | apply Kd.R_drewN | apply Kd.R_drew)); exact Kd.R_mono HO275.out (fun _ hk => trivial)⟩, ⟨by repeat (first | (with_reducible first | exact HB.out | apply below_alloc | apply pw_below_drewN | apply below_drew1 | refine below_set ?_ GE272.out) | exact HB.out)⟩⟩
            · rw [if_neg c6] at H
              exact absurd H (by simp)
          · rw [if_neg c5] at H
            have c5b0 : (t271 == 0) = false := beq_eq_false_iff_ne.mpr c5
            have c5b1 : (t271 != 0) = true := bne_iff_ne.mpr c5
            simp only [Option.some.injEq, Prod.mk.injEq] at H
            obtain ⟨rfl, rfl, rfl⟩ := H
            go_wp2_with (first | ((with_reducible refine gate_callee (f := 52) rfl ?_); refine goesL_ (some 19) rfl rfl Try.func52 (by kernel_rfl) rfl #[.slice A0 l0.length c0, .int .i64 x6_1] rfl (by (try simp only [List.map_toArray, List.map_cons, List.map_nil]); first | done | rfl | (simp only [List.length_drop, List.length_take]; rfl)) ?_; (with_reducible refine (code_Decode.calls _ _ l0 x6_1 t267 t268 t269 t270 t271 _ ?side1 ?side2 A4.out).mono ?_); (case side1 => repeat (first | exact (Kd.C_below HR0.out HB.out) | (with_reducible refine Kd.C_alloc ?_ _) | (with_reducible refine Kd.C_drewN ?_ _) | (with_reducible refine Kd.C_drew ?_))); (case side2 => exact HC0.out); rintro e w13 ⟨rfl, hb⟩; refine ⟨_, rfl, ?_⟩; have n0_ := Aside0.mk (Kd.R_below (by (with_reducible repeat (first | apply Kd.R_alloc | apply Kd.R_drewN | apply Kd.R_drew)); exact HO_5.out) hb); have n1_ := Aside0.mk (below_step (by repeat (first | (with_reducible first | exact HB.out | apply below_alloc | apply pw_below_drewN | apply below_drew1) | exact HB.out)) hb); clear HO_5; clear HB; have HO_5 := n0_; have HB := n1_; clear n0_ n1_; (try clear hb); (try clear hb2); (try clear hk); (try clear hi)) | ((with_reducible refine gate_dst (N := 7) rfl ?_); refine box_event ?hg (N := 7) ?hd (cs := #[.int .i64 0, .int .u8 0, .int .i64 0, .int .i64 0]) (t := 46) ?hr ?_; (case hd => rfl); (case hg => rfl); (case hr => first | (go_simp; done) | (go_simp; rfl)); intro gb272 hg w14 hbox hb; have n0_ := Aside0.mk (Kd.R_below (Kd.R_elderB (by (with_reducible repeat (first | apply Kd.R_alloc | apply Kd.R_drewN | apply Kd.R_drew)); exact HO_5.out) gb272 (Nat.le_of_eq hg.symm)) hb); have n1_ := Aside0.mk (below_step (by repeat (first | (with_reducible first | exact HB.out | apply below_alloc | apply pw_below_drewN | apply below_drew1) | exact HB.out)) hb); have n2_ := Aside0.mk (hbox); have n3_ := Aside0.mk ((by rw [hg]; exact (below_size (by repeat (first | (with_reducible first | exact HB.out | apply below_alloc | apply pw_below_drewN | apply below_drew1) | exact HB.out))) : w.heap.size ≤ gb272)); have n4_ := Aside0.mk ((by rw [hg]; exact (below_size (by repeat (first | (with_reducible first | exact HB.out | apply below_alloc | apply pw_below_drewN | apply below_drew1) | exact HB.out))) : w.heap.size ≤ gb272)); clear HO_5; clear HB; have HO_5 := n0_; have HB := n1_; have BK272 := n2_; have GW272 := n3_; have GE272 := n4_; clear n0_ n1_ n2_ n3_ n4_; clear hb hbox hg; have hcz15_0 : w14.cell? ⟨gb272, 0, none⟩ = some (.int .i64 0) := (blk_cell BK272.out 0).trans rfl; have hcz15_1 : w14.cell? ⟨gb272, 1, none⟩ = some (.int .u8 0) := (blk_cell BK272.out 1).trans rfl; have hcz15_2 : w14.cell? ⟨gb272, 2, none⟩ = some (.int .i64 0) := (blk_cell BK272.out 2).trans rfl; have hcz15_3 : w14.cell? ⟨gb272, 3, none⟩ = some (.int .i64 0) := (blk_cell BK272.out 3).trans rfl; have hfz15_0 := blk_frozen BK272.out 0; have hfz15_1 := blk_frozen BK272.out 1; have hfz15_2 := blk_frozen BK272.out 2; have hfz15_3 := blk_frozen BK272.out 3))
            go_ret3
            exact ⟨_, by first | rfl | (simp [errW_none, errW_some] <;> rfl) | (simp [*, errW_none, errW_some] <;> rfl), by first | exact Kd.R_nil _ _ _ _ _ | exact Kd.N_nil _ _ _ _ _ | exact Kd.V_nil _ _ _ _ _ | exact Kd.Q_nil _ _ _ _ _ | exact Kd.S_nil _ _ _ _ _, by repeat (first | (with_reducible first | exact HB.out | apply below_alloc | apply pw_below_drewN | apply below_drew1 | refine below_set ?_ GE272.out) | exact HB.out)⟩
        · rw [if_neg c3] at H
          have c3b0 : decide (x6_1 < (l0.length : Int)) = false := decide_eq_false c3
          clear c3
          simp only [Option.some.injEq, Prod.mk.injEq] at H
          obtain ⟨rfl, rfl, rfl⟩ := H
          go_wp2
          go_ret3
          exact ⟨_, by first | rfl | (simp [errW_none, errW_some] <;> rfl) | (simp [*, errW_none, errW_some] <;> rfl), by (with_reducible repeat (first | apply Kd.R_alloc | apply Kd.R_drewN | apply Kd.R_drew)); exact HO_5.out, by repeat (first | (with_reducible first | exact HB.out | apply below_alloc | apply pw_below_drewN | apply below_drew1) | exact HB.out)⟩

def api_Instr_27.l0 : Nat → List (S46) → List (S46) → Int → Int → Option (Bool)
  | 0, _, _, _, _ => none
  | k + 1, x0, x1, x12, x13 => if x13 < x12 then (if 0 ≤ x13 then (if x13 < (x0.length : Int) then (if x13 < (x1.length : Int) then (if (!(((rd_T46 x0 x13).f0) == ((rd_T46 x1 x13).f0)) || (!(((rd_T46 x0 x13).f1) == ((rd_T46 x1 x13).f1)) || (!(((rd_T46 x0 x13).f2) == ((rd_T46 x1 x13).f2)) || (!(((rd_T46 x0 x13).f3) == ((rd_T46 x1 x13).f3)))))) = true then (some false) else (api_Instr_27.l0 k x0 x1 x12 (wrap64 (x13 + 1)))) else (none)) else (none)) else (none)) else (some true)
def api_Instr_27.f (k : Nat) (l0 : List (S46)) (l1 : List (S46)) : Option (Bool) := if (l0.length : Int) = (l1.length : Int) then (api_Instr_27.l0 k l0 l1 (l0.length : Int) 0) else (some false)
set_option maxHeartbeats 8000000 in
set_option maxRecDepth 100000 in
theorem api_Instr_27.calls (k : Nat) (A0 : Option Addr) (c0 : Nat) (l0 : List (S46)) (A1 : Option Addr) (c1 : Nat) (l1 : List (S46)) (r : Bool) (w : World) (hr0 : Kd.C k46 w A0 l0.length l0) (hc0 : l0.length ≤ c0) (hr1 : Kd.C k46 w A1 l1.length l1) (hc1 : l1.length ≤ c1) (h : api_Instr_27.f k l0 l1 = some r) :
    Calls Try.prog 27 #[.slice A0 l0.length c0, .slice A1 l1.length c1] w fun e w' => e = .returned (.bool r) ∧ Drawn0 w w' := by
  have hu46 := Try.underlying46
  have HR0 := Aside0.mk hr0
  have HC0 := Aside0.mk hc0
  clear hr0 hc0
  have HR1 := Aside0.mk hr1
  have HC1 := Aside0.mk hc1
  clear hr1 hc1
  have H : (if (l0.length : Int) = (l1.length : Int) then (api_Instr_27.l0 k l0 l1 (l0.length : Int) 0) else (some false)) = some r := h
  clear h
  by_cases c3 : (l0.length : Int) = (l1.length : Int)
  · rw [if_pos c3] at H
    have c3b0 : ((l0.length : Int) == (l1.length : Int)) = true := beq_iff_eq.mpr c3
    have c3b1 : ((l0.length : Int) != (l1.length : Int)) = false := bne_eq_false_iff_eq.mpr c3
    have c3b2 : (l0.length == l1.length) = true := by first | simpa using c3 | (simp at c3 ⊢; omega)
    clear c3
    have H' := Aside0.mk H
    clear H
    go_enter Try.func27, Try.ntmps27
    go_wp2
    repeat (go_quiet (fail); try go_wp2)
    go_loopg [13] k (fun kq v13 w' => ∃ (x13_1 : Int), v13 = .int .i64 x13_1 ∧ Aside0 (api_Instr_27.l0 kq l0 l1 (l0.length : Int) x13_1 = some r) ∧ Aside0 (kq ≤ k) ∧ Drawn0 w w')
    case atStart => exact ⟨(0), (by first | rfl | (simp; done) | (simp [*]; done)), H', ⟨Nat.le_refl _⟩, by repeat (first | exact Drawn0.refl _ | apply Drawn0.step)⟩
    case round =>
      clear H'
      try clear c1
      try clear c2
      try clear p2
      try clear c3
      try clear c3b0
      try clear c3b1
      try clear c3b2
      obtain ⟨x13_1, rfl, HA, HK1, ⟨m1, rfl⟩⟩ := hrel
      cases gk with
      | zero => exact absurd HA.out (by simp [api_Instr_27.l0])
      | succ k1 =>
        have H := HA.out
        clear HA
        simp only [api_Instr_27.l0] at H
        by_cases c4 : x13_1 < (l0.length : Int)
        · rw [if_pos c4] at H
          have c4b0 : decide (x13_1 < (l0.length : Int)) = true := decide_eq_true c4
          clear c4
          by_cases c5 : 0 ≤ x13_1
          · rw [if_pos c5] at H
            have c5b0 : decide (0 ≤ x13_1) = true := decide_eq_true c5
            clear c5
            by_cases c6 : x13_1 < (l0.length : Int)
            · rw [if_pos c6] at H
              have c6b0 : decide (x13_1 < (l0.length : Int)) = true := decide_eq_true c6
              clear c6
              by_cases c7 : x13_1 < (l1.length : Int)
              · rw [if_pos c7] at H
                have c7b0 : decide (x13_1 < (l1.length : Int)) = true := decide_eq_true c7
                clear c7
                by_cases c8 : (!(((rd_T46 l0 x13_1).f0) == ((rd_T46 l1 x13_1).f0)) || (!(((rd_T46 l0 x13_1).f1) == ((rd_T46 l1 x13_1).f1)) || (!(((rd_T46 l0 x13_1).f2) == ((rd_T46 l1 x13_1).f2)) || (!(((rd_T46 l0 x13_1).f3) == ((rd_T46 l1 x13_1).f3)))))) = true
                · rw [if_pos c8] at H
                  have c8b0 : (!(((rd_T46 l0 x13_1).f0) == ((rd_T46 l1 x13_1).f0)) || (!(((rd_T46 l0 x13_1).f1) == ((rd_T46 l1 x13_1).f1)) || (!(((rd_T46 l0 x13_1).f2) == ((rd_T46 l1 x13_1).f2)) || (!(((rd_T46 l0 x13_1).f3) == ((rd_T46 l1 x13_1).f3)))))) = true := c8
                  clear c8
                  obtain rfl := Option.some.inj H
                  have p277 : 0 ≤ (x13_1 : Int) := of_decide_eq_true (by first | (with_reducible assumption) | assumption)
                  have q277 : x13_1 < (l0.length : Int) := of_decide_eq_true (by first | (with_reducible assumption) | assumption)
                  obtain ⟨ad277, e277, hx277_0, hx277_1, hx277_2, hx277_3⟩ := at_T46 HR0.out x13_1 p277 q277
                  cases e277
                  replace p277 := eq_true p277
                  replace q277 := eq_true q277
                  have p278 : 0 ≤ (x13_1 : Int) := of_decide_eq_true (by first | (with_reducible assumption) | assumption)
                  have q278 : x13_1 < (l1.length : Int) := of_decide_eq_true (by first | (with_reducible assumption) | assumption)
                  obtain ⟨ad278, e278, hx278_0, hx278_1, hx278_2, hx278_3⟩ := at_T46 HR1.out x13_1 p278 q278
                  cases e278
                  replace p278 := eq_true p278
                  replace q278 := eq_true q278
                  go_wp2
                  repeat (go_quiet (fail); try go_wp2)
                  go_ret
                  exact ⟨by first | rfl | (simp; done) | (simp [*]; done), by repeat (first | exact Drawn0.refl _ | apply Drawn0.step)⟩
                · rw [if_neg c8] at H
                  have c8b0 : (!(((rd_T46 l0 x13_1).f0) == ((rd_T46 l1 x13_1).f0)) || (!(((rd_T46 l0 x13_1).f1) == ((rd_T46 l1 x13_1).f1)) || (!(((rd_T46 l0 x13_1).f2) == ((rd_T46 l1 x13_1).f2)) || (!(((rd_T46 l0 x13_1).f3) == ((rd_T46 l1 x13_1).f3)))))) = false := by simpa using c8
                  clear c8
                  have H' := Aside0.mk H
                  clear H
                  have p277 : 0 ≤ (x13_1 : Int) := of_decide_eq_true (by first | (with_reducible assumption) | assumption)
                  have q277 : x13_1 < (l0.length : Int) := of_decide_eq_true (by first | (with_reducible assumption) | assumption)
                  obtain ⟨ad277, e277, hx277_0, hx277_1, hx277_2, hx277_3⟩ := at_T46 HR0.out x13_1 p277 q277
                  cases e277
                  replace p277 := eq_true p277
                  replace q277 := eq_true q277
                  have p278 : 0 ≤ (x13_1 : Int) := of_decide_eq_true (by first | (with_reducible assumption) | assumption)
                  have q278 : x13_1 < (l1.length : Int) := of_decide_eq_true (by first | (with_reducible assumption) | assumption)
                  obtain ⟨ad278, e278, hx278_0, hx278_1, hx278_2, hx278_3⟩ := at_T46 HR1.out x13_1 p278 q278
                  cases e278
                  replace p278 := eq_true p278
                  replace q278 := eq_true q278
                  go_wp2
                  repeat (go_quiet (fail); try go_wp2)
                  go_roundg k1
                  case measure => have := HK1.out; omega
                  case rel => exact ⟨(wrap64 (x13_1 + 1)), (by first | rfl | (simp; done) | (simp [*]; done)), H', ⟨by have := HK1.out; omega⟩, by repeat (first | exact Drawn0.refl _ | apply Drawn0.step)⟩
              · rw [if_neg c7] at H
                exact absurd H (by simp)
            · rw [if_neg c6] at H
              exact absurd H (by simp)
          · rw [if_neg c5] at H
            exact absurd H (by simp)
        · rw [if_neg c4] at H
          have c4b0 : decide (x13_1 < (l0.length : Int)) = false := decide_eq_false c4
          clear c4
          obtain rfl := Option.some.inj H
          go_wp2
          repeat (go_quiet (fail); try go_wp2)
          go_ret
          exact ⟨by first | rfl | (simp; done) | (simp [*]; done), by repeat (first | exact Drawn0.refl _ | apply Drawn0.step)⟩
  · rw [if_neg c3] at H
    have c3b0 : ((l0.length : Int) == (l1.length : Int)) = false := beq_eq_false_iff_ne.mpr c3
    have c3b1 : ((l0.length : Int) != (l1.length : Int)) = true := bne_iff_ne.mpr c3
    have c3b2 : (l0.length == l1.length) = false := by first | simpa using c3 | (simp at c3 ⊢; omega)
    obtain rfl := Option.some.inj H
    go_enter Try.func27, Try.ntmps27
    go_wp2
    repeat (go_quiet (fail); try go_wp2)
    go_ret
    exact ⟨by first | rfl | (simp; done) | (simp [*]; done), by repeat (first | exact Drawn0.refl _ | apply Drawn0.step)⟩

set_option maxHeartbeats 1600000 in
set_option maxRecDepth 100000 in
theorem addresses_calls (A0 : Option Addr) (c0 : Nat) (l0 : List S46) (w : World) (hr0 : Kd.C k46 w A0 l0.length l0) (hok : atsOk l0 = true) (hlen : l0.length < 4398046511104) :
    Calls Try.prog 54 #[.slice A0 l0.length c0] w fun e w' => ∃ B, e = .returned (.map (some B)) ∧ Mp w B l0.length (firstAt l0 0) [] w' := by
  have HR := Aside0.mk hr0
  have HO := Aside0.mk hok
  have HL := Aside0.mk hlen
  have HM := Aside0.mk (Rws.nil w)
  clear hr0 hok
  go_enter Try.func54, Try.ntmps54
  go_wp2_with (first | ((with_reducible refine gate_dst (N := 8) rfl ?_); refine mp_make rfl rfl HM.out ?_; intro B w_ hM; replace HM := Aside0.mk hM; clear hM))
  go_loopw [11] (fun v11 wr => ∃ (i : Nat), v11 = .int .i64 (i : Int) ∧ i ≤ l0.length ∧ Aside0 (Mp w B i (firstAt (l0.take i) 0) [] wr)) (fun v11 _ => ((l0.length : Int) - intOf v11).toNat)
  case atStart => exact ⟨0, rfl, Nat.zero_le _, HM⟩
  case round =>
    rename_i wr
    clear HM
    obtain ⟨i, rfl, hi, HM⟩ := hrel
    by_cases c1 : i < l0.length
    · obtain ⟨x, hx⟩ : ∃ x, x = rd_T46 l0 (i : Int) := ⟨_, rfl⟩
      obtain ⟨ad, e1, hx0, hx1, hx2, hx3⟩ := at_I HR.out HM.out.below c1 hx
      cases e1
      have HX := Aside0.mk hx
      have HI : Aside0 (i < l0.length) := ⟨c1⟩
      have c1b : decide ((i : Int) < (l0.length : Int)) = true := decide_eq_true (by omega)
      have p5 : (0 ≤ (i : Int)) = True := eq_true (by omega)
      have p6 : ((i : Int) < (l0.length : Int)) = True := eq_true (by omega)
      clear hx
      have hk : I64 x.f0 := by have := atsOk_at HO.out c1; rw [← HX.out] at this; exact this
      have HK := Aside0.mk hk
      have hs := take_snoc c1 z46
      have hs : l0.take (i + 1) = l0.take i ++ [x] := by rw [hs, HX.out]; rfl
      have HS := Aside0.mk hs
      have hlt : (l0.take i).length = i := by rw [List.length_take]; omega
      have HLT := Aside0.mk hlt
      have hW := wrap_next (show i < 4398046511104 by omega)
      have HW := Aside0.mk hW
      clear hk hs hlt hW
      cases hg : firstAt (l0.take i) 0 x.f0 with
      | none =>
        have HG := Aside0.mk hg
        have hgs : (firstAt (l0.take i) 0 x.f0).isSome = false := by rw [hg]; rfl
        have HGS := Aside0.mk hgs
        clear hg hgs
        go_wp2_with (first | ((with_reducible refine gate_dst (N := 5) rfl ?_); refine mp_alloc rfl 46 rfl (cs := #[.int .i64 0, .int .u8 0, .int .i64 0, .int .i64 0]) (by kernel_rfl) HM.out ?_; intro b w_ hM; replace HM := Aside0.mk hM; clear hM) | (refine mp_store rfl 46 rfl rfl (cs' := #[.int .i64 x.f0, .int .u8 x.f1, .int .i64 x.f2, .int .i64 x.f3]) rfl HM.out (by kernel_rfl) rfl (by show _ = _; kernel_rfl) ?_; intro w_ hM; have f0 := blk_cell (hM.rows.mem List.mem_cons_self) 0; have f1 := blk_cell (hM.rows.mem List.mem_cons_self) 1; have f2 := blk_cell (hM.rows.mem List.mem_cons_self) 2; have f3 := blk_cell (hM.rows.mem List.mem_cons_self) 3; replace HM := Aside0.mk hM; clear hM hx0 hx1 hx2 hx3) | ((with_reducible refine gate_dst (N := 20) rfl ?_); refine im_look_ok rfl rfl rfl HM.out.own rfl HK.out ?_; rw [HGS.out]) | (at_mapUpdate; refine mp_map rfl rfl rfl HM.out (by have := HL.out; have := HI.out; unfold maxLen; omega) rfl rfl HK.out (by have := HL.out; have := HI.out; constructor <;> omega) ?_; intro w_ hM; replace HM := Aside0.mk hM; clear hM f0 f1 f2 f3))
        go_roundw
        case rel => exact ⟨i + 1, by have := HW.out; first | rfl | (simp; done), by omega, ⟨by rw [HS.out, firstAt_step_none HG.out, HLT.out]; exact HM.out.clear⟩⟩
        case measure => simp [intOf]; omega
      | some v =>
        have hgs : (firstAt (l0.take i) 0 x.f0).isSome = true := by rw [hg]; rfl
        have HGS := Aside0.mk hgs
        clear hg hgs
        go_wp2_with (first | ((with_reducible refine gate_dst (N := 5) rfl ?_); refine mp_alloc rfl 46 rfl (cs := #[.int .i64 0, .int .u8 0, .int .i64 0, .int .i64 0]) (by kernel_rfl) HM.out ?_; intro b w_ hM; replace HM := Aside0.mk hM; clear hM) | (refine mp_store rfl 46 rfl rfl (cs' := #[.int .i64 x.f0, .int .u8 x.f1, .int .i64 x.f2, .int .i64 x.f3]) rfl HM.out (by kernel_rfl) rfl (by show _ = _; kernel_rfl) ?_; intro w_ hM; have f0 := blk_cell (hM.rows.mem List.mem_cons_self) 0; have f1 := blk_cell (hM.rows.mem List.mem_cons_self) 1; have f2 := blk_cell (hM.rows.mem List.mem_cons_self) 2; have f3 := blk_cell (hM.rows.mem List.mem_cons_self) 3; replace HM := Aside0.mk hM; clear hM hx0 hx1 hx2 hx3) | ((with_reducible refine gate_dst (N := 20) rfl ?_); refine im_look_ok rfl rfl rfl HM.out.own rfl HK.out ?_; rw [HGS.out]))
        clear f0 f1 f2 f3
        go_roundw
        case rel => exact ⟨i + 1, by have := HW.out; first | rfl | (simp; done), by omega, ⟨by rw [HS.out, firstAt_step_some HGS.out]; exact HM.out.clear.more⟩⟩
        case measure => simp [intOf]; omega
    · have e : i = l0.length := by omega
      have HE := Aside0.mk e
      clear e
      go_wp2
      go_ret
      exact ⟨B, rfl, by have := HM.out; rw [HE.out, List.take_of_length_le (Nat.le_refl _)] at this; exact this⟩

end Go.Proofs.Ytcffniaieegbgaa.P

end

section
namespace Go.Proofs.Ytcffniaieegbgaa.P
open Go.RowKit Go.Proofs.YtcffniaieegbgaaW.PrintWords Go.Proofs.YtcffniaieegbgaaW.PrintLast Go.Proofs.YtcffniaieegbgaaW.PrintMore
attribute [local go_sem] max2_int min2_int max_two min_two max_three min_three max_four min_four   -- for this text's walks alone
set_option linter.unusedVariables false
set_option linter.unusedSimpArgs false

def checkEnd (l : List S46) : Int × Int := if l.length = 0 then (0, 51) else if endsB (rd_T46 l ((l.length - 1 : Nat) : Int)).f1 = true then (0, 0) else ((rd_T46 l ((l.length - 1 : Nat) : Int)).f0, 51)
def checkGo (l : List S46) : List S46 → Int × Int
  | [] => checkEnd l
  | x :: r => if (jumpsB x.f1 && !(firstAt l 0 x.f2).isSome) = true then (x.f0, 50) else checkGo l r
def flow_Check.f (k : Nat) (l0 : List Int) : Option (Int × Int) := (flow_Scan.f k l0).bind fun q => if q.2.2 = 0 then (if q.1.length < 4398046511104 ∧ asOk q.1 = true ∧ atsOk q.1 = true then some (checkGo q.1 q.1) else none) else some (q.2.1, q.2.2)
theorem drop_cI {l : List S46} {i : Nat} (h : i < l.length) : l.drop i = rd_T46 l (i : Int) :: l.drop (i + 1) := by
  rw [List.drop_eq_getElem_cons h]
  congr 1
  show l[i] = l.getD (i : Int).toNat z46
  rw [Int.toNat_natCast, List.getD_eq_getElem?_getD, List.getElem?_eq_getElem h]
  rfl
set_option maxHeartbeats 1600000 in
set_option maxRecDepth 100000 in
theorem flow_Check.calls (k : Nat) (A0 : Option Addr) (c0 : Nat) (l0 : List Int) (r1 : Int) (r2 : Int) (w : World) (hr0 : Kd.C (Kd.int .u8) w A0 l0.length l0) (hc0 : l0.length ≤ c0) (h : flow_Check.f k l0 = some (r1, r2)) :
    Calls Try.prog 28 #[.slice A0 l0.length c0] w fun e w' => e = .returned (.tuple #[.int .i64 r1, .int .i64 r2]) ∧ Below w.heap.size w w' := by
  unfold flow_Check.f at h
  obtain ⟨⟨l, at_, er⟩, hs, h⟩ := Option.bind_eq_some_iff.1 h
  have HS := Aside0.mk hs
  have HR := Aside0.mk hr0
  have HC := Aside0.mk hc0
  have H := Aside0.mk h
  clear hr0 hc0 h hs
  go_enter Try.func28, Try.ntmps28
  go_wp2_with fail
  refine (flow_Scan.calls k A0 c0 l0 l at_ er _ HR.out HC.out HS.out).mono ?_
  rintro e w1 ⟨v, rfl, hR1, hb1⟩
  obtain ⟨A1, c1, e1, hc1, hC1⟩ := Kd.R_reads hR1
  subst e1
  have HR1 := Aside0.mk hC1
  have HB1 := Aside0.mk hb1
  clear hR1 hb1 hc1 hC1
  by_cases q0 : er = 0
  case neg =>
    have q0b : (!(er == 0)) = true := by simp [q0]
    have q0c : (er == 0) = false := by rw [beq_eq_false_iff_ne]; exact q0
    have q0d : (er != 0) = true := by simp [q0]
    have hh := H.out
    simp only [if_neg q0] at hh
    obtain ⟨rfl, rfl⟩ := Prod.mk.inj (Option.some.inj hh)
    clear hh q0
    go_wp2
    go_ret2
    exact ⟨rfl, HB1.out⟩
  subst q0
  have hh := H.out
  simp only [if_true] at hh
  by_cases q1 : l.length < 4398046511104 ∧ asOk l = true ∧ atsOk l = true
  case neg => rw [if_neg q1] at hh; cases hh
  rw [if_pos q1] at hh
  have HV := Aside0.mk (Option.some.inj hh).symm
  have HL := Aside0.mk q1.1
  have HO := Aside0.mk q1.2.1
  have HOA := Aside0.mk q1.2.2
  have hll : l.length < 4398046511104 := q1.1
  clear hh H q1
  go_wp2_with fail
  refine (addresses_calls A1 c1 l _ HR1.out HOA.out HL.out).mono ?_
  rintro e w2 ⟨B, rfl, hM⟩
  have HM := Aside0.mk hM
  clear hM
  go_wp2_with fail
  go_loopw [27] (fun v27 wr => ∃ (i : Nat), v27 = .int .i64 (i : Int) ∧ i ≤ l.length ∧ Aside0 (Mp w1 B l.length (firstAt l 0) [] wr) ∧ Aside0 ((r1, r2) = checkGo l (l.drop i))) (fun v27 _ => ((l.length : Int) - intOf v27).toNat)
  case atStart => exact ⟨0, rfl, Nat.zero_le _, HM, ⟨by rw [List.drop_zero]; exact HV.out⟩⟩
  case round =>
    rename_i wr
    clear HM
    obtain ⟨i, rfl, hi, HM, HG⟩ := hrel
    by_cases c1 : i < l.length
    · obtain ⟨x, hx⟩ : ∃ x, x = rd_T46 l (i : Int) := ⟨_, rfl⟩
      obtain ⟨ad, e1, hx0, hx1, hx2, hx3⟩ := at_I HR1.out HM.out.below c1 hx
      cases e1
      have HX := Aside0.mk hx
      have c1b : decide ((i : Int) < (l.length : Int)) = true := decide_eq_true (by omega)
      have p5 : (0 ≤ (i : Int)) = True := eq_true (by omega)
      have p6 : ((i : Int) < (l.length : Int)) = True := eq_true (by omega)
      have hk : I64 x.f2 := by have := asOk_at HO.out c1; rw [← hx] at this; exact this
      have HK := Aside0.mk hk
      have HW := Aside0.mk (wrap_next (show i < 4398046511104 by omega))
      have HG : Aside0 ((r1, r2) = if (jumpsB x.f1 && !(firstAt l 0 x.f2).isSome) = true then (x.f0, 50) else checkGo l (l.drop (i + 1))) := ⟨by rw [HG.out, drop_cI c1, ← hx]; rfl⟩
      obtain ⟨there, hth⟩ : ∃ b, b = (firstAt l 0 x.f2).isSome := ⟨_, rfl⟩
      have HTH := Aside0.mk hth
      have HG : Aside0 ((r1, r2) = if (jumpsB x.f1 && !there) = true then (x.f0, 50) else checkGo l (l.drop (i + 1))) := ⟨by rw [HG.out, ← hth]⟩
      clear hx hk hth
      go_wp2_with (first | ((with_reducible refine gate_dst (N := 9) rfl ?_); refine mp_alloc rfl 46 rfl (cs := #[.int .i64 0, .int .u8 0, .int .i64 0, .int .i64 0]) (by kernel_rfl) HM.out ?_; intro b w_ hM; replace HM := Aside0.mk hM; clear hM) | (refine mp_store rfl 46 rfl rfl (cs' := #[.int .i64 x.f0, .int .u8 x.f1, .int .i64 x.f2, .int .i64 x.f3]) rfl HM.out (by kernel_rfl) rfl (by show _ = _; kernel_rfl) ?_; intro w_ hM; have f0 := blk_cell (hM.rows.mem List.mem_cons_self) 0; have f1 := blk_cell (hM.rows.mem List.mem_cons_self) 1; have f2 := blk_cell (hM.rows.mem List.mem_cons_self) 2; have f3 := blk_cell (hM.rows.mem List.mem_cons_self) 3; replace HM := Aside0.mk hM; clear hM hx0 hx1 hx2 hx3) | ((with_reducible refine gate_dst (N := 35) rfl ?_); refine im_look_ok rfl rfl rfl HM.out.own rfl HK.out ?_; rw [← HTH.out]))
      refine (code_Jumps.calls x.f1 (jumpsB x.f1) _ (jumps_is x.f1)).mono ?_
      rintro e w_ ⟨rfl, hd⟩
      clear f0 f1 f2 f3
      replace HM := Aside0.mk (HM.out.step hd.below)
      clear hd
      cases qj : jumpsB x.f1 with
      | false =>
        have HG9 : Aside0 ((r1, r2) = checkGo l (l.drop (i + 1))) := ⟨by rw [HG.out, qj, if_neg (by simp)]⟩
        clear qj
        go_wp2
        go_roundw
        case rel => exact ⟨i + 1, by have := HW.out; first | rfl | (simp; done), by omega, ⟨HM.out.clear⟩, HG9⟩
        case measure => simp [intOf]; omega
      | true =>
        cases qt : there with
        | true =>
          have HG9 : Aside0 ((r1, r2) = checkGo l (l.drop (i + 1))) := ⟨by rw [HG.out, qj, qt, if_neg (by simp)]⟩
          clear qj
          go_wp2
          go_roundw
          case rel => exact ⟨i + 1, by have := HW.out; first | rfl | (simp; done), by omega, ⟨HM.out.clear⟩, HG9⟩
          case measure => simp [intOf]; omega
        | false =>
          have HG9 : Aside0 ((r1, r2) = (x.f0, 50)) := ⟨by rw [HG.out, qj, qt, if_pos (by simp)]⟩
          clear qj
          have f0 := blk_cell (HM.out.rows.mem List.mem_cons_self) 0
          have f1 := blk_cell (HM.out.rows.mem List.mem_cons_self) 1
          have f2 := blk_cell (HM.out.rows.mem List.mem_cons_self) 2
          have f3 := blk_cell (HM.out.rows.mem List.mem_cons_self) 3
          go_wp2
          go_ret2
          have e9 := HG9.out
          obtain ⟨rfl, rfl⟩ := Prod.mk.inj e9
          exact ⟨rfl, below_then HB1.out HB1.out.size HM.out.below⟩
    · have e9 : l.drop i = [] := List.drop_of_length_le (by omega)
      have c1b : decide ((i : Int) < (l.length : Int)) = false := decide_eq_false (by omega)
      have c1c : decide (i < l.length) = false := decide_eq_false (by omega)
      have HE : Aside0 ((r1, r2) = checkEnd l) := ⟨by rw [HG.out, e9]; rfl⟩
      clear e9 c1 hi HG
      by_cases q2 : l.length = 0
      · have q2b : ((l.length : Int) == 0) = true := by rw [q2]; rfl
        have HE : Aside0 ((r1, r2) = ((0 : Int), (51 : Int))) := ⟨by rw [HE.out]; unfold checkEnd; rw [if_pos q2]⟩
        clear q2
        go_wp2
        go_ret2
        obtain ⟨rfl, rfl⟩ := Prod.mk.inj HE.out
        exact ⟨rfl, below_then HB1.out HB1.out.size HM.out.below⟩
      · have q2b : ((l.length : Int) == 0) = false := by rw [beq_eq_false_iff_ne]; omega
        obtain ⟨m, hm⟩ : ∃ m, l.length = m + 1 := ⟨l.length - 1, by omega⟩
        obtain ⟨x, hx⟩ : ∃ x, x = rd_T46 l (m : Int) := ⟨_, rfl⟩
        have HE : Aside0 ((r1, r2) = if endsB x.f1 = true then (0, 0) else (x.f0, 51)) := ⟨by rw [HE.out]; unfold checkEnd; rw [if_neg q2, show l.length - 1 = m by omega, ← hx]⟩
        obtain ⟨ad, e1, hx0, hx1, hx2, hx3⟩ := at_I HR1.out HM.out.below (show m < l.length by omega) hx
        cases e1
        have p4 : (l.length : Int) - 1 = (m : Int) := by omega
        have p5 : (0 ≤ (m : Int)) = True := eq_true (by omega)
        have p6 : ((m : Int) < (l.length : Int)) = True := eq_true (by omega)
        clear q2 hx hm
        go_wp2_with (first | ((with_reducible refine gate_dst (N := 12) rfl ?_); refine mp_alloc rfl 46 rfl (cs := #[.int .i64 0, .int .u8 0, .int .i64 0, .int .i64 0]) (by kernel_rfl) HM.out ?_; intro b w_ hM; replace HM := Aside0.mk hM; clear hM) | (refine mp_store rfl 46 rfl rfl (cs' := #[.int .i64 x.f0, .int .u8 x.f1, .int .i64 x.f2, .int .i64 x.f3]) rfl HM.out (by kernel_rfl) rfl (by show _ = _; kernel_rfl) ?_; intro w_ hM; have f0 := blk_cell (hM.rows.mem List.mem_cons_self) 0; have f1 := blk_cell (hM.rows.mem List.mem_cons_self) 1; have f2 := blk_cell (hM.rows.mem List.mem_cons_self) 2; have f3 := blk_cell (hM.rows.mem List.mem_cons_self) 3; replace HM := Aside0.mk hM; clear hM hx0 hx1 hx2 hx3))
        refine (code_Ends.calls x.f1 (endsB x.f1) _ (ends_is x.f1)).mono ?_
        rintro e w_ ⟨rfl, hd⟩
        clear f0 f1 f2 f3
        replace HM := Aside0.mk (HM.out.step hd.below)
        clear hd
        cases qe : endsB x.f1 with
        | true =>
          have HE : Aside0 ((r1, r2) = ((0 : Int), (0 : Int))) := ⟨by rw [HE.out, qe, if_pos rfl]⟩
          clear qe
          go_wp2
          go_ret2
          obtain ⟨rfl, rfl⟩ := Prod.mk.inj HE.out
          exact ⟨rfl, below_then HB1.out HB1.out.size HM.out.below⟩
        | false =>
          have HE : Aside0 ((r1, r2) = (x.f0, (51 : Int))) := ⟨by rw [HE.out, qe, if_neg (by decide)]⟩
          clear qe
          have f0 := blk_cell (HM.out.rows.mem List.mem_cons_self) 0
          have f1 := blk_cell (HM.out.rows.mem List.mem_cons_self) 1
          have f2 := blk_cell (HM.out.rows.mem List.mem_cons_self) 2
          have f3 := blk_cell (HM.out.rows.mem List.mem_cons_self) 3
          go_wp2
          go_ret2
          obtain ⟨rfl, rfl⟩ := Prod.mk.inj HE.out
          exact ⟨rfl, below_then HB1.out HB1.out.size HM.out.below⟩

def provisoref05_Check.l0 : Nat → List (S46) → List (S46) → Int → Int → Option (Int × Int)
  | 0, _, _, _, _ => none
  | k + 1, x4, x20, x21, x22 => if x22 < x21 then (if 0 ≤ x22 then (if x22 < (x20.length : Int) then ((provisoref04_Jumps.f ((rd_T46 x20 x22).f1)).bind fun t286 => (if t286 = true then ((provisoref05_Place.f k x4 ((rd_T46 x20 x22).f2)).bind fun t287 => (if t287 < 0 then (some ((rd_T46 x20 x22).f0, 50)) else (provisoref05_Check.l0 k x4 x20 x21 (wrap64 (x22 + 1))))) else (provisoref05_Check.l0 k x4 x20 x21 (wrap64 (x22 + 1))))) else (none)) else (none)) else (if (x4.length : Int) = 0 then (some (0, 51)) else (if 0 ≤ (wrap64 ((x4.length : Int) - 1)) then (if (wrap64 ((x4.length : Int) - 1)) < (x4.length : Int) then ((provisoref04_Ends.f ((rd_T46 x4 (wrap64 ((x4.length : Int) - 1))).f1)).bind fun t290 => (if t290 = true then (some (0, 0)) else (some ((rd_T46 x4 (wrap64 ((x4.length : Int) - 1))).f0, 51)))) else (none)) else (none)))
def provisoref05_Check.f (k : Nat) (l0 : List Int) : Option (Int × Int) := (provisoref05_Scan.f k l0).bind fun bt279 => (if bt279.2.2 = 0 then (provisoref05_Check.l0 k bt279.1 bt279.1 (bt279.1.length : Int) 0) else (some (bt279.2.1, bt279.2.2)))
set_option maxHeartbeats 8000000 in
set_option maxRecDepth 100000 in
theorem provisoref05_Check.calls (k : Nat) (A0 : Option Addr) (c0 : Nat) (l0 : List Int) (r1 : Int) (r2 : Int) (w : World) (hr0 : Kd.C (Kd.int .u8) w A0 l0.length l0) (hc0 : l0.length ≤ c0) (h : provisoref05_Check.f k l0 = some (r1, r2)) :
    Calls Try.prog 29 #[.slice A0 l0.length c0] w fun e w' => e = .returned (.tuple #[.int .i64 r1, .int .i64 r2]) ∧ Below w.heap.size w w' := by
  have hu46 := Try.underlying46
  have HR0 := Aside0.mk hr0
  have HC0 := Aside0.mk hc0
  clear hr0 hc0
  have HB := Aside0.mk (Below.refl w.heap.size w)
  have H : ((provisoref05_Scan.f k l0).bind fun bt279 => (if bt279.2.2 = 0 then (provisoref05_Check.l0 k bt279.1 bt279.1 (bt279.1.length : Int) 0) else (some (bt279.2.1, bt279.2.2)))) = some (r1, r2) := h
  clear h
  replace H := Option.bind_eq_some_iff.mp H
  obtain ⟨⟨t279, t280, t281⟩, A20, H⟩ := H
  replace H : (if t281 = 0 then (provisoref05_Check.l0 k t279 t279 (t279.length : Int) 0) else (some (t280, t281))) = some (r1, r2) := H
  have A2 := Aside0.mk A20
  clear A20
  by_cases c3 : t281 = 0
  · rw [if_pos c3] at H
    have c3b0 : (t281 == 0) = true := beq_iff_eq.mpr c3
    have c3b1 : (t281 != 0) = false := bne_eq_false_iff_eq.mpr c3
    clear c3
    have H' := Aside0.mk H
    clear H
    go_enter Try.func29, Try.ntmps29
    go_wp2_with (first | ((with_reducible refine gate_callee (f := 13) rfl ?_); refine goesL_ (some 12) rfl rfl Try.func13 (by kernel_rfl) rfl #[.slice A0 l0.length c0] rfl (by (try simp only [List.map_toArray, List.map_cons, List.map_nil]); first | done | rfl | (simp only [List.length_drop, List.length_take]; rfl)) ?_; (with_reducible refine (provisoref05_Scan.calls k _ _ l0 t279 t280 t281 _ ?side1 ?side2 A2.out).mono ?_); (case side1 => repeat (first | exact HR0.out | (with_reducible refine Kd.C_alloc ?_ _) | (with_reducible refine Kd.C_drewN ?_ _) | (with_reducible refine Kd.C_drew ?_))); (case side2 => exact HC0.out); rintro e w4 ⟨v282, rfl, ho0, hb⟩; refine ⟨_, rfl, ?_⟩; have n0_ := Aside0.mk (Kd.R_lower ho0 (below_size (by repeat (first | (with_reducible first | exact HB.out | apply below_alloc | apply pw_below_drewN | apply below_drew1) | exact HB.out)))); have n1_ := Aside0.mk (below_step (by repeat (first | (with_reducible first | exact HB.out | apply below_alloc | apply pw_below_drewN | apply below_drew1) | exact HB.out)) hb); clear HB; have HO283 := n0_; have HB := n1_; clear n0_ n1_; (try clear hb); (try clear hb2); (try clear hk); (try clear hi); (try clear ho0); obtain ⟨Ao5, co5, eo5⟩ := Kd.R_slice HO283.out; subst eo5))
    go_loopg [22] k (fun kq v22 w' => ∃ (x22_1 : Int), v22 = .int .i64 x22_1 ∧ Aside0 (provisoref05_Check.l0 kq t279 t279 (t279.length : Int) x22_1 = some (r1, r2)) ∧ Aside0 (kq ≤ k) ∧ Aside0 (Kd.R k46 46 w' w.heap.size (fun _ => True) (.slice Ao5 t279.length co5) t279) ∧ Aside0 (Kd.R k46 46 w' w.heap.size (fun _ => True) (.slice Ao5 t279.length co5) t279) ∧ Aside0 (Below w.heap.size w w'))
    case atStart => exact ⟨(0), (by first | rfl | (simp; done) | (simp [*]; done)), H', ⟨Nat.le_refl _⟩, ⟨by (with_reducible repeat (first | apply Kd.R_alloc | apply Kd.R_drewN | apply Kd.R_drew)); exact HO283.out⟩, ⟨by (with_reducible repeat (first | apply Kd.R_alloc | apply Kd.R_drewN | apply Kd.R_drew)); exact HO283.out⟩, ⟨by repeat (first | (with_reducible first | exact HB.out | apply below_alloc | apply pw_below_drewN | apply below_drew1) | exact HB.out)⟩⟩
    case round =>
      clear H'
      try clear c1
      try clear c2
      try clear p2
      try clear c3
      try clear c3b0
      try clear c3b1
      obtain ⟨x22_1, rfl, HA, HK1, HO_4, HO_20, HB⟩ := hrel
      cases gk with
      | zero => exact absurd HA.out (by simp [provisoref05_Check.l0])
      | succ k1 =>
        have H := HA.out
        clear HA
        simp only [provisoref05_Check.l0] at H
        by_cases c6 : x22_1 < (t279.length : Int)
        · rw [if_pos c6] at H
          have c6b0 : decide (x22_1 < (t279.length : Int)) = true := decide_eq_true c6
          clear c6
          by_cases c7 : 0 ≤ x22_1
          · rw [if_pos c7] at H
            have c7b0 : decide (0 ≤ x22_1) = true := decide_eq_true c7
            clear c7
            by_cases c8 : x22_1 < (t279.length : Int)
            · rw [if_pos c8] at H
              have c8b0 : decide (x22_1 < (t279.length : Int)) = true := decide_eq_true c8
              clear c8
              replace H := Option.bind_eq_some_iff.mp H
              obtain ⟨t286, A90, H⟩ := H
              replace H : (if t286 = true then ((provisoref05_Place.f k1 t279 ((rd_T46 t279 x22_1).f2)).bind fun t287 => (if t287 < 0 then (some ((rd_T46 t279 x22_1).f0, 50)) else (provisoref05_Check.l0 k1 t279 t279 (t279.length : Int) (wrap64 (x22_1 + 1))))) else (provisoref05_Check.l0 k1 t279 t279 (t279.length : Int) (wrap64 (x22_1 + 1)))) = some (r1, r2) := H
              have A9 := Aside0.mk A90
              clear A90
              by_cases c10 : t286 = true
              · subst c10
                have H1 : ((provisoref05_Place.f k1 t279 ((rd_T46 t279 x22_1).f2)).bind fun t287 => (if t287 < 0 then (some ((rd_T46 t279 x22_1).f0, 50)) else (provisoref05_Check.l0 k1 t279 t279 (t279.length : Int) (wrap64 (x22_1 + 1))))) = some (r1, r2) := by rw [if_pos rfl] at H; exact H
                clear H
                have H := H1
                clear H1
                replace H := Option.bind_eq_some_iff.mp H
                obtain ⟨t287, A110, H⟩ := H
                replace H : (if t287 < 0 then (some ((rd_T46 t279 x22_1).f0, 50)) else (provisoref05_Check.l0 k1 t279 t279 (t279.length : Int) (wrap64 (x22_1 + 1)))) = some (r1, r2) := H
                have A11 := Aside0.mk A110
                clear A110
                by_cases c12 : t287 < 0
                · rw [if_pos c12] at H
                  have c12b0 : decide (t287 < 0) = true := decide_eq_true c12
                  clear c12
                  simp only [Option.some.injEq, Prod.mk.injEq] at H
                  obtain ⟨rfl, rfl⟩ := H
                  have p284 : 0 ≤ (x22_1 : Int) := of_decide_eq_true (by first | (with_reducible assumption) | assumption)
                  have q284 : x22_1 < (t279.length : Int) := of_decide_eq_true (by first | (with_reducible assumption) | assumption)
                  obtain ⟨ad284, e284, hx284_0, hx284_1, hx284_2, hx284_3⟩ := at_T46 (Kd.R_reads' HO_20.out).2.2 x22_1 p284 q284
                  cases e284
                  replace p284 := eq_true p284
                  replace q284 := eq_true q284
                  go_wp2_with (first | ((with_reducible refine gate_dst (N := 8) rfl ?_); refine box_event ?hg (N := 8) ?hd (cs := #[.int .i64 0, .int .u8 0, .int .i64 0, .int .i64 0]) (t := 46) ?hr ?_; (case hd => rfl); (case hg => rfl); (case hr => first | (go_simp; done) | (go_simp; rfl)); intro gb285 hg w13 hbox hb; have n0_ := Aside0.mk (Kd.R_below (Kd.R_elderB (by (with_reducible repeat (first | apply Kd.R_alloc | apply Kd.R_drewN | apply Kd.R_drew)); exact HO_4.out) gb285 (Nat.le_of_eq hg.symm)) hb); have n1_ := Aside0.mk (Kd.R_below (Kd.R_elderB (by (with_reducible repeat (first | apply Kd.R_alloc | apply Kd.R_drewN | apply Kd.R_drew)); exact HO_20.out) gb285 (Nat.le_of_eq hg.symm)) hb); have n2_ := Aside0.mk (below_step (by repeat (first | (with_reducible first | exact HB.out | apply below_alloc | apply pw_below_drewN | apply below_drew1) | exact HB.out)) hb); have n3_ := Aside0.mk (hbox); have n4_ := Aside0.mk ((by rw [hg]; exact (below_size (by repeat (first | (with_reducible first | exact HB.out | apply below_alloc | apply pw_below_drewN | apply below_drew1) | exact HB.out))) : w.heap.size ≤ gb285)); have n5_ := Aside0.mk ((by rw [hg]; exact (below_size (by repeat (first | (with_reducible first | exact HB.out | apply below_alloc | apply pw_below_drewN | apply below_drew1) | exact HB.out))) : w.heap.size ≤ gb285)); clear HO_4; clear HO_20; clear HB; have HO_4 := n0_; have HO_20 := n1_; have HB := n2_; have BK285 := n3_; have GW285 := n4_; have GE285 := n5_; clear n0_ n1_ n2_ n3_ n4_ n5_; clear hb hbox hg; have hcz14_0 : w13.cell? ⟨gb285, 0, none⟩ = some (.int .i64 0) := (blk_cell BK285.out 0).trans rfl; have hcz14_1 : w13.cell? ⟨gb285, 1, none⟩ = some (.int .u8 0) := (blk_cell BK285.out 1).trans rfl; have hcz14_2 : w13.cell? ⟨gb285, 2, none⟩ = some (.int .i64 0) := (blk_cell BK285.out 2).trans rfl; have hcz14_3 : w13.cell? ⟨gb285, 3, none⟩ = some (.int .i64 0) := (blk_cell BK285.out 3).trans rfl; have hfz14_0 := blk_frozen BK285.out 0; have hfz14_1 := blk_frozen BK285.out 1; have hfz14_2 := blk_frozen BK285.out 2; have hfz14_3 := blk_frozen BK285.out 3) | ((with_reducible refine gate_callee (f := 47) rfl ?_); refine goesL_ (some 28) rfl rfl Try.func47 (by kernel_rfl) rfl #[.int .u8 ((rd_T46 t279 x22_1).f1)] rfl (by (try simp only [List.map_toArray, List.map_cons, List.map_nil]); first | done | rfl | (simp only [List.length_drop, List.length_take]; rfl)) ?_; (with_reducible refine (provisoref04_Jumps.calls ((rd_T46 t279 x22_1).f1) true _ A9.out).mono ?_); rintro e w' ⟨rfl, ⟨nd, rfl⟩⟩; refine ⟨_, rfl, ?_⟩) | (go_at_call 49; (with_reducible refine (provisoref05_Place.calls k1 _ _ t279 ((rd_T46 t279 x22_1).f2) t287 _ ?side1 ?side2 A11.out).mono ?_); (case side1 => refine (Kd.R_reads' (e := 46) (base := w.heap.size) (ok := fun k_ => (True ∧ k_ ≠ gb285)) (n := t279.length) (c := co5) ?_).2.2; exact (by (with_reducible repeat (first | apply Kd.R_alloc | apply Kd.R_drewN | apply Kd.R_drew)); exact (Kd.R_mono (Kd.R_far (p := ⟨gb285, 3, none⟩) (Kd.R_far (p := ⟨gb285, 2, none⟩) (Kd.R_far (p := ⟨gb285, 1, none⟩) (Kd.R_far (p := ⟨gb285, 0, none⟩) (Kd.R_mono HO_4.out (fun k_ hk => (⟨hk, hk.2⟩ : _ ∧ k_ ≠ gb285))) (fun _ hk => hk.2) (.int .i64 ((rd_T46 t279 x22_1).f0))) (fun _ hk => hk.2) (.int .u8 ((rd_T46 t279 x22_1).f1))) (fun _ hk => hk.2) (.int .i64 ((rd_T46 t279 x22_1).f2))) (fun _ hk => hk.2) (.int .i64 ((rd_T46 t279 x22_1).f3))) (fun _ h_ => h_.1)))); (case side2 => exact (Kd.R_reads' HO_4.out).2.1); rintro e w15 ⟨rfl, hb⟩; have n0_ := Aside0.mk (Kd.R_below (by (with_reducible repeat (first | apply Kd.R_alloc | apply Kd.R_drewN | apply Kd.R_drew)); exact (Kd.R_mono (Kd.R_far (p := ⟨gb285, 3, none⟩) (Kd.R_far (p := ⟨gb285, 2, none⟩) (Kd.R_far (p := ⟨gb285, 1, none⟩) (Kd.R_far (p := ⟨gb285, 0, none⟩) (Kd.R_mono HO_4.out (fun k_ hk => (⟨hk, hk.2⟩ : _ ∧ k_ ≠ gb285))) (fun _ hk => hk.2) (.int .i64 ((rd_T46 t279 x22_1).f0))) (fun _ hk => hk.2) (.int .u8 ((rd_T46 t279 x22_1).f1))) (fun _ hk => hk.2) (.int .i64 ((rd_T46 t279 x22_1).f2))) (fun _ hk => hk.2) (.int .i64 ((rd_T46 t279 x22_1).f3))) (fun _ h_ => h_.1))) hb); have n1_ := Aside0.mk (Kd.R_below (by (with_reducible repeat (first | apply Kd.R_alloc | apply Kd.R_drewN | apply Kd.R_drew)); exact (Kd.R_mono (Kd.R_far (p := ⟨gb285, 3, none⟩) (Kd.R_far (p := ⟨gb285, 2, none⟩) (Kd.R_far (p := ⟨gb285, 1, none⟩) (Kd.R_far (p := ⟨gb285, 0, none⟩) (Kd.R_mono HO_20.out (fun k_ hk => (⟨hk, hk.2⟩ : _ ∧ k_ ≠ gb285))) (fun _ hk => hk.2) (.int .i64 ((rd_T46 t279 x22_1).f0))) (fun _ hk => hk.2) (.int .u8 ((rd_T46 t279 x22_1).f1))) (fun _ hk => hk.2) (.int .i64 ((rd_T46 t279 x22_1).f2))) (fun _ hk => hk.2) (.int .i64 ((rd_T46 t279 x22_1).f3))) (fun _ h_ => h_.1))) hb); have n2_ := Aside0.mk (blk_below (g := gb285) (o := .cells #[.int .i64 ((rd_T46 t279 x22_1).f0), .int .u8 ((rd_T46 t279 x22_1).f1), .int .i64 ((rd_T46 t279 x22_1).f2), .int .i64 ((rd_T46 t279 x22_1).f3)] 46 (0, 0)) (by (with_reducible repeat (first | refine blk_drewN ?_ _ | refine blk_drew ?_ | refine blk_alloc ?_ _)); refine blk_put (cs := #[.int .i64 ((rd_T46 t279 x22_1).f0), .int .u8 ((rd_T46 t279 x22_1).f1), .int .i64 ((rd_T46 t279 x22_1).f2), .int .i64 0]) ?_ 3 _ rfl; (with_reducible repeat (first | refine blk_drewN ?_ _ | refine blk_drew ?_ | refine blk_alloc ?_ _)); refine blk_put (cs := #[.int .i64 ((rd_T46 t279 x22_1).f0), .int .u8 ((rd_T46 t279 x22_1).f1), .int .i64 0, .int .i64 0]) ?_ 2 _ rfl; (with_reducible repeat (first | refine blk_drewN ?_ _ | refine blk_drew ?_ | refine blk_alloc ?_ _)); refine blk_put (cs := #[.int .i64 ((rd_T46 t279 x22_1).f0), .int .u8 0, .int .i64 0, .int .i64 0]) ?_ 1 _ rfl; (with_reducible repeat (first | refine blk_drewN ?_ _ | refine blk_drew ?_ | refine blk_alloc ?_ _)); refine blk_put (cs := #[.int .i64 0, .int .u8 0, .int .i64 0, .int .i64 0]) ?_ 0 _ rfl; (with_reducible repeat (first | refine blk_drewN ?_ _ | refine blk_drew ?_ | refine blk_alloc ?_ _)); exact BK285.out) hb); have n3_ := Aside0.mk (below_step (by repeat (first | (with_reducible first | exact HB.out | apply below_alloc | apply pw_below_drewN | apply below_drew1 | refine below_set ?_ GE285.out) | exact HB.out)) hb); clear HO_4; clear HO_20; clear BK285; clear HB; have HO_4 := n0_; have HO_20 := n1_; have BK285 := n2_; have HB := n3_; clear n0_ n1_ n2_ n3_; (try clear hb); (try clear hb2); (try clear hk); (try clear hi); have hcz16_0 : w15.cell? ⟨gb285, 0, none⟩ = some (.int .i64 ((rd_T46 t279 x22_1).f0)) := (blk_cell BK285.out 0).trans rfl; have hcz16_1 : w15.cell? ⟨gb285, 1, none⟩ = some (.int .u8 ((rd_T46 t279 x22_1).f1)) := (blk_cell BK285.out 1).trans rfl; have hcz16_2 : w15.cell? ⟨gb285, 2, none⟩ = some (.int .i64 ((rd_T46 t279 x22_1).f2)) := (blk_cell BK285.out 2).trans rfl; have hcz16_3 : w15.cell? ⟨gb285, 3, none⟩ = some (.int .i64 ((rd_T46 t279 x22_1).f3)) := (blk_cell BK285.out 3).trans rfl; have hfz16_0 := blk_frozen BK285.out 0; have hfz16_1 := blk_frozen BK285.out 1; have hfz16_2 := blk_frozen BK285.out 2; have hfz16_3 := blk_frozen BK285.out 3))
                  go_ret2
                  exact ⟨by first | rfl | (simp [errW_none, errW_some] <;> rfl) | (simp [*, errW_none, errW_some] <;> rfl), by repeat (first | (with_reducible first | exact HB.out | apply below_alloc | apply pw_below_drewN | apply below_drew1 | refine below_set ?_ GE285.out) | exact HB.out)⟩
                · rw [if_neg c12] at H
                  have c12b0 : decide (t287 < 0) = false := decide_eq_false c12
                  clear c12
                  have H' := Aside0.mk H
                  clear H
                  have p284 : 0 ≤ (x22_1 : Int) := of_decide_eq_true (by first | (with_reducible assumption) | assumption)
                  have q284 : x22_1 < (t279.length : Int) := of_decide_eq_true (by first | (with_reducible assumption) | assumption)
                  obtain ⟨ad284, e284, hx284_0, hx284_1, hx284_2, hx284_3⟩ := at_T46 (Kd.R_reads' HO_20.out).2.2 x22_1 p284 q284
                  cases e284
                  replace p284 := eq_true p284
                  replace q284 := eq_true q284
                  go_wp2_with (first | ((with_reducible refine gate_dst (N := 8) rfl ?_); refine box_event ?hg (N := 8) ?hd (cs := #[.int .i64 0, .int .u8 0, .int .i64 0, .int .i64 0]) (t := 46) ?hr ?_; (case hd => rfl); (case hg => rfl); (case hr => first | (go_simp; done) | (go_simp; rfl)); intro gb285 hg w17 hbox hb; have n0_ := Aside0.mk (Kd.R_below (Kd.R_elderB (by (with_reducible repeat (first | apply Kd.R_alloc | apply Kd.R_drewN | apply Kd.R_drew)); exact HO_4.out) gb285 (Nat.le_of_eq hg.symm)) hb); have n1_ := Aside0.mk (Kd.R_below (Kd.R_elderB (by (with_reducible repeat (first | apply Kd.R_alloc | apply Kd.R_drewN | apply Kd.R_drew)); exact HO_20.out) gb285 (Nat.le_of_eq hg.symm)) hb); have n2_ := Aside0.mk (below_step (by repeat (first | (with_reducible first | exact HB.out | apply below_alloc | apply pw_below_drewN | apply below_drew1) | exact HB.out)) hb); have n3_ := Aside0.mk (hbox); have n4_ := Aside0.mk ((by rw [hg]; exact (below_size (by repeat (first | (with_reducible first | exact HB.out | apply below_alloc | apply pw_below_drewN | apply below_drew1) | exact HB.out))) : w.heap.size ≤ gb285)); have n5_ := Aside0.mk ((by rw [hg]; exact (below_size (by repeat (first | (with_reducible first | exact HB.out | apply below_alloc | apply pw_below_drewN | apply below_drew1) | exact HB.out))) : w.heap.size ≤ gb285)); clear HO_4; clear HO_20; clear HB; have HO_4 := n0_; have HO_20 := n1_; have HB := n2_; have BK285 := n3_; have GW285 := n4_; have GE285 := n5_; clear n0_ n1_ n2_ n3_ n4_ n5_; clear hb hbox hg; have hcz18_0 : w17.cell? ⟨gb285, 0, none⟩ = some (.int .i64 0) := (blk_cell BK285.out 0).trans rfl; have hcz18_1 : w17.cell? ⟨gb285, 1, none⟩ = some (.int .u8 0) := (blk_cell BK285.out 1).trans rfl; have hcz18_2 : w17.cell? ⟨gb285, 2, none⟩ = some (.int .i64 0) := (blk_cell BK285.out 2).trans rfl; have hcz18_3 : w17.cell? ⟨gb285, 3, none⟩ = some (.int .i64 0) := (blk_cell BK285.out 3).trans rfl; have hfz18_0 := blk_frozen BK285.out 0; have hfz18_1 := blk_frozen BK285.out 1; have hfz18_2 := blk_frozen BK285.out 2; have hfz18_3 := blk_frozen BK285.out 3) | ((with_reducible refine gate_callee (f := 47) rfl ?_); refine goesL_ (some 28) rfl rfl Try.func47 (by kernel_rfl) rfl #[.int .u8 ((rd_T46 t279 x22_1).f1)] rfl (by (try simp only [List.map_toArray, List.map_cons, List.map_nil]); first | done | rfl | (simp only [List.length_drop, List.length_take]; rfl)) ?_; (with_reducible refine (provisoref04_Jumps.calls ((rd_T46 t279 x22_1).f1) true _ A9.out).mono ?_); rintro e w' ⟨rfl, ⟨nd, rfl⟩⟩; refine ⟨_, rfl, ?_⟩) | (go_at_call 49; (with_reducible refine (provisoref05_Place.calls k1 _ _ t279 ((rd_T46 t279 x22_1).f2) t287 _ ?side1 ?side2 A11.out).mono ?_); (case side1 => refine (Kd.R_reads' (e := 46) (base := w.heap.size) (ok := fun k_ => (True ∧ k_ ≠ gb285)) (n := t279.length) (c := co5) ?_).2.2; exact (by (with_reducible repeat (first | apply Kd.R_alloc | apply Kd.R_drewN | apply Kd.R_drew)); exact (Kd.R_mono (Kd.R_far (p := ⟨gb285, 3, none⟩) (Kd.R_far (p := ⟨gb285, 2, none⟩) (Kd.R_far (p := ⟨gb285, 1, none⟩) (Kd.R_far (p := ⟨gb285, 0, none⟩) (Kd.R_mono HO_4.out (fun k_ hk => (⟨hk, hk.2⟩ : _ ∧ k_ ≠ gb285))) (fun _ hk => hk.2) (.int .i64 ((rd_T46 t279 x22_1).f0))) (fun _ hk => hk.2) (.int .u8 ((rd_T46 t279 x22_1).f1))) (fun _ hk => hk.2) (.int .i64 ((rd_T46 t279 x22_1).f2))) (fun _ hk => hk.2) (.int .i64 ((rd_T46 t279 x22_1).f3))) (fun _ h_ => h_.1)))); (case side2 => exact (Kd.R_reads' HO_4.out).2.1); rintro e w19 ⟨rfl, hb⟩; have n0_ := Aside0.mk (Kd.R_below (by (with_reducible repeat (first | apply Kd.R_alloc | apply Kd.R_drewN | apply Kd.R_drew)); exact (Kd.R_mono (Kd.R_far (p := ⟨gb285, 3, none⟩) (Kd.R_far (p := ⟨gb285, 2, none⟩) (Kd.R_far (p := ⟨gb285, 1, none⟩) (Kd.R_far (p := ⟨gb285, 0, none⟩) (Kd.R_mono HO_4.out (fun k_ hk => (⟨hk, hk.2⟩ : _ ∧ k_ ≠ gb285))) (fun _ hk => hk.2) (.int .i64 ((rd_T46 t279 x22_1).f0))) (fun _ hk => hk.2) (.int .u8 ((rd_T46 t279 x22_1).f1))) (fun _ hk => hk.2) (.int .i64 ((rd_T46 t279 x22_1).f2))) (fun _ hk => hk.2) (.int .i64 ((rd_T46 t279 x22_1).f3))) (fun _ h_ => h_.1))) hb); have n1_ := Aside0.mk (Kd.R_below (by (with_reducible repeat (first | apply Kd.R_alloc | apply Kd.R_drewN | apply Kd.R_drew)); exact (Kd.R_mono (Kd.R_far (p := ⟨gb285, 3, none⟩) (Kd.R_far (p := ⟨gb285, 2, none⟩) (Kd.R_far (p := ⟨gb285, 1, none⟩) (Kd.R_far (p := ⟨gb285, 0, none⟩) (Kd.R_mono HO_20.out (fun k_ hk => (⟨hk, hk.2⟩ : _ ∧ k_ ≠ gb285))) (fun _ hk => hk.2) (.int .i64 ((rd_T46 t279 x22_1).f0))) (fun _ hk => hk.2) (.int .u8 ((rd_T46 t279 x22_1).f1))) (fun _ hk => hk.2) (.int .i64 ((rd_T46 t279 x22_1).f2))) (fun _ hk => hk.2) (.int .i64 ((rd_T46 t279 x22_1).f3))) (fun _ h_ => h_.1))) hb); have n2_ := Aside0.mk (blk_below (g := gb285) (o := .cells #[.int .i64 ((rd_T46 t279 x22_1).f0), .int .u8 ((rd_T46 t279 x22_1).f1), .int .i64 ((rd_T46 t279 x22_1).f2), .int .i64 ((rd_T46 t279 x22_1).f3)] 46 (0, 0)) (by (with_reducible repeat (first | refine blk_drewN ?_ _ | refine blk_drew ?_ | refine blk_alloc ?_ _)); refine blk_put (cs := #[.int .i64 ((rd_T46 t279 x22_1).f0), .int .u8 ((rd_T46 t279 x22_1).f1), .int .i64 ((rd_T46 t279 x22_1).f2), .int .i64 0]) ?_ 3 _ rfl; (with_reducible repeat (first | refine blk_drewN ?_ _ | refine blk_drew ?_ | refine blk_alloc ?_ _)); refine blk_put (cs := #[.int .i64 ((rd_T46 t279 x22_1).f0), .int .u8 ((rd_T46 t279 x22_1).f1), .int .i64 0, .int .i64 0]) ?_ 2 _ rfl; (with_reducible repeat (first | refine blk_drewN ?_ _ | refine blk_drew ?_ | refine blk_alloc ?_ _)); refine blk_put (cs := #[.int .i64 ((rd_T46 t279 x22_1).f0), .int .u8 0, .int .i64 0, .int .i64 0]) ?_ 1 _ rfl; (with_reducible repeat (first | refine blk_drewN ?_ _ | refine blk_drew ?_ | refine blk_alloc ?_ _)); refine blk_put (cs := #[.int .i64 0, .int .u8 0, .int .i64 0, .int .i64 0]) ?_ 0 _ rfl; (with_reducible repeat (first | refine blk_drewN ?_ _ | refine blk_drew ?_ | refine blk_alloc ?_ _)); exact BK285.out) hb); have n3_ := Aside0.mk (below_step (by repeat (first | (with_reducible first | exact HB.out | apply below_alloc | apply pw_below_drewN | apply below_drew1 | refine below_set ?_ GE285.out) | exact HB.out)) hb); clear HO_4; clear HO_20; clear BK285; clear HB; have HO_4 := n0_; have HO_20 := n1_; have BK285 := n2_; have HB := n3_; clear n0_ n1_ n2_ n3_; (try clear hb); (try clear hb2); (try clear hk); (try clear hi)))
                  go_roundg k1
                  case measure => have := HK1.out; omega
                  case rel => exact ⟨(wrap64 (x22_1 + 1)), (by first | rfl | (simp; done) | (simp [*]; done)), H', ⟨by have := HK1.out; omega⟩, ⟨by (with_reducible repeat (first | apply Kd.R_alloc | apply Kd.R_drewN | apply Kd.R_drew)); exact Kd.R_mono HO_4.out (fun _ hk => trivial)⟩, ⟨by (with_reducible repeat (first | apply Kd.R_alloc | apply Kd.R_drewN | apply Kd.R_drew)); exact Kd.R_mono HO_20.out (fun _ hk => trivial)⟩, ⟨by repeat (first | (with_reducible first | exact HB.out | apply below_alloc | apply pw_below_drewN | apply below_drew1 | refine below_set ?_ GE285.out) | exact HB.out)⟩⟩
              · replace c10 := Bool.eq_false_iff.mpr c10
                subst c10
                have H1 : (provisoref05_Check.l0 k1 t279 t279 (t279.length : Int) (wrap64 (x22_1 + 1))) = some (r1, r2) := by rw [if_neg (show ¬ (false = true) by decide)] at H; exact H
                clear H
                have H := H1
                clear H1
                have H' := Aside0.mk H
                clear H
                have p284 : 0 ≤ (x22_1 : Int) := of_decide_eq_true (by first | (with_reducible assumption) | assumption)
                have q284 : x22_1 < (t279.length : Int) := of_decide_eq_true (by first | (with_reducible assumption) | assumption)
                obtain ⟨ad284, e284, hx284_0, hx284_1, hx284_2, hx284_3⟩ := at_T46 (Kd.R_reads' HO_20.out).2.2 x22_1 p284 q284
                cases e284
                replace p284 := eq_true p284
                replace q284 := eq_true q284
                go_wp2_with (first | ((with_reducible refine gate_dst (N := 8) rfl ?_); refine box_event ?hg (N := 8) ?hd (cs := #[.int .i64 0, .int .u8 0, .int .i64 0, .int .i64 0]) (t := 46) ?hr ?_; (case hd => rfl); (case hg => rfl); (case hr => first | (go_simp; done) | (go_simp; rfl)); intro gb285 hg w20 hbox hb; have n0_ := Aside0.mk (Kd.R_below (Kd.R_elderB (by (with_reducible repeat (first | apply Kd.R_alloc | apply Kd.R_drewN | apply Kd.R_drew)); exact HO_4.out) gb285 (Nat.le_of_eq hg.symm)) hb); have n1_ := Aside0.mk (Kd.R_below (Kd.R_elderB (by (with_reducible repeat (first | apply Kd.R_alloc | apply Kd.R_drewN | apply Kd.R_drew)); exact HO_20.out) gb285 (Nat.le_of_eq hg.symm)) hb); have n2_ := Aside0.mk (below_step (by repeat (first | (with_reducible first | exact HB.out | apply below_alloc | apply pw_below_drewN | apply below_drew1) | exact HB.out)) hb); have n3_ := Aside0.mk (hbox); have n4_ := Aside0.mk ((by rw [hg]; exact (below_size (by repeat (first | (with_reducible first | exact HB.out | apply below_alloc | apply pw_below_drewN | apply below_drew1) | exact HB.out))) : w.heap.size ≤ gb285)); have n5_ := Aside0.mk ((by rw [hg]; exact (below_size (by repeat (first | (with_reducible first | exact HB.out | apply below_alloc | apply pw_below_drewN | apply below_drew1) | exact HB.out))) : w.heap.size ≤ gb285)); clear HO_4; clear HO_20; clear HB; have HO_4 := n0_; have HO_20 := n1_; have HB := n2_; have BK285 := n3_; have GW285 := n4_; have GE285 := n5_; clear n0_ n1_ n2_ n3_ n4_ n5_; clear hb hbox hg; have hcz21_0 : w20.cell? ⟨gb285, 0, none⟩ = some (.int .i64 0) := (blk_cell BK285.out 0).trans rfl; have hcz21_1 : w20.cell? ⟨gb285, 1, none⟩ = some (.int .u8 0) := (blk_cell BK285.out 1).trans rfl; have hcz21_2 : w20.cell? ⟨gb285, 2, none⟩ = some (.int .i64 0) := (blk_cell BK285.out 2).trans rfl; have hcz21_3 : w20.cell? ⟨gb285, 3, none⟩ = some (.int .i64 0) := (blk_cell BK285.out 3).trans rfl; have hfz21_0 := blk_frozen BK285.out 0; have hfz21_1 := blk_frozen BK285.out 1; have hfz21_2 := blk_frozen BK285.out 2; have hfz21_3 := blk_frozen BK285.out 3) | ((with_reducible refine gate_callee (f := 47) rfl ?_); refine goesL_ (some 28) rfl rfl Try.func47 (by kernel_rfl) rfl #[.int .u8 ((rd_T46 t279 x22_1).f1)] rfl (by (try simp only [List.map_toArray, List.map_cons, List.map_nil]); first | done | rfl | (simp only [List.length_drop, List.length_take]; rfl)) ?_; (with_reducible refine (provisoref04_Jumps.calls ((rd_T46 t279 x22_1).f1) false _ A9.out).mono ?_); rintro e w' ⟨rfl, ⟨nd, rfl⟩⟩; refine ⟨_, rfl, ?_⟩))
                go_roundg k1
                case measure => have := HK1.out; omega
                case rel => exact ⟨(wrap64 (x22_1 + 1)), (by first | rfl | (simp; done) | (simp [*]; done)), H', ⟨by have := HK1.out; omega⟩, ⟨by (with_reducible repeat (first | apply Kd.R_alloc | apply Kd.R_drewN | apply Kd.R_drew)); exact Kd.R_mono (Kd.R_far (p := ⟨gb285, 3, none⟩) (Kd.R_far (p := ⟨gb285, 2, none⟩) (Kd.R_far (p := ⟨gb285, 1, none⟩) (Kd.R_far (p := ⟨gb285, 0, none⟩) (Kd.R_mono HO_4.out (fun k_ hk => (⟨hk, hk.2⟩ : _ ∧ k_ ≠ gb285))) (fun _ hk => hk.2) (.int .i64 ((rd_T46 t279 x22_1).f0))) (fun _ hk => hk.2) (.int .u8 ((rd_T46 t279 x22_1).f1))) (fun _ hk => hk.2) (.int .i64 ((rd_T46 t279 x22_1).f2))) (fun _ hk => hk.2) (.int .i64 ((rd_T46 t279 x22_1).f3))) (fun _ hk => trivial)⟩, ⟨by (with_reducible repeat (first | apply Kd.R_alloc | apply Kd.R_drewN | apply Kd.R_drew)); exact Kd.R_mono (Kd.R_far (p := ⟨gb285, 3, none⟩) (Kd.R_far (p := ⟨gb285, 2, none⟩) (Kd.R_far (p := ⟨gb285, 1, none⟩) (Kd.R_far (p := ⟨gb285, 0, none⟩) (Kd.R_mono HO_20.out (fun k_ hk => (⟨hk, hk.2⟩ : _ ∧ k_ ≠ gb285))) (fun _ hk => hk.2) (.int .i64 ((rd_T46 t279 x22_1).f0))) (fun _ hk => hk.2) (.int .u8 ((rd_T46 t279 x22_1).f1))) (fun _ hk => hk.2) (.int .i64 ((rd_T46 t279 x22_1).f2))) (fun _ hk => hk.2) (.int .i64 ((rd_T46 t279 x22_1).f3))) (fun _ hk => trivial)⟩, ⟨by repeat (first | (with_reducible first | exact HB.out | apply below_alloc | apply pw_below_drewN | apply below_drew1 | refine below_set ?_ GE285.out) | exact HB.out)⟩⟩
            · rw [if_neg c8] at H
              exact absurd H (by simp)
          · rw [if_neg c7] at H
            exact absurd H (by simp)
        · rw [if_neg c6] at H
          have c6b0 : decide (x22_1 < (t279.length : Int)) = false := decide_eq_false c6
          clear c6
          by_cases c22 : (t279.length : Int) = 0
          · rw [if_pos c22] at H
            have c22b0 : ((t279.length : Int) == 0) = true := beq_iff_eq.mpr c22
            have c22b1 : ((t279.length : Int) != 0) = false := bne_eq_false_iff_eq.mpr c22
            clear c22
            simp only [Option.some.injEq, Prod.mk.injEq] at H
            obtain ⟨rfl, rfl⟩ := H
            go_wp2
            go_ret2
            exact ⟨by first | rfl | (simp [errW_none, errW_some] <;> rfl) | (simp [*, errW_none, errW_some] <;> rfl), by repeat (first | (with_reducible first | exact HB.out | apply below_alloc | apply pw_below_drewN | apply below_drew1) | exact HB.out)⟩
          · rw [if_neg c22] at H
            have c22b0 : ((t279.length : Int) == 0) = false := beq_eq_false_iff_ne.mpr c22
            have c22b1 : ((t279.length : Int) != 0) = true := bne_iff_ne.mpr c22
            have c22b2 : ¬ (t279 = []) := fun h_ => c22 (by rw [h_]; rfl)
            obtain ⟨ji23, hji23⟩ : ∃ j_ : Int, (wrap64 ((t279.length : Int) - 1)) = j_ := ⟨_, rfl⟩
            replace H : (if 0 ≤ (ji23) then (if (ji23) < (t279.length : Int) then ((provisoref04_Ends.f ((rd_T46 t279 (ji23)).f1)).bind fun t290 => (if t290 = true then (some (0, 0)) else (some ((rd_T46 t279 (ji23)).f0, 51)))) else (none)) else (none)) = some (r1, r2) := by first | (rw [hji23] at H; exact H) | (simp only [hji23] at H ⊢; exact H)
            have hji23w : (IntKind.i64.wrap ((t279.length : Int) - 1)) = ji23 := (i64_w _).trans hji23
            by_cases c24 : 0 ≤ (ji23)
            · rw [if_pos c24] at H
              have c24b0 : decide (0 ≤ (ji23)) = true := decide_eq_true c24
              clear c24
              by_cases c25 : (ji23) < (t279.length : Int)
              · rw [if_pos c25] at H
                have c25b0 : decide ((ji23) < (t279.length : Int)) = true := decide_eq_true c25
                clear c25
                replace H := Option.bind_eq_some_iff.mp H
                obtain ⟨t290, A260, H⟩ := H
                replace H : (if t290 = true then (some (0, 0)) else (some ((rd_T46 t279 (ji23)).f0, 51))) = some (r1, r2) := H
                have A26 := Aside0.mk A260
                clear A260
                by_cases c27 : t290 = true
                · subst c27
                  have H1 : (some (0, 0)) = some (r1, r2) := by rw [if_pos rfl] at H; exact H
                  clear H
                  have H := H1
                  clear H1
                  simp only [Option.some.injEq, Prod.mk.injEq] at H
                  obtain ⟨rfl, rfl⟩ := H
                  have p288 : 0 ≤ ((ji23) : Int) := of_decide_eq_true (by first | (with_reducible assumption) | assumption)
                  have q288 : (ji23) < (t279.length : Int) := of_decide_eq_true (by first | (with_reducible assumption) | assumption)
                  obtain ⟨ad288, e288, hx288_0, hx288_1, hx288_2, hx288_3⟩ := at_T46 (Kd.R_reads' HO_4.out).2.2 (ji23) p288 q288
                  cases e288
                  replace p288 := eq_true p288
                  replace q288 := eq_true q288
                  go_wp2_with (first | ((with_reducible refine gate_dst (N := 9) rfl ?_); refine box_event ?hg (N := 9) ?hd (cs := #[.int .i64 0, .int .u8 0, .int .i64 0, .int .i64 0]) (t := 46) ?hr ?_; (case hd => rfl); (case hg => rfl); (case hr => first | (go_simp; done) | (go_simp; rfl)); intro gb289 hg w28 hbox hb; have n0_ := Aside0.mk (Kd.R_below (Kd.R_elderB (by (with_reducible repeat (first | apply Kd.R_alloc | apply Kd.R_drewN | apply Kd.R_drew)); exact HO_4.out) gb289 (Nat.le_of_eq hg.symm)) hb); have n1_ := Aside0.mk (Kd.R_below (Kd.R_elderB (by (with_reducible repeat (first | apply Kd.R_alloc | apply Kd.R_drewN | apply Kd.R_drew)); exact HO_20.out) gb289 (Nat.le_of_eq hg.symm)) hb); have n2_ := Aside0.mk (below_step (by repeat (first | (with_reducible first | exact HB.out | apply below_alloc | apply pw_below_drewN | apply below_drew1) | exact HB.out)) hb); have n3_ := Aside0.mk (hbox); have n4_ := Aside0.mk ((by rw [hg]; exact (below_size (by repeat (first | (with_reducible first | exact HB.out | apply below_alloc | apply pw_below_drewN | apply below_drew1) | exact HB.out))) : w.heap.size ≤ gb289)); have n5_ := Aside0.mk ((by rw [hg]; exact (below_size (by repeat (first | (with_reducible first | exact HB.out | apply below_alloc | apply pw_below_drewN | apply below_drew1) | exact HB.out))) : w.heap.size ≤ gb289)); clear HO_4; clear HO_20; clear HB; have HO_4 := n0_; have HO_20 := n1_; have HB := n2_; have BK289 := n3_; have GW289 := n4_; have GE289 := n5_; clear n0_ n1_ n2_ n3_ n4_ n5_; clear hb hbox hg; have hcz29_0 : w28.cell? ⟨gb289, 0, none⟩ = some (.int .i64 0) := (blk_cell BK289.out 0).trans rfl; have hcz29_1 : w28.cell? ⟨gb289, 1, none⟩ = some (.int .u8 0) := (blk_cell BK289.out 1).trans rfl; have hcz29_2 : w28.cell? ⟨gb289, 2, none⟩ = some (.int .i64 0) := (blk_cell BK289.out 2).trans rfl; have hcz29_3 : w28.cell? ⟨gb289, 3, none⟩ = some (.int .i64 0) := (blk_cell BK289.out 3).trans rfl; have hfz29_0 := blk_frozen BK289.out 0; have hfz29_1 := blk_frozen BK289.out 1; have hfz29_2 := blk_frozen BK289.out 2; have hfz29_3 := blk_frozen BK289.out 3) | ((with_reducible refine gate_callee (f := 48) rfl ?_); refine goesL_ (some 50) rfl rfl Try.func48 (by kernel_rfl) rfl #[.int .u8 ((rd_T46 t279 (ji23)).f1)] rfl (by (try simp only [List.map_toArray, List.map_cons, List.map_nil]); first | done | (simp only [hji23]; rfl) | rfl | (simp only [List.length_drop, List.length_take]; rfl)) ?_; (with_reducible refine (provisoref04_Ends.calls ((rd_T46 t279 (ji23)).f1) true _ A26.out).mono ?_); rintro e w' ⟨rfl, ⟨nd, rfl⟩⟩; refine ⟨_, rfl, ?_⟩))
                  go_ret2
                  exact ⟨by first | rfl | (simp [errW_none, errW_some] <;> rfl) | (simp only [← hji23]; first | rfl | (simp [errW_none, errW_some] <;> rfl)) | (simp [*, errW_none, errW_some] <;> rfl), by repeat (first | (with_reducible first | exact HB.out | apply below_alloc | apply pw_below_drewN | apply below_drew1 | refine below_set ?_ GE289.out) | exact HB.out)⟩
                · replace c27 := Bool.eq_false_iff.mpr c27
                  subst c27
                  have H1 : (some ((rd_T46 t279 (ji23)).f0, 51)) = some (r1, r2) := by rw [if_neg (show ¬ (false = true) by decide)] at H; exact H
                  clear H
                  have H := H1
                  clear H1
                  simp only [Option.some.injEq, Prod.mk.injEq] at H
                  obtain ⟨rfl, rfl⟩ := H
                  have p288 : 0 ≤ ((ji23) : Int) := of_decide_eq_true (by first | (with_reducible assumption) | assumption)
                  have q288 : (ji23) < (t279.length : Int) := of_decide_eq_true (by first | (with_reducible assumption) | assumption)
                  obtain ⟨ad288, e288, hx288_0, hx288_1, hx288_2, hx288_3⟩ := at_T46 (Kd.R_reads' HO_4.out).2.2 (ji23) p288 q288
                  cases e288
                  replace p288 := eq_true p288
                  replace q288 := eq_true q288
                  go_wp2_with (first | ((with_reducible refine gate_dst (N := 9) rfl ?_); refine box_event ?hg (N := 9) ?hd (cs := #[.int .i64 0, .int .u8 0, .int .i64 0, .int .i64 0]) (t := 46) ?hr ?_; (case hd => rfl); (case hg => rfl); (case hr => first | (go_simp; done) | (go_simp; rfl)); intro gb289 hg w30 hbox hb; have n0_ := Aside0.mk (Kd.R_below (Kd.R_elderB (by (with_reducible repeat (first | apply Kd.R_alloc | apply Kd.R_drewN | apply Kd.R_drew)); exact HO_4.out) gb289 (Nat.le_of_eq hg.symm)) hb); have n1_ := Aside0.mk (Kd.R_below (Kd.R_elderB (by (with_reducible repeat (first | apply Kd.R_alloc | apply Kd.R_drewN | apply Kd.R_drew)); exact HO_20.out) gb289 (Nat.le_of_eq hg.symm)) hb); have n2_ := Aside0.mk (below_step (by repeat (first | (with_reducible first | exact HB.out | apply below_alloc | apply pw_below_drewN | apply below_drew1) | exact HB.out)) hb); have n3_ := Aside0.mk (hbox); have n4_ := Aside0.mk ((by rw [hg]; exact (below_size (by repeat (first | (with_reducible first | exact HB.out | apply below_alloc | apply pw_below_drewN | apply below_drew1) | exact HB.out))) : w.heap.size ≤ gb289)); have n5_ := Aside0.mk ((by rw [hg]; exact (below_size (by repeat (first | (with_reducible first | exact HB.out | apply below_alloc | apply pw_below_drewN | apply below_drew1) | exact HB.out))) : w.heap.size ≤ gb289)); clear HO_4; clear HO_20; clear HB; have HO_4 := n0_; have HO_20 := n1_; have HB := n2_; have BK289 := n3_; have GW289 := n4_; have GE289 := n5_; clear n0_ n1_ n2_ n3_ n4_ n5_; clear hb hbox hg; have hcz31_0 : w30.cell? ⟨gb289, 0, none⟩ = some (.int .i64 0) := (blk_cell BK289.out 0).trans rfl; have hcz31_1 : w30.cell? ⟨gb289, 1, none⟩ = some (.int .u8 0) := (blk_cell BK289.out 1).trans rfl; have hcz31_2 : w30.cell? ⟨gb289, 2, none⟩ = some (.int .i64 0) := (blk_cell BK289.out 2).trans rfl; have hcz31_3 : w30.cell? ⟨gb289, 3, none⟩ = some (.int .i64 0) := (blk_cell BK289.out 3).trans rfl; have hfz31_0 := blk_frozen BK289.out 0; have hfz31_1 := blk_frozen BK289.out 1; have hfz31_2 := blk_frozen BK289.out 2; have hfz31_3 := blk_frozen BK289.out 3) | ((with_reducible refine gate_callee (f := 48) rfl ?_); refine goesL_ (some 50) rfl rfl Try.func48 (by kernel_rfl) rfl #[.int .u8 ((rd_T46 t279 (ji23)).f1)] rfl (by (try simp only [List.map_toArray, List.map_cons, List.map_nil]); first | done | (simp only [hji23]; rfl) | rfl | (simp only [List.length_drop, List.length_take]; rfl)) ?_; (with_reducible refine (provisoref04_Ends.calls ((rd_T46 t279 (ji23)).f1) false _ A26.out).mono ?_); rintro e w' ⟨rfl, ⟨nd, rfl⟩⟩; refine ⟨_, rfl, ?_⟩))
                  go_ret2
                  exact ⟨by first | rfl | (simp [errW_none, errW_some] <;> rfl) | (simp only [← hji23]; first | rfl | (simp [errW_none, errW_some] <;> rfl)) | (simp [*, errW_none, errW_some] <;> rfl), by repeat (first | (with_reducible first | exact HB.out | apply below_alloc | apply pw_below_drewN | apply below_drew1 | refine below_set ?_ GE289.out) | exact HB.out)⟩
              · rw [if_neg c25] at H
                exact absurd H (by simp)
            · rw [if_neg c24] at H
              exact absurd H (by simp)
  · rw [if_neg c3] at H
    have c3b0 : (t281 == 0) = false := beq_eq_false_iff_ne.mpr c3
    have c3b1 : (t281 != 0) = true := bne_iff_ne.mpr c3
    simp only [Option.some.injEq, Prod.mk.injEq] at H
    obtain ⟨rfl, rfl⟩ := H
    go_enter Try.func29, Try.ntmps29
    go_wp2_with (first | ((with_reducible refine gate_callee (f := 13) rfl ?_); refine goesL_ (some 12) rfl rfl Try.func13 (by kernel_rfl) rfl #[.slice A0 l0.length c0] rfl (by (try simp only [List.map_toArray, List.map_cons, List.map_nil]); first | done | rfl | (simp only [List.length_drop, List.length_take]; rfl)) ?_; (with_reducible refine (provisoref05_Scan.calls k _ _ l0 t279 t280 t281 _ ?side1 ?side2 A2.out).mono ?_); (case side1 => repeat (first | exact HR0.out | (with_reducible refine Kd.C_alloc ?_ _) | (with_reducible refine Kd.C_drewN ?_ _) | (with_reducible refine Kd.C_drew ?_))); (case side2 => exact HC0.out); rintro e w32 ⟨v282, rfl, ho0, hb⟩; refine ⟨_, rfl, ?_⟩; have n0_ := Aside0.mk (Kd.R_lower ho0 (below_size (by repeat (first | (with_reducible first | exact HB.out | apply below_alloc | apply pw_below_drewN | apply below_drew1) | exact HB.out)))); have n1_ := Aside0.mk (below_step (by repeat (first | (with_reducible first | exact HB.out | apply below_alloc | apply pw_below_drewN | apply below_drew1) | exact HB.out)) hb); clear HB; have HO283 := n0_; have HB := n1_; clear n0_ n1_; (try clear hb); (try clear hb2); (try clear hk); (try clear hi); (try clear ho0)))
    go_ret2
    exact ⟨by first | rfl | (simp [errW_none, errW_some] <;> rfl) | (simp [*, errW_none, errW_some] <;> rfl), by repeat (first | (with_reducible first | exact HB.out | apply below_alloc | apply pw_below_drewN | apply below_drew1) | exact HB.out)⟩

def slices_Equal_byte_byte.l0 : Nat → List Int → List Int → Int → Int → Option (Bool)
  | 0, _, _, _, _ => none
  | k + 1, x0, x1, x12, x13 => if x13 < x12 then (if 0 ≤ x13 then (if x13 < (x0.length : Int) then (if x13 < (x1.length : Int) then (if (rd x0 x13) = (rd x1 x13) then (slices_Equal_byte_byte.l0 k x0 x1 x12 (wrap64 (x13 + 1))) else (some false)) else (none)) else (none)) else (none)) else (some true)
def slices_Equal_byte_byte.f (k : Nat) (l0 : List Int) (l1 : List Int) : Option (Bool) := if (l0.length : Int) = (l1.length : Int) then (slices_Equal_byte_byte.l0 k l0 l1 (l0.length : Int) 0) else (some false)
set_option maxHeartbeats 8000000 in
set_option maxRecDepth 100000 in
theorem slices_Equal_byte_byte.calls (k : Nat) (A0 : Option Addr) (c0 : Nat) (l0 : List Int) (A1 : Option Addr) (c1 : Nat) (l1 : List Int) (r : Bool) (w : World) (hr0 : Kd.C (Kd.int .u8) w A0 l0.length l0) (hc0 : l0.length ≤ c0) (hr1 : Kd.C (Kd.int .u8) w A1 l1.length l1) (hc1 : l1.length ≤ c1) (h : slices_Equal_byte_byte.f k l0 l1 = some r) :
    Calls Try.prog 57 #[.slice A0 l0.length c0, .slice A1 l1.length c1] w fun e w' => e = .returned (.bool r) ∧ Drawn0 w w' := by
  have HR0 := Aside0.mk hr0
  have HC0 := Aside0.mk hc0
  clear hr0 hc0
  have HR1 := Aside0.mk hr1
  have HC1 := Aside0.mk hc1
  clear hr1 hc1
  have H : (if (l0.length : Int) = (l1.length : Int) then (slices_Equal_byte_byte.l0 k l0 l1 (l0.length : Int) 0) else (some false)) = some r := h
  clear h
  by_cases c3 : (l0.length : Int) = (l1.length : Int)
  · rw [if_pos c3] at H
    have c3b0 : ((l0.length : Int) == (l1.length : Int)) = true := beq_iff_eq.mpr c3
    have c3b1 : ((l0.length : Int) != (l1.length : Int)) = false := bne_eq_false_iff_eq.mpr c3
    have c3b2 : (l0.length == l1.length) = true := by first | simpa using c3 | (simp at c3 ⊢; omega)
    clear c3
    have H' := Aside0.mk H
    clear H
    go_enter Try.func57, Try.ntmps57
    go_wp2
    repeat (go_quiet (fail); try go_wp2)
    go_loopg [13] k (fun kq v13 w' => ∃ (x13_1 : Int), v13 = .int .i64 x13_1 ∧ Aside0 (slices_Equal_byte_byte.l0 kq l0 l1 (l0.length : Int) x13_1 = some r) ∧ Aside0 (kq ≤ k) ∧ Drawn0 w w')
    case atStart => exact ⟨(0), (by first | rfl | (simp; done) | (simp [*]; done)), H', ⟨Nat.le_refl _⟩, by repeat (first | exact Drawn0.refl _ | apply Drawn0.step)⟩
    case round =>
      clear H'
      try clear c1
      try clear p2
      try clear c3
      try clear c3b0
      try clear c3b1
      try clear c3b2
      obtain ⟨x13_1, rfl, HA, HK1, ⟨m1, rfl⟩⟩ := hrel
      cases gk with
      | zero => exact absurd HA.out (by simp [slices_Equal_byte_byte.l0])
      | succ k1 =>
        have H := HA.out
        clear HA
        simp only [slices_Equal_byte_byte.l0] at H
        by_cases c4 : x13_1 < (l0.length : Int)
        · rw [if_pos c4] at H
          have c4b0 : decide (x13_1 < (l0.length : Int)) = true := decide_eq_true c4
          clear c4
          by_cases c5 : 0 ≤ x13_1
          · rw [if_pos c5] at H
            have c5b0 : decide (0 ≤ x13_1) = true := decide_eq_true c5
            clear c5
            by_cases c6 : x13_1 < (l0.length : Int)
            · rw [if_pos c6] at H
              have c6b0 : decide (x13_1 < (l0.length : Int)) = true := decide_eq_true c6
              clear c6
              by_cases c7 : x13_1 < (l1.length : Int)
              · rw [if_pos c7] at H
                have c7b0 : decide (x13_1 < (l1.length : Int)) = true := decide_eq_true c7
                clear c7
                by_cases c8 : (rd l0 x13_1) = (rd l1 x13_1)
                · rw [if_pos c8] at H
                  have c8b0 : ((rd l0 x13_1) == (rd l1 x13_1)) = true := beq_iff_eq.mpr c8
                  have c8b1 : ((rd l0 x13_1) != (rd l1 x13_1)) = false := bne_eq_false_iff_eq.mpr c8
                  clear c8
                  have H' := Aside0.mk H
                  clear H
                  have p291 : 0 ≤ (x13_1 : Int) := of_decide_eq_true (by first | (with_reducible assumption) | assumption)
                  have q291 : x13_1 < (l0.length : Int) := of_decide_eq_true (by first | (with_reducible assumption) | assumption)
                  obtain ⟨ad291, e291, hx291_0⟩ := Kd.at_int HR0.out x13_1 p291 q291
                  cases e291
                  replace p291 := eq_true p291
                  replace q291 := eq_true q291
                  have p292 : 0 ≤ (x13_1 : Int) := of_decide_eq_true (by first | (with_reducible assumption) | assumption)
                  have q292 : x13_1 < (l1.length : Int) := of_decide_eq_true (by first | (with_reducible assumption) | assumption)
                  obtain ⟨ad292, e292, hx292_0⟩ := Kd.at_int HR1.out x13_1 p292 q292
                  cases e292
                  replace p292 := eq_true p292
                  replace q292 := eq_true q292
                  go_wp2
                  repeat (go_quiet (fail); try go_wp2)
                  go_roundg k1
                  case measure => have := HK1.out; omega
                  case rel => exact ⟨(wrap64 (x13_1 + 1)), (by first | rfl | (simp; done) | (simp [*]; done)), H', ⟨by have := HK1.out; omega⟩, by repeat (first | exact Drawn0.refl _ | apply Drawn0.step)⟩
                · rw [if_neg c8] at H
                  have c8b0 : ((rd l0 x13_1) == (rd l1 x13_1)) = false := beq_eq_false_iff_ne.mpr c8
                  have c8b1 : ((rd l0 x13_1) != (rd l1 x13_1)) = true := bne_iff_ne.mpr c8
                  obtain rfl := Option.some.inj H
                  have p291 : 0 ≤ (x13_1 : Int) := of_decide_eq_true (by first | (with_reducible assumption) | assumption)
                  have q291 : x13_1 < (l0.length : Int) := of_decide_eq_true (by first | (with_reducible assumption) | assumption)
                  obtain ⟨ad291, e291, hx291_0⟩ := Kd.at_int HR0.out x13_1 p291 q291
                  cases e291
                  replace p291 := eq_true p291
                  replace q291 := eq_true q291
                  have p292 : 0 ≤ (x13_1 : Int) := of_decide_eq_true (by first | (with_reducible assumption) | assumption)
                  have q292 : x13_1 < (l1.length : Int) := of_decide_eq_true (by first | (with_reducible assumption) | assumption)
                  obtain ⟨ad292, e292, hx292_0⟩ := Kd.at_int HR1.out x13_1 p292 q292
                  cases e292
                  replace p292 := eq_true p292
                  replace q292 := eq_true q292
                  go_wp2
                  repeat (go_quiet (fail); try go_wp2)
                  go_ret
                  exact ⟨by first | rfl | (simp; done) | (simp [*]; done), by repeat (first | exact Drawn0.refl _ | apply Drawn0.step)⟩
              · rw [if_neg c7] at H
                exact absurd H (by simp)
            · rw [if_neg c6] at H
              exact absurd H (by simp)
          · rw [if_neg c5] at H
            exact absurd H (by simp)
        · rw [if_neg c4] at H
          have c4b0 : decide (x13_1 < (l0.length : Int)) = false := decide_eq_false c4
          clear c4
          obtain rfl := Option.some.inj H
          go_wp2
          repeat (go_quiet (fail); try go_wp2)
          go_ret
          exact ⟨by first | rfl | (simp; done) | (simp [*]; done), by repeat (first | exact Drawn0.refl _ | apply Drawn0.step)⟩
  · rw [if_neg c3] at H
    have c3b0 : ((l0.length : Int) == (l1.length : Int)) = false := beq_eq_false_iff_ne.mpr c3
    have c3b1 : ((l0.length : Int) != (l1.length : Int)) = true := bne_iff_ne.mpr c3
    have c3b2 : (l0.length == l1.length) = false := by first | simpa using c3 | (simp at c3 ⊢; omega)
    obtain rfl := Option.some.inj H
    go_enter Try.func57, Try.ntmps57
    go_wp2
    repeat (go_quiet (fail); try go_wp2)
    go_ret
    exact ⟨by first | rfl | (simp; done) | (simp [*]; done), by repeat (first | exact Drawn0.refl _ | apply Drawn0.step)⟩

def provisoplain_Untouched.f (k : Nat) (l0 : List Int) (l1 : List Int) : Option (Bool) := if 0 ≤ (l1.length : Int) then (if (l1.length : Int) ≤ (l0.length : Int) then ((slices_Equal_byte_byte.f k (l0.take ((l1.length : Int) : Int).toNat) l1).bind fun t294 => (if t294 = true then (if (l1.length : Int) < (l0.length : Int) then (if (rd l0 (l1.length : Int)) = 165 then (if 0 ≤ (wrap64 ((l1.length : Int) + 1)) then (if (wrap64 ((l1.length : Int) + 1)) < (l0.length : Int) then (if (rd l0 (wrap64 ((l1.length : Int) + 1))) = 90 then (if 0 ≤ (wrap64 ((l1.length : Int) + 2)) then (if (wrap64 ((l1.length : Int) + 2)) < (l0.length : Int) then (if (rd l0 (wrap64 ((l1.length : Int) + 2))) = 195 then (if 0 ≤ (wrap64 ((l1.length : Int) + 3)) then (if (wrap64 ((l1.length : Int) + 3)) < (l0.length : Int) then (some ((rd l0 (wrap64 ((l1.length : Int) + 3))) == 60)) else (none)) else (none)) else (some false)) else (none)) else (none)) else (some false)) else (none)) else (none)) else (some false)) else (none)) else (some false))) else (none)) else (none)
set_option maxHeartbeats 8000000 in
set_option maxRecDepth 100000 in
theorem provisoplain_Untouched.calls (k : Nat) (A0 : Option Addr) (c0 : Nat) (l0 : List Int) (A1 : Option Addr) (c1 : Nat) (l1 : List Int) (r : Bool) (w : World) (hr0 : Kd.C (Kd.int .u8) w A0 l0.length l0) (hc0 : l0.length ≤ c0) (hr1 : Kd.C (Kd.int .u8) w A1 l1.length l1) (hc1 : l1.length ≤ c1) (h : provisoplain_Untouched.f k l0 l1 = some r) :
    Calls Try.prog 30 #[.slice A0 l0.length c0, .slice A1 l1.length c1] w fun e w' => e = .returned (.bool r) ∧ Drawn0 w w' := by
  have HR0 := Aside0.mk hr0
  have HC0 := Aside0.mk hc0
  clear hr0 hc0
  have HR1 := Aside0.mk hr1
  have HC1 := Aside0.mk hc1
  clear hr1 hc1
  have H : (if 0 ≤ (l1.length : Int) then (if (l1.length : Int) ≤ (l0.length : Int) then ((slices_Equal_byte_byte.f k (l0.take ((l1.length : Int) : Int).toNat) l1).bind fun t294 => (if t294 = true then (if (l1.length : Int) < (l0.length : Int) then (if (rd l0 (l1.length : Int)) = 165 then (if 0 ≤ (wrap64 ((l1.length : Int) + 1)) then (if (wrap64 ((l1.length : Int) + 1)) < (l0.length : Int) then (if (rd l0 (wrap64 ((l1.length : Int) + 1))) = 90 then (if 0 ≤ (wrap64 ((l1.length : Int) + 2)) then (if (wrap64 ((l1.length : Int) + 2)) < (l0.length : Int) then (if (rd l0 (wrap64 ((l1.length : Int) + 2))) = 195 then (if 0 ≤ (wrap64 ((l1.length : Int) + 3)) then (if (wrap64 ((l1.length : Int) + 3)) < (l0.length : Int) then (some ((rd l0 (wrap64 ((l1.length : Int) + 3))) == 60)) else (none)) else (none)) else (some false)) else (none)) else (none)) else (some false)) else (none)) else (none)) else (some false)) else (none)) else (some false))) else (none)) else (none)) = some r := h
  clear h
  by_cases c3 : 0 ≤ (l1.length : Int)
  · rw [if_pos c3] at H
    have c3b0 := eq_true c3
    have c3b1 : decide (0 ≤ (l1.length : Int)) = true := decide_eq_true c3
    clear c3
    by_cases c4 : (l1.length : Int) ≤ (l0.length : Int)
    · rw [if_pos c4] at H
      have c4b0 := eq_true c4
      have c4b1 : decide ((l1.length : Int) ≤ (l0.length : Int)) = true := decide_eq_true c4
      clear c4
      replace H := Option.bind_eq_some_iff.mp H
      obtain ⟨t294, A50, H⟩ := H
      replace H : (if t294 = true then (if (l1.length : Int) < (l0.length : Int) then (if (rd l0 (l1.length : Int)) = 165 then (if 0 ≤ (wrap64 ((l1.length : Int) + 1)) then (if (wrap64 ((l1.length : Int) + 1)) < (l0.length : Int) then (if (rd l0 (wrap64 ((l1.length : Int) + 1))) = 90 then (if 0 ≤ (wrap64 ((l1.length : Int) + 2)) then (if (wrap64 ((l1.length : Int) + 2)) < (l0.length : Int) then (if (rd l0 (wrap64 ((l1.length : Int) + 2))) = 195 then (if 0 ≤ (wrap64 ((l1.length : Int) + 3)) then (if (wrap64 ((l1.length : Int) + 3)) < (l0.length : Int) then (some ((rd l0 (wrap64 ((l1.length : Int) + 3))) == 60)) else (none)) else (none)) else (some false)) else (none)) else (none)) else (some false)) else (none)) else (none)) else (some false)) else (none)) else (some false)) = some r := H
      have A5 := Aside0.mk A50
      clear A50
      by_cases c6 : t294 = true
      · subst c6
        have H1 : (if (l1.length : Int) < (l0.length : Int) then (if (rd l0 (l1.length : Int)) = 165 then (if 0 ≤ (wrap64 ((l1.length : Int) + 1)) then (if (wrap64 ((l1.length : Int) + 1)) < (l0.length : Int) then (if (rd l0 (wrap64 ((l1.length : Int) + 1))) = 90 then (if 0 ≤ (wrap64 ((l1.length : Int) + 2)) then (if (wrap64 ((l1.length : Int) + 2)) < (l0.length : Int) then (if (rd l0 (wrap64 ((l1.length : Int) + 2))) = 195 then (if 0 ≤ (wrap64 ((l1.length : Int) + 3)) then (if (wrap64 ((l1.length : Int) + 3)) < (l0.length : Int) then (some ((rd l0 (wrap64 ((l1.length : Int) + 3))) == 60)) else (none)) else (none)) else (some false)) else (none)) else (none)) else (some false)) else (none)) else (none)) else (some false)) else (none)) = some r := by rw [if_pos rfl] at H; exact H
        clear H
        have H := H1
        clear H1
        by_cases c7 : (l1.length : Int) < (l0.length : Int)
        · rw [if_pos c7] at H
          have c7b0 : decide ((l1.length : Int) < (l0.length : Int)) = true := decide_eq_true c7
          have c7b1 : decide (l1.length < l0.length) = true := decide_eq_true (Int.ofNat_lt.mp c7)
          clear c7
          by_cases c8 : (rd l0 (l1.length : Int)) = 165
          · rw [if_pos c8] at H
            have c8b0 : ((rd l0 (l1.length : Int)) == 165) = true := beq_iff_eq.mpr c8
            have c8b1 : ((rd l0 (l1.length : Int)) != 165) = false := bne_eq_false_iff_eq.mpr c8
            clear c8
            obtain ⟨ji9, hji9⟩ : ∃ j_ : Int, (wrap64 ((l1.length : Int) + 1)) = j_ := ⟨_, rfl⟩
            replace H : (if 0 ≤ (ji9) then (if (ji9) < (l0.length : Int) then (if (rd l0 (ji9)) = 90 then (if 0 ≤ (wrap64 ((l1.length : Int) + 2)) then (if (wrap64 ((l1.length : Int) + 2)) < (l0.length : Int) then (if (rd l0 (wrap64 ((l1.length : Int) + 2))) = 195 then (if 0 ≤ (wrap64 ((l1.length : Int) + 3)) then (if (wrap64 ((l1.length : Int) + 3)) < (l0.length : Int) then (some ((rd l0 (wrap64 ((l1.length : Int) + 3))) == 60)) else (none)) else (none)) else (some false)) else (none)) else (none)) else (some false)) else (none)) else (none)) = some r := by first | (rw [hji9] at H; exact H) | (simp only [hji9] at H ⊢; exact H)
            (try rw [hji9] at A5)
            have hji9w : (IntKind.i64.wrap ((l1.length : Int) + 1)) = ji9 := (i64_w _).trans hji9
            by_cases c10 : 0 ≤ (ji9)
            · rw [if_pos c10] at H
              have c10b0 : decide (0 ≤ (ji9)) = true := decide_eq_true c10
              clear c10
              by_cases c11 : (ji9) < (l0.length : Int)
              · rw [if_pos c11] at H
                have c11b0 : decide ((ji9) < (l0.length : Int)) = true := decide_eq_true c11
                clear c11
                by_cases c12 : (rd l0 (ji9)) = 90
                · rw [if_pos c12] at H
                  have c12b0 : ((rd l0 (ji9)) == 90) = true := beq_iff_eq.mpr c12
                  have c12b1 : ((rd l0 (ji9)) != 90) = false := bne_eq_false_iff_eq.mpr c12
                  clear c12
                  obtain ⟨ji13, hji13⟩ : ∃ j_ : Int, (wrap64 ((l1.length : Int) + 2)) = j_ := ⟨_, rfl⟩
                  replace H : (if 0 ≤ (ji13) then (if (ji13) < (l0.length : Int) then (if (rd l0 (ji13)) = 195 then (if 0 ≤ (wrap64 ((l1.length : Int) + 3)) then (if (wrap64 ((l1.length : Int) + 3)) < (l0.length : Int) then (some ((rd l0 (wrap64 ((l1.length : Int) + 3))) == 60)) else (none)) else (none)) else (some false)) else (none)) else (none)) = some r := by first | (rw [hji13] at H; exact H) | (simp only [hji13] at H ⊢; exact H)
                  (try rw [hji13] at A5)
                  have hji13w : (IntKind.i64.wrap ((l1.length : Int) + 2)) = ji13 := (i64_w _).trans hji13
                  by_cases c14 : 0 ≤ (ji13)
                  · rw [if_pos c14] at H
                    have c14b0 : decide (0 ≤ (ji13)) = true := decide_eq_true c14
                    clear c14
                    by_cases c15 : (ji13) < (l0.length : Int)
                    · rw [if_pos c15] at H
                      have c15b0 : decide ((ji13) < (l0.length : Int)) = true := decide_eq_true c15
                      clear c15
                      by_cases c16 : (rd l0 (ji13)) = 195
                      · rw [if_pos c16] at H
                        have c16b0 : ((rd l0 (ji13)) == 195) = true := beq_iff_eq.mpr c16
                        have c16b1 : ((rd l0 (ji13)) != 195) = false := bne_eq_false_iff_eq.mpr c16
                        clear c16
                        obtain ⟨ji17, hji17⟩ : ∃ j_ : Int, (wrap64 ((l1.length : Int) + 3)) = j_ := ⟨_, rfl⟩
                        replace H : (if 0 ≤ (ji17) then (if (ji17) < (l0.length : Int) then (some ((rd l0 (ji17)) == 60)) else (none)) else (none)) = some r := by first | (rw [hji17] at H; exact H) | (simp only [hji17] at H ⊢; exact H)
                        (try rw [hji17] at A5)
                        have hji17w : (IntKind.i64.wrap ((l1.length : Int) + 3)) = ji17 := (i64_w _).trans hji17
                        by_cases c18 : 0 ≤ (ji17)
                        · rw [if_pos c18] at H
                          have c18b0 : decide (0 ≤ (ji17)) = true := decide_eq_true c18
                          clear c18
                          by_cases c19 : (ji17) < (l0.length : Int)
                          · rw [if_pos c19] at H
                            have c19b0 : decide ((ji17) < (l0.length : Int)) = true := decide_eq_true c19
                            clear c19
                            obtain rfl := Option.some.inj H
                            obtain ⟨i020, hi020, _, hsz20, _⟩ := info_parts info5
                            obtain ⟨hcut20, hA20, hC20⟩ := print_take_of (P := Try.prog) (Value.int .u8) 0 22 5 .i64 Try.underlying22 hi020 hsz20 A0 c0 l0 (l1.length : Int) (of_decide_eq_true (by first | (with_reducible assumption) | assumption)) (of_decide_eq_true (by first | (with_reducible assumption) | assumption)) HC0.out
                            have HR293 := Aside0.mk (Kd.C_of_reads (h1 := fun _ => rfl) (hA20 _ (Kd.reads_of_C HR0.out)))
                            have HC293 := Aside0.mk hC20
                            clear hA20 hC20 hi020 hsz20
                            go_enter Try.func30, Try.ntmps30
                            go_wp2_with (first | ((with_reducible refine gate_callee (f := 57) rfl ?_); refine goesL_ (some 12) rfl rfl Try.func57 (by kernel_rfl) rfl #[.slice A0 (l0.take ((l1.length : Int) : Int).toNat).length c0, .slice A1 l1.length c1] rfl (by (try simp only [List.map_toArray, List.map_cons, List.map_nil]); first | done | (rw [show (l0.take ((l1.length : Int) : Int).toNat).length = (l1.length : Int).toNat from (by rw [List.length_take]; have h_ : ((l1.length : Int) : Int) ≤ (l0.length : Int) := of_decide_eq_true (by first | (with_reducible assumption) | assumption); omega)] <;> rfl) | rfl | (simp only [List.length_drop, List.length_take]; rfl)) ?_; (with_reducible refine (slices_Equal_byte_byte.calls k _ _ (l0.take ((l1.length : Int) : Int).toNat) _ _ l1 true _ ?side1 ?side2 ?side3 ?side4 A5.out).mono ?_); (case side1 => repeat (first | exact HR293.out | (with_reducible refine Kd.C_alloc ?_ _) | (with_reducible refine Kd.C_drewN ?_ _) | (with_reducible refine Kd.C_drew ?_))); (case side2 => exact HC293.out); (case side3 => repeat (first | exact HR1.out | (with_reducible refine Kd.C_alloc ?_ _) | (with_reducible refine Kd.C_drewN ?_ _) | (with_reducible refine Kd.C_drew ?_))); (case side4 => exact HC1.out); rintro e w' ⟨rfl, ⟨nd, rfl⟩⟩; refine ⟨_, rfl, ?_⟩; have p295 : 0 ≤ ((l1.length : Int) : Int) := of_decide_eq_true (by first | (with_reducible assumption) | assumption); have q295 : (l1.length : Int) < (l0.length : Int) := of_decide_eq_true (by first | (with_reducible assumption) | assumption); obtain ⟨ad295, e295, hx295_0⟩ := Kd.at_int HR0.out (l1.length : Int) p295 q295; cases e295; (try simp only [Go.IntWalk.toNatUp] at hx295_0); replace p295 := eq_true p295; replace q295 := eq_true q295; have p296 : 0 ≤ ((ji9) : Int) := of_decide_eq_true (by first | (with_reducible assumption) | assumption); have q296 : (ji9) < (l0.length : Int) := of_decide_eq_true (by first | (with_reducible assumption) | assumption); obtain ⟨ad296, e296, hx296_0⟩ := Kd.at_int HR0.out (ji9) p296 q296; obtain rfl : ad295 = ad296 := (by injection e296); replace p296 := eq_true p296; replace q296 := eq_true q296; have p297 : 0 ≤ ((ji13) : Int) := of_decide_eq_true (by first | (with_reducible assumption) | assumption); have q297 : (ji13) < (l0.length : Int) := of_decide_eq_true (by first | (with_reducible assumption) | assumption); obtain ⟨ad297, e297, hx297_0⟩ := Kd.at_int HR0.out (ji13) p297 q297; obtain rfl : ad295 = ad297 := (by injection e297); replace p297 := eq_true p297; replace q297 := eq_true q297; have p298 : 0 ≤ ((ji17) : Int) := of_decide_eq_true (by first | (with_reducible assumption) | assumption); have q298 : (ji17) < (l0.length : Int) := of_decide_eq_true (by first | (with_reducible assumption) | assumption); obtain ⟨ad298, e298, hx298_0⟩ := Kd.at_int HR0.out (ji17) p298 q298; obtain rfl : ad295 = ad298 := (by injection e298); replace p298 := eq_true p298; replace q298 := eq_true q298))
                            go_ret
                            exact ⟨by first | rfl | (simp; done) | (simp only [← hji9, ← hji13, ← hji17] <;> (first | rfl | simp)) | (simp [*]; done), by repeat (first | exact Drawn0.refl _ | apply Drawn0.step)⟩
                          · rw [if_neg c19] at H
                            exact absurd H (by simp)
                        · rw [if_neg c18] at H
                          exact absurd H (by simp)
                      · rw [if_neg c16] at H
                        have c16b0 : ((rd l0 (ji13)) == 195) = false := beq_eq_false_iff_ne.mpr c16
                        have c16b1 : ((rd l0 (ji13)) != 195) = true := bne_iff_ne.mpr c16
                        obtain rfl := Option.some.inj H
                        obtain ⟨i021, hi021, _, hsz21, _⟩ := info_parts info5
                        obtain ⟨hcut21, hA21, hC21⟩ := print_take_of (P := Try.prog) (Value.int .u8) 0 22 5 .i64 Try.underlying22 hi021 hsz21 A0 c0 l0 (l1.length : Int) (of_decide_eq_true (by first | (with_reducible assumption) | assumption)) (of_decide_eq_true (by first | (with_reducible assumption) | assumption)) HC0.out
                        have HR293 := Aside0.mk (Kd.C_of_reads (h1 := fun _ => rfl) (hA21 _ (Kd.reads_of_C HR0.out)))
                        have HC293 := Aside0.mk hC21
                        clear hA21 hC21 hi021 hsz21
                        go_enter Try.func30, Try.ntmps30
                        go_wp2_with (first | ((with_reducible refine gate_callee (f := 57) rfl ?_); refine goesL_ (some 12) rfl rfl Try.func57 (by kernel_rfl) rfl #[.slice A0 (l0.take ((l1.length : Int) : Int).toNat).length c0, .slice A1 l1.length c1] rfl (by (try simp only [List.map_toArray, List.map_cons, List.map_nil]); first | done | (rw [show (l0.take ((l1.length : Int) : Int).toNat).length = (l1.length : Int).toNat from (by rw [List.length_take]; have h_ : ((l1.length : Int) : Int) ≤ (l0.length : Int) := of_decide_eq_true (by first | (with_reducible assumption) | assumption); omega)] <;> rfl) | rfl | (simp only [List.length_drop, List.length_take]; rfl)) ?_; (with_reducible refine (slices_Equal_byte_byte.calls k _ _ (l0.take ((l1.length : Int) : Int).toNat) _ _ l1 true _ ?side1 ?side2 ?side3 ?side4 A5.out).mono ?_); (case side1 => repeat (first | exact HR293.out | (with_reducible refine Kd.C_alloc ?_ _) | (with_reducible refine Kd.C_drewN ?_ _) | (with_reducible refine Kd.C_drew ?_))); (case side2 => exact HC293.out); (case side3 => repeat (first | exact HR1.out | (with_reducible refine Kd.C_alloc ?_ _) | (with_reducible refine Kd.C_drewN ?_ _) | (with_reducible refine Kd.C_drew ?_))); (case side4 => exact HC1.out); rintro e w' ⟨rfl, ⟨nd, rfl⟩⟩; refine ⟨_, rfl, ?_⟩; have p295 : 0 ≤ ((l1.length : Int) : Int) := of_decide_eq_true (by first | (with_reducible assumption) | assumption); have q295 : (l1.length : Int) < (l0.length : Int) := of_decide_eq_true (by first | (with_reducible assumption) | assumption); obtain ⟨ad295, e295, hx295_0⟩ := Kd.at_int HR0.out (l1.length : Int) p295 q295; cases e295; (try simp only [Go.IntWalk.toNatUp] at hx295_0); replace p295 := eq_true p295; replace q295 := eq_true q295; have p296 : 0 ≤ ((ji9) : Int) := of_decide_eq_true (by first | (with_reducible assumption) | assumption); have q296 : (ji9) < (l0.length : Int) := of_decide_eq_true (by first | (with_reducible assumption) | assumption); obtain ⟨ad296, e296, hx296_0⟩ := Kd.at_int HR0.out (ji9) p296 q296; obtain rfl : ad295 = ad296 := (by injection e296); replace p296 := eq_true p296; replace q296 := eq_true q296; have p297 : 0 ≤ ((ji13) : Int) := of_decide_eq_true (by first | (with_reducible assumption) | assumption); have q297 : (ji13) < (l0.length : Int) := of_decide_eq_true (by first | (with_reducible assumption) | assumption); obtain ⟨ad297, e297, hx297_0⟩ := Kd.at_int HR0.out (ji13) p297 q297; obtain rfl : ad295 = ad297 := (by injection e297); replace p297 := eq_true p297; replace q297 := eq_true q297))
                        go_ret
                        exact ⟨by first | rfl | (simp; done) | (simp only [← hji9, ← hji13] <;> (first | rfl | simp)) | (simp [*]; done), by repeat (first | exact Drawn0.refl _ | apply Drawn0.step)⟩
                    · rw [if_neg c15] at H
                      exact absurd H (by simp)
                  · rw [if_neg c14] at H
                    exact absurd H (by simp)
                · rw [if_neg c12] at H
                  have c12b0 : ((rd l0 (ji9)) == 90) = false := beq_eq_false_iff_ne.mpr c12
                  have c12b1 : ((rd l0 (ji9)) != 90) = true := bne_iff_ne.mpr c12
                  obtain rfl := Option.some.inj H
                  obtain ⟨i022, hi022, _, hsz22, _⟩ := info_parts info5
                  obtain ⟨hcut22, hA22, hC22⟩ := print_take_of (P := Try.prog) (Value.int .u8) 0 22 5 .i64 Try.underlying22 hi022 hsz22 A0 c0 l0 (l1.length : Int) (of_decide_eq_true (by first | (with_reducible assumption) | assumption)) (of_decide_eq_true (by first | (with_reducible assumption) | assumption)) HC0.out
                  have HR293 := Aside0.mk (Kd.C_of_reads (h1 := fun _ => rfl) (hA22 _ (Kd.reads_of_C HR0.out)))
                  have HC293 := Aside0.mk hC22
                  clear hA22 hC22 hi022 hsz22
                  go_enter Try.func30, Try.ntmps30
                  go_wp2_with (first | ((with_reducible refine gate_callee (f := 57) rfl ?_); refine goesL_ (some 12) rfl rfl Try.func57 (by kernel_rfl) rfl #[.slice A0 (l0.take ((l1.length : Int) : Int).toNat).length c0, .slice A1 l1.length c1] rfl (by (try simp only [List.map_toArray, List.map_cons, List.map_nil]); first | done | (rw [show (l0.take ((l1.length : Int) : Int).toNat).length = (l1.length : Int).toNat from (by rw [List.length_take]; have h_ : ((l1.length : Int) : Int) ≤ (l0.length : Int) := of_decide_eq_true (by first | (with_reducible assumption) | assumption); omega)] <;> rfl) | rfl | (simp only [List.length_drop, List.length_take]; rfl)) ?_; (with_reducible refine (slices_Equal_byte_byte.calls k _ _ (l0.take ((l1.length : Int) : Int).toNat) _ _ l1 true _ ?side1 ?side2 ?side3 ?side4 A5.out).mono ?_); (case side1 => repeat (first | exact HR293.out | (with_reducible refine Kd.C_alloc ?_ _) | (with_reducible refine Kd.C_drewN ?_ _) | (with_reducible refine Kd.C_drew ?_))); (case side2 => exact HC293.out); (case side3 => repeat (first | exact HR1.out | (with_reducible refine Kd.C_alloc ?_ _) | (with_reducible refine Kd.C_drewN ?_ _) | (with_reducible refine Kd.C_drew ?_))); (case side4 => exact HC1.out); rintro e w' ⟨rfl, ⟨nd, rfl⟩⟩; refine ⟨_, rfl, ?_⟩; have p295 : 0 ≤ ((l1.length : Int) : Int) := of_decide_eq_true (by first | (with_reducible assumption) | assumption); have q295 : (l1.length : Int) < (l0.length : Int) := of_decide_eq_true (by first | (with_reducible assumption) | assumption); obtain ⟨ad295, e295, hx295_0⟩ := Kd.at_int HR0.out (l1.length : Int) p295 q295; cases e295; (try simp only [Go.IntWalk.toNatUp] at hx295_0); replace p295 := eq_true p295; replace q295 := eq_true q295; have p296 : 0 ≤ ((ji9) : Int) := of_decide_eq_true (by first | (with_reducible assumption) | assumption); have q296 : (ji9) < (l0.length : Int) := of_decide_eq_true (by first | (with_reducible assumption) | assumption); obtain ⟨ad296, e296, hx296_0⟩ := Kd.at_int HR0.out (ji9) p296 q296; obtain rfl : ad295 = ad296 := (by injection e296); replace p296 := eq_true p296; replace q296 := eq_true q296))
                  go_ret
                  exact ⟨by first | rfl | (simp; done) | (simp only [← hji9] <;> (first | rfl | simp)) | (simp [*]; done), by repeat (first | exact Drawn0.refl _ | apply Drawn0.step)⟩
              · rw [if_neg c11] at H
                exact absurd H (by simp)
            · rw [if_neg c10] at H
              exact absurd H (by simp)
          · rw [if_neg c8] at H
            have c8b0 : ((rd l0 (l1.length : Int)) == 165) = false := beq_eq_false_iff_ne.mpr c8
            have c8b1 : ((rd l0 (l1.length : Int)) != 165) = true := bne_iff_ne.mpr c8
            obtain rfl := Option.some.inj H
            obtain ⟨i023, hi023, _, hsz23, _⟩ := info_parts info5
            obtain ⟨hcut23, hA23, hC23⟩ := print_take_of (P := Try.prog) (Value.int .u8) 0 22 5 .i64 Try.underlying22 hi023 hsz23 A0 c0 l0 (l1.length : Int) (of_decide_eq_true (by first | (with_reducible assumption) | assumption)) (of_decide_eq_true (by first | (with_reducible assumption) | assumption)) HC0.out
            have HR293 := Aside0.mk (Kd.C_of_reads (h1 := fun _ => rfl) (hA23 _ (Kd.reads_of_C HR0.out)))
            have HC293 := Aside0.mk hC23
            clear hA23 hC23 hi023 hsz23
            go_enter Try.func30, Try.ntmps30
            go_wp2_with (first | ((with_reducible refine gate_callee (f := 57) rfl ?_); refine goesL_ (some 12) rfl rfl Try.func57 (by kernel_rfl) rfl #[.slice A0 (l0.take ((l1.length : Int) : Int).toNat).length c0, .slice A1 l1.length c1] rfl (by (try simp only [List.map_toArray, List.map_cons, List.map_nil]); first | done | (rw [show (l0.take ((l1.length : Int) : Int).toNat).length = (l1.length : Int).toNat from (by rw [List.length_take]; have h_ : ((l1.length : Int) : Int) ≤ (l0.length : Int) := of_decide_eq_true (by first | (with_reducible assumption) | assumption); omega)] <;> rfl) | rfl | (simp only [List.length_drop, List.length_take]; rfl)) ?_; (with_reducible refine (slices_Equal_byte_byte.calls k _ _ (l0.take ((l1.length : Int) : Int).toNat) _ _ l1 true _ ?side1 ?side2 ?side3 ?side4 A5.out).mono ?_); (case side1 => repeat (first | exact HR293.out | (with_reducible refine Kd.C_alloc ?_ _) | (with_reducible refine Kd.C_drewN ?_ _) | (with_reducible refine Kd.C_drew ?_))); (case side2 => exact HC293.out); (case side3 => repeat (first | exact HR1.out | (with_reducible refine Kd.C_alloc ?_ _) | (with_reducible refine Kd.C_drewN ?_ _) | (with_reducible refine Kd.C_drew ?_))); (case side4 => exact HC1.out); rintro e w' ⟨rfl, ⟨nd, rfl⟩⟩; refine ⟨_, rfl, ?_⟩; have p295 : 0 ≤ ((l1.length : Int) : Int) := of_decide_eq_true (by first | (with_reducible assumption) | assumption); have q295 : (l1.length : Int) < (l0.length : Int) := of_decide_eq_true (by first | (with_reducible assumption) | assumption); obtain ⟨ad295, e295, hx295_0⟩ := Kd.at_int HR0.out (l1.length : Int) p295 q295; cases e295; (try simp only [Go.IntWalk.toNatUp] at hx295_0); replace p295 := eq_true p295; replace q295 := eq_true q295))
            go_ret
            exact ⟨by first | rfl | (simp; done) | (simp [*]; done), by repeat (first | exact Drawn0.refl _ | apply Drawn0.step)⟩
        · rw [if_neg c7] at H
          exact absurd H (by simp)
      · replace c6 := Bool.eq_false_iff.mpr c6
        subst c6
        have H1 : (some false) = some r := by rw [if_neg (show ¬ (false = true) by decide)] at H; exact H
        clear H
        have H := H1
        clear H1
        obtain rfl := Option.some.inj H
        obtain ⟨i024, hi024, _, hsz24, _⟩ := info_parts info5
        obtain ⟨hcut24, hA24, hC24⟩ := print_take_of (P := Try.prog) (Value.int .u8) 0 22 5 .i64 Try.underlying22 hi024 hsz24 A0 c0 l0 (l1.length : Int) (of_decide_eq_true (by first | (with_reducible assumption) | assumption)) (of_decide_eq_true (by first | (with_reducible assumption) | assumption)) HC0.out
        have HR293 := Aside0.mk (Kd.C_of_reads (h1 := fun _ => rfl) (hA24 _ (Kd.reads_of_C HR0.out)))
        have HC293 := Aside0.mk hC24
        clear hA24 hC24 hi024 hsz24
        go_enter Try.func30, Try.ntmps30
        go_wp2_with (first | ((with_reducible refine gate_callee (f := 57) rfl ?_); refine goesL_ (some 12) rfl rfl Try.func57 (by kernel_rfl) rfl #[.slice A0 (l0.take ((l1.length : Int) : Int).toNat).length c0, .slice A1 l1.length c1] rfl (by (try simp only [List.map_toArray, List.map_cons, List.map_nil]); first | done | (rw [show (l0.take ((l1.length : Int) : Int).toNat).length = (l1.length : Int).toNat from (by rw [List.length_take]; have h_ : ((l1.length : Int) : Int) ≤ (l0.length : Int) := of_decide_eq_true (by first | (with_reducible assumption) | assumption); omega)] <;> rfl) | rfl | (simp only [List.length_drop, List.length_take]; rfl)) ?_; (with_reducible refine (slices_Equal_byte_byte.calls k _ _ (l0.take ((l1.length : Int) : Int).toNat) _ _ l1 false _ ?side1 ?side2 ?side3 ?side4 A5.out).mono ?_); (case side1 => repeat (first | exact HR293.out | (with_reducible refine Kd.C_alloc ?_ _) | (with_reducible refine Kd.C_drewN ?_ _) | (with_reducible refine Kd.C_drew ?_))); (case side2 => exact HC293.out); (case side3 => repeat (first | exact HR1.out | (with_reducible refine Kd.C_alloc ?_ _) | (with_reducible refine Kd.C_drewN ?_ _) | (with_reducible refine Kd.C_drew ?_))); (case side4 => exact HC1.out); rintro e w' ⟨rfl, ⟨nd, rfl⟩⟩; refine ⟨_, rfl, ?_⟩))
        go_ret
        exact ⟨by first | rfl | (simp; done) | (simp [*]; done), by repeat (first | exact Drawn0.refl _ | apply Drawn0.step)⟩
    · rw [if_neg c4] at H
      exact absurd H (by simp)
  · rw [if_neg c3] at H
    exact absurd H (by simp)

theorem bytes_equal_self (xs : List Int) (hl : xs.length ≤ 9223372036854775807) : ∀ (d i k : Nat), i + d = xs.length → d < k → slices_Equal_byte_byte.l0 k xs xs (xs.length : Int) (i : Int) = some true
  | 0, i, k, hd, hk => by
    obtain ⟨k, rfl⟩ : ∃ m, k = m + 1 := ⟨k - 1, by omega⟩
    simp only [slices_Equal_byte_byte.l0]
    rw [if_neg (by omega)]
  | d + 1, i, k, hd, hk => by
    obtain ⟨k, rfl⟩ : ∃ m, k = m + 1 := ⟨k - 1, by omega⟩
    have hw : wrap64 ((i : Int) + 1) = ((i + 1 : Nat) : Int) := by unfold wrap64; omega
    have ih := bytes_equal_self xs hl d (i + 1) k (by omega) (by omega)
    simp only [slices_Equal_byte_byte.l0]
    rw [if_pos (by omega), if_pos (by omega), if_pos (by omega), if_pos (by omega), if_pos trivial, hw]
    exact ih
theorem bytes_equal_is (xs : List Int) (hl : xs.length ≤ 9223372036854775807) (k : Nat) (hk : xs.length < k) : slices_Equal_byte_byte.f k xs xs = some true := by
  unfold slices_Equal_byte_byte.f
  rw [if_pos rfl]
  exact bytes_equal_self xs hl xs.length 0 k (by omega) hk
theorem untouched_is (xs : List Int) (hl : xs.length ≤ 140737488351232) (k : Nat) (hk : xs.length < k) : provisoplain_Untouched.f k (xs ++ [165, 90, 195, 60]) xs = some true := by
  have ht : (xs ++ [165, 90, 195, 60]).take ((xs.length : Int) : Int).toNat = xs := by
    rw [Int.toNat_natCast, List.take_left]
  have h0 : rd (xs ++ [165, 90, 195, 60]) (xs.length : Int) = 165 := by simp [rd, List.getD_eq_getElem?_getD]
  have h1 : rd (xs ++ [165, 90, 195, 60]) ((xs.length : Int) + 1) = 90 := by
    simp only [rd, List.getD_eq_getElem?_getD, show ((xs.length : Int) + 1).toNat = xs.length + 1 by omega]
    rw [List.getElem?_append_right (by omega), show xs.length + 1 - xs.length = 1 by omega]
    rfl
  have h2 : rd (xs ++ [165, 90, 195, 60]) ((xs.length : Int) + 2) = 195 := by
    simp only [rd, List.getD_eq_getElem?_getD, show ((xs.length : Int) + 2).toNat = xs.length + 2 by omega]
    rw [List.getElem?_append_right (by omega), show xs.length + 2 - xs.length = 2 by omega]
    rfl
  have h3 : rd (xs ++ [165, 90, 195, 60]) ((xs.length : Int) + 3) = 60 := by
    simp only [rd, List.getD_eq_getElem?_getD, show ((xs.length : Int) + 3).toNat = xs.length + 3 by omega]
    rw [List.getElem?_append_right (by omega), show xs.length + 3 - xs.length = 3 by omega]
    rfl
  have hL : (xs ++ [165, 90, 195, 60]).length = xs.length + 4 := by simp
  have w1 : wrap64 ((xs.length : Int) + 1) = (xs.length : Int) + 1 := by unfold wrap64; omega
  have w2 : wrap64 ((xs.length : Int) + 2) = (xs.length : Int) + 2 := by unfold wrap64; omega
  have w3 : wrap64 ((xs.length : Int) + 3) = (xs.length : Int) + 3 := by unfold wrap64; omega
  unfold provisoplain_Untouched.f
  rw [ht, bytes_equal_is xs (by omega) k hk, hL, w1, w2, w3, h0, h1, h2, h3]
  simp only [Option.bind_some, if_true]
  repeat rw [if_pos (by omega)]
  rfl

def provisolaw05_FlowScans.Facts (l0 : List Int) : Prop := l0.length ≤ 140737488351232 ∧ ∃ (k : Nat) (ls : List S46) (a e c1 c2 : Int), flow_Scan.f k l0 = some (ls, a, e) ∧ provisoref05_Scan.f k l0 = some (ls, a, e) ∧ flow_Check.f k l0 = some (c1, c2) ∧ provisoref05_Check.f k l0 = some (c1, c2) ∧ api_Instr_27.f k ls ls = some true ∧ provisoplain_Untouched.f k (l0 ++ [165, 90, 195, 60]) l0 = some true
set_option maxHeartbeats 1600000 in
set_option maxRecDepth 100000 in
theorem provisolaw05_FlowScans.calls (A0 : Option Addr) (c0 : Nat) (l0 : List Int) (w : World) (hr0 : Kd.C (Kd.int .u8) w A0 l0.length l0) (hc0 : l0.length ≤ c0) (h : provisolaw05_FlowScans.Facts l0) :
    Calls Try.prog 5 #[.slice A0 l0.length c0] w fun e w' => e = .returned (.bool true) ∧ Below w.heap.size w w' := by
  obtain ⟨hlim, k, ls, at_, er, k1, k2, f1, f2, f3, f4, f5, f6⟩ := h
  have HR := Aside0.mk hr0
  have HC := Aside0.mk hc0
  have F1 := Aside0.mk f1
  have F2 := Aside0.mk f2
  have F3 := Aside0.mk f3
  have F4 := Aside0.mk f4
  have F5 := Aside0.mk f5
  have F6 := Aside0.mk f6
  have hlen : l0.length ≤ 9223372036854775806 := by omega
  clear f1 f2 f3 f4 f5 f6 hr0 hc0
  go_enter Try.func5, Try.ntmps5
  go_wp2_with fail
  refine (Roomy_calls A0 c0 l0 _ HR.out HC.out hlim).mono ?_
  rintro e w1 ⟨A, c, rfl, hcl, hR, hb⟩
  have HB := Aside0.mk hb
  have HALL : Aside0 (Kd.C (Kd.int .u8) w1 A (l0 ++ ([165, 90, 195, 60] : List Int)).length (l0 ++ [165, 90, 195, 60])) := ⟨by
    obtain ⟨A9, c9, e9, _, h9⟩ := Kd.R_reads hR
    injection e9 with e1 e2 e3
    subst e1
    exact h9⟩
  have HG : Aside0 (Kd.C (Kd.int .u8) w1 A l0.length l0) := ⟨by
    have := Kd.C_take (xs := l0 ++ [165, 90, 195, 60]) (m := l0.length) HALL.out (by rw [List.length_append]; omega)
    rwa [List.take_left] at this⟩
  have HCG : Aside0 (l0.length ≤ c ∧ l0.length + 4 ≤ c) := ⟨⟨by omega, hcl⟩⟩
  clear hR hb hcl hlim
  go_wp2_with fail
  refine (flow_Scan.calls k A c l0 ls at_ er _ HG.out HCG.out.1 F1.out).mono ?_
  rintro e w2 ⟨v, rfl, hR1, hb1⟩
  obtain ⟨A1, c1, e1, hc1, hC1⟩ := Kd.R_reads hR1
  subst e1
  have HL1 := Aside0.mk hC1
  have HK1 := Aside0.mk hc1
  have HB1 := Aside0.mk (below_then HB.out HB.out.size hb1)
  have HALL1 := Aside0.mk (Kd.C_below HALL.out hb1)
  have HG1 := Aside0.mk (Kd.C_below HG.out hb1)
  clear hR1 hb1 hc1 hC1
  go_wp2_with fail
  refine (provisoref05_Scan.calls k A0 c0 l0 ls at_ er _ (Kd.C_below HR.out HB1.out) HC.out F2.out).mono ?_
  rintro e w3 ⟨v, rfl, hR1, hb1⟩
  obtain ⟨A2, c2, e1, hc1, hC1⟩ := Kd.R_reads hR1
  subst e1
  have HL2 := Aside0.mk hC1
  have HK2 := Aside0.mk hc1
  have HB2 := Aside0.mk (below_then HB1.out HB1.out.size hb1)
  have HALL2 := Aside0.mk (Kd.C_below HALL1.out hb1)
  have HG2 := Aside0.mk (Kd.C_below HG1.out hb1)
  have HL1' := Aside0.mk (Kd.C_below HL1.out hb1)
  clear hR1 hb1 hc1 hC1
  have t1 : (at_ == at_) = true := by simp
  have t2 : (er == er) = true := by simp
  have t3 : (at_ != at_) = false := by simp
  have t4 : (er != er) = false := by simp
  go_wp2_with fail
  refine (api_Instr_27.calls k A1 c1 ls A2 c2 ls true _ HL1'.out HK1.out HL2.out HK2.out F5.out).mono ?_
  rintro e w4 ⟨rfl, hd⟩
  have hd : Below w3.heap.size w3 w4 := by first | exact hd | exact hd.below
  have HB3 := Aside0.mk (below_then HB2.out HB2.out.size hd)
  have HALL3 := Aside0.mk (Kd.C_below HALL2.out hd)
  have HG3 := Aside0.mk (Kd.C_below HG2.out hd)
  clear hd
  go_wp2_with fail
  refine (flow_Check.calls k A c l0 k1 k2 _ HG3.out HCG.out.1 F3.out).mono ?_
  rintro e w5 ⟨rfl, hb5⟩
  have HB4 := Aside0.mk (below_then HB3.out HB3.out.size hb5)
  have HALL4 := Aside0.mk (Kd.C_below HALL3.out hb5)
  clear hb5
  go_wp2_with fail
  refine (provisoref05_Check.calls k A0 c0 l0 k1 k2 _ (Kd.C_below HR.out HB4.out) HC.out F4.out).mono ?_
  rintro e w6 ⟨rfl, hb5⟩
  have HB5 := Aside0.mk (below_then HB4.out HB4.out.size hb5)
  have HALL5 := Aside0.mk (Kd.C_below HALL4.out hb5)
  clear hb5
  have t5 : (k1 == k1) = true := by simp
  have t6 : (k2 == k2) = true := by simp
  go_wp2_with fail
  have hlc : (l0 ++ ([165, 90, 195, 60] : List Int)).length = l0.length + 4 := by simp
  have hun := provisoplain_Untouched.calls k A c (l0 ++ [165, 90, 195, 60]) A0 c0 l0 true _ HALL5.out (by rw [hlc]; exact HCG.out.2) (Kd.C_below HR.out HB5.out) HC.out F6.out
  rw [hlc] at hun
  refine hun.mono ?_
  clear hun hlc
  rintro e w7 ⟨rfl, hb5⟩
  have hb5 : Below w6.heap.size w6 w7 := by first | exact hb5 | exact hb5.below
  have HB6 := Aside0.mk (below_then HB5.out HB5.out.size hb5)
  clear hb5
  go_wp2
  go_ret
  exact ⟨rfl, HB6.out⟩

end Go.Proofs.Ytcffniaieegbgaa.P

end

section
namespace Go.Proofs.Ytcffniaieegbgaa.P
open Go.RowKit Go.Proofs.YtcffniaieegbgaaW.PrintWords
def provisolaw05_FlowScans.Pure : Prop := ∀ (l0 : List (Int)), (fun l : List (Int) => l.length ≤ 9223372036854775807 ∧ l.length * 1 ≤ 140737488351232 ∧ ∀ x ∈ l, (fun n : Int => (Lit.int .u8 n).wf = true) x) l0 → provisolaw05_FlowScans.Facts l0
end Go.Proofs.Ytcffniaieegbgaa.P

end

section
namespace Go.Proofs.Ytcffniaieegbgaa.Pure
open Go.RowKit Go.Proofs.Ytcffniaieegbgaa.P Go.Proofs.YtcffniaieegbgaaW.PrintWords
set_option linter.unusedSimpArgs false
set_option linter.unusedVariables false
theorem wrap_one {i n : Nat} (h : i < n) (hn : n ≤ 9223372036854775807) : wrap64 ((i : Int) + 1) = ((i + 1 : Nat) : Int) := by unfold wrap64; omega
theorem wide_is (k : Nat) (op : Int) : provisoref04_wide.f (k + 2) op = code_widths.f 3 op := by
  by_cases h1 : op = 1
  · subst h1; rfl
  by_cases h2 : op = 19
  · subst h2; rfl
  by_cases h3 : op = 20
  · subst h3; rfl
  by_cases h4 : op = 24
  · subst h4; rfl
  by_cases h5 : op = 25
  · subst h5; rfl
  by_cases h6 : op = 2
  · subst h6; rfl
  by_cases h7 : op = 4
  · subst h7; rfl
  by_cases h8 : op = 5
  · subst h8; rfl
  have e20 : (op == 20) = false := by rw [beq_eq_false_iff_ne]; exact h3
  have e25 : (op == 25) = false := by rw [beq_eq_false_iff_ne]; exact h5
  have e5 : (op == 5) = false := by rw [beq_eq_false_iff_ne]; exact h8
  simp only [provisoref04_wide.f, provisoref04_wide.j0, provisoref04_wide.j1, code_widths.f, code_widths.j0, code_widths.j1, code_widths.j2, if_neg h1, if_neg h2, if_neg h4, if_neg h6, if_neg h7, if_neg h8, e20, e25, e5, Bool.false_eq_true, if_false]
theorem rsize_is (k : Nat) (op : Int) : provisoref04_Size.f (k + 2) op = some (szOf op) := by
  have h := size_is 0 op
  rw [← h]
  unfold provisoref04_Size.f code_Size.f
  rw [wide_is k op]
theorem rsize_ev (op : Int) : Ev (fun k => provisoref04_Size.f k op) (szOf op) := ⟨2, fun k hk => by
  obtain ⟨m, rfl⟩ : ∃ m, k = m + 2 := ⟨k - 2, by omega⟩
  exact rsize_is m op⟩
theorem rjumps_is (op : Int) : provisoref04_Jumps.f op = some (jumpsB op) := jumps_is op
theorem rends_is (op : Int) : provisoref04_Ends.f op = some (endsB op) := ends_is op
theorem drop_atI {l : List S46} {i : Nat} (h : i < l.length) : l.drop i = rd_T46 l (i : Int) :: l.drop (i + 1) := by
  rw [List.drop_eq_getElem_cons h]
  congr 1
  show l[i] = l.getD (i : Int).toNat z46
  rw [Int.toNat_natCast, List.getD_eq_getElem?_getD, List.getElem?_eq_getElem h]
  rfl
theorem eq_instrs (l : List S46) (hl : l.length ≤ 9223372036854775807) : ∀ (d i : Nat), l.length - i = d → i ≤ l.length → Ev (fun k => api_Instr_27.l0 k l l (l.length : Int) (i : Int)) true
  | 0, i, hd, hi => by
    refine Ev.step (f := fun _ => some true) (fun k => ?_) (Ev.now _)
    simp only [api_Instr_27.l0]
    rw [if_neg (by omega)]
  | d + 1, i, hd, hi => by
    have ih := eq_instrs l hl d (i + 1) (by omega) (by omega)
    refine Ev.step (fun k => ?_) ih
    simp only [api_Instr_27.l0]
    rw [if_pos (by omega), if_pos (by omega), if_pos (by omega), if_pos (by omega), if_neg (by simp), wrap_one (n := l.length) (by omega) hl]
theorem instrs_ev (l : List S46) (hl : l.length ≤ 9223372036854775807) : Ev (fun k => api_Instr_27.f k l l) true := by
  refine Ev.congr (fun k => ?_) (eq_instrs l hl l.length 0 (by omega) (by omega))
  unfold api_Instr_27.f
  rw [if_pos rfl]
  rfl
end Go.Proofs.Ytcffniaieegbgaa.Pure

end

section
namespace Go.Proofs.Ytcffniaieegbgaa.P
open Go.RowKit Go.Proofs.YtcffniaieegbgaaW.PrintWords Go.Proofs.YtcffniaieegbgaaW.PrintLast Go.Proofs.YtcffniaieegbgaaW.PrintMore
attribute [local go_sem] max2_int min2_int max_two min_two max_three min_three max_four min_four   -- for this text's walks alone
set_option linter.unusedVariables false
set_option linter.unusedSimpArgs false

theorem firstAt_lt : ∀ (l : List S46) (j : Nat) (x v : Int), firstAt l j x = some v → ∃ i : Nat, v = ((j + i : Nat) : Int) ∧ i < l.length
  | [], j, x, v, h => by cases h
  | y :: r, j, x, v, h => by
    unfold firstAt at h
    split at h
    · cases h; exact ⟨0, rfl, by simp⟩
    · obtain ⟨i, h1, h2⟩ := firstAt_lt r (j + 1) x v h
      exact ⟨i + 1, by rw [h1]; congr 1; omega, by simpa using h2⟩
structure Mq (w0 : World) (B1 n1 : Nat) (g1 : Int → Option Int) (B2 n2 : Nat) (g2 : Int → Option Int) (W : World) : Prop where
  own1 : IMap W B1 n1 g1
  own2 : IMap W B2 n2 g2
  ne : B1 ≠ B2
  base1 : w0.heap.size ≤ B1
  base2 : w0.heap.size ≤ B2
  below : Below w0.heap.size w0 W
theorem Mq.step {w0 W W1 : World} {B1 n1 B2 n2 : Nat} {g1 g2 : Int → Option Int} (h : Mq w0 B1 n1 g1 B2 n2 g2 W) (hb : Below W.heap.size W W1) : Mq w0 B1 n1 g1 B2 n2 g2 W1 := ⟨h.own1.below hb, h.own2.below hb, h.ne, h.base1, h.base2, below_step h.below hb⟩
theorem Mq.stored {w0 W W1 : World} {B1 n1 B2 n2 n3 : Nat} {g1 g2 g3 : Int → Option Int} (h : Mq w0 B1 n1 g1 B2 n2 g2 W) (h3 : IMap W1 B2 n3 g3) (hg : W.grownBy W1 (some B2)) : Mq w0 B1 n1 g1 B2 n3 g3 W1 :=
  ⟨h.own1.grown hg (fun e => h.ne (by cases e; rfl)), h3, h.ne, h.base1, h.base2, h.below.grown hg h.below.size (fun k hk => by cases hk; exact h.base2)⟩
theorem Mq.grown {w0 W W1 : World} {B1 n1 B2 n2 : Nat} {g1 g2 : Int → Option Int} (h : Mq w0 B1 n1 g1 B2 n2 g2 W) {v : Value} {e : Nat} (ht : ∀ k, v.ownBlock = some k → ∃ cells, W.heap[k]? = some (.cells cells e (0, 0))) (hg : W.grownBy W1 v.ownBlock) (hb : Below w0.heap.size w0 W1) : Mq w0 B1 n1 g1 B2 n2 g2 W1 :=
  ⟨h.own1.grown hg (fun q => by obtain ⟨cs, hc⟩ := ht _ q.symm; exact h.own1.ne hc rfl), h.own2.grown hg (fun q => by obtain ⟨cs, hc⟩ := ht _ q.symm; exact h.own2.ne hc rfl), h.ne, h.base1, h.base2, hb⟩
end Go.Proofs.Ytcffniaieegbgaa.P

end

section
namespace Go.Proofs.Ytcffniaieegbgaa.Pure
open Go.RowKit Go.Proofs.Ytcffniaieegbgaa.P Go.Proofs.YtcffniaieegbgaaW.PrintWords
set_option linter.unusedSimpArgs false
set_option linter.unusedVariables false
theorem nodup_len : ∀ (a m : List Int), a.Nodup → (∀ x ∈ a, x ∈ m) → a.length ≤ m.length
  | [], m, _, _ => by simp
  | x :: r, m, hn, hs => by
    have h1 := List.nodup_cons.1 hn
    have hx := hs x List.mem_cons_self
    have h2 : r.length ≤ (m.erase x).length := nodup_len r (m.erase x) h1.2 (fun y hy => by
      have hne : y ≠ x := fun e => h1.1 (e ▸ hy)
      exact (List.mem_erase_of_ne hne).2 (hs y (List.mem_cons_of_mem _ hy)))
    rw [List.length_erase_of_mem hx] at h2
    have : 0 < m.length := List.length_pos_of_mem hx
    simp
    omega
theorem firstAt_mem : ∀ (l : List S46) (j : Nat) (x v : Int), firstAt l j x = some v → x ∈ l.map (·.f0)
  | [], j, x, v, h => by cases h
  | y :: r, j, x, v, h => by
    unfold firstAt at h
    split at h
    · rename_i e; rw [← e]; simp
    · exact List.mem_map.2 (by
        obtain ⟨z, hz, e⟩ := List.mem_map.1 (firstAt_mem r (j + 1) x v h)
        exact ⟨z, List.mem_cons_of_mem _ hz, e⟩)
theorem firstAt_at : ∀ (l : List S46) (j i : Nat) (x : Int), firstAt l j x = some ((j + i : Nat) : Int) → i < l.length → (l.getD i z46).f0 = x
  | [], j, i, x, h, _ => by cases h
  | y :: r, j, i, x, h, hi => by
    unfold firstAt at h
    split at h
    · rename_i e
      have h9 := Option.some.inj h
      have : i = 0 := by omega
      subst this
      exact e
    · cases i with
      | zero =>
        obtain ⟨i', h1, h2⟩ := firstAt_lt r (j + 1) x _ h
        omega
      | succ i =>
        have h9 := firstAt_at r (j + 1) i x (by rw [h]; congr 2; omega) (by simpa using hi)
        simpa using h9
theorem firstAt_idx {l : List S46} {x v : Int} (h : firstAt l 0 x = some v) : ∃ i : Nat, v = (i : Int) ∧ i < l.length ∧ (rd_T46 l v).f0 = x := by
  obtain ⟨i, h1, h2⟩ := firstAt_lt l 0 x v h
  rw [Nat.zero_add] at h1
  subst h1
  refine ⟨i, rfl, h2, ?_⟩
  unfold rd_T46
  rw [Int.toNat_natCast]
  exact firstAt_at l 0 i x (by rw [Nat.zero_add]; exact h) h2
def nxA (l : List S46) (a : Int) : List Int := match firstAt l 0 a with | some i => nextL (rd_T46 l i) | none => []
inductive Rch (l : List S46) (a0 : Int) : Int → Prop
  | base : (firstAt l 0 a0).isSome = true → Rch l a0 a0
  | step {a b : Int} : Rch l a0 a → b ∈ nxA l a → (firstAt l 0 b).isSome = true → Rch l a0 b
theorem Rch.there {l : List S46} {a0 a : Int} (h : Rch l a0 a) : (firstAt l 0 a).isSome = true := by cases h <;> assumption
theorem Rch.le {l : List S46} {a0 : Int} {s : List Int} (hn : s.Nodup) (h : ∀ x ∈ s, Rch l a0 x) : s.length ≤ l.length := by
  have := nodup_len s (l.map (·.f0)) hn (fun x hx => by
    have h1 := (h x hx).there
    cases h2 : firstAt l 0 x with
    | none => rw [h2] at h1; cases h1
    | some v => exact firstAt_mem l 0 x v h2)
  simpa using this
end Go.Proofs.Ytcffniaieegbgaa.Pure

end

section
namespace Go.Proofs.Ytcffniaieegbgaa.Pure
open Go.RowKit Go.Proofs.Ytcffniaieegbgaa.P Go.Proofs.YtcffniaieegbgaaW.PrintWords
set_option linter.unusedSimpArgs false
set_option linter.unusedVariables false
def plc (l : List S46) (a : Int) : Int := (firstAt l 0 a).getD (-1)
theorem place_go (l : List S46) (hl : l.length ≤ 9223372036854775807) (a : Int) : ∀ (d i : Nat), l.length - i = d → i ≤ l.length → Ev (fun k => provisoref05_Place.l0 k a l (l.length : Int) (i : Int)) ((firstAt (l.drop i) i a).getD (-1))
  | 0, i, hd, hi => by
    obtain rfl : i = l.length := by omega
    refine Ev.step (f := fun _ => some (-1)) (fun k => ?_) (by rw [List.drop_length]; exact Ev.now _)
    simp only [provisoref05_Place.l0]
    rw [if_neg (by omega)]
  | d + 1, i, hd, hi => by
    have h1 : i < l.length := by omega
    rw [drop_atI h1]
    unfold firstAt
    by_cases h2 : (rd_T46 l (i : Int)).f0 = a
    · rw [if_pos h2]
      refine Ev.step (f := fun _ => some (i : Int)) (fun k => ?_) (Ev.now _)
      simp only [provisoref05_Place.l0]
      rw [if_pos (by omega), if_pos (by omega), if_pos (by omega), if_pos h2]
    · rw [if_neg h2]
      have ih := place_go l hl a d (i + 1) (by omega) (by omega)
      refine Ev.step (fun k => ?_) ih
      simp only [provisoref05_Place.l0]
      rw [if_pos (by omega), if_pos (by omega), if_pos (by omega), if_neg h2, wrap_one h1 hl]
theorem place_ev (l : List S46) (hl : l.length ≤ 9223372036854775807) (a : Int) : Ev (fun k => provisoref05_Place.f k l a) (plc l a) := by
  have h := place_go l hl a l.length 0 (by omega) (by omega)
  rw [List.drop_zero] at h
  exact h
end Go.Proofs.Ytcffniaieegbgaa.Pure

end

section
namespace Go.Proofs.Ytcffniaieegbgaa.Pure
open Go.RowKit Go.Proofs.Ytcffniaieegbgaa.P Go.Proofs.YtcffniaieegbgaaW.PrintWords
set_option linter.unusedSimpArgs false
set_option linter.unusedVariables false
theorem rd_mem {l : List Int} {i : Nat} (h : i < l.length) : rd l (i : Int) ∈ l := by
  have hr : rd l (i : Int) = l[i] := by simp [rd, List.getD_eq_getElem?_getD, h]
  rw [hr]; exact List.getElem_mem h
theorem take_go (l : List Int) (hb : ∀ x ∈ l, 0 ≤ x ∧ x ≤ 255) (wd : Nat) (h4 : wd ≤ 4) (hl : wd ≤ l.length) (hm : l.length ≤ 9223372036854775807) : ∀ (d i : Nat), wd - i = d → i ≤ wd → Ev (fun k => provisoref04_take.l0 k l (wd : Int) (numOf (l.take i)) (i : Int)) (opnd (l.take wd))
  | 0, i, hd, hi => by
    obtain rfl : i = wd := by omega
    have hlt : (l.take i).length = i := by rw [List.length_take]; omega
    have hs := num_small (l.take i) (fun x hx => hb x (List.mem_of_mem_take hx)) (by omega)
    refine Ev.step (f := fun _ => some (opnd (l.take i))) (fun k => ?_) (Ev.now _)
    simp only [provisoref04_take.l0]
    rw [if_neg (by omega)]
    unfold opnd
    rw [hlt]
    by_cases e : i = 4
    · rw [if_pos (by omega), if_pos e]
      split
      · congr 1
        unfold wrap64; omega
      · rfl
    · rw [if_neg (by omega), if_neg e]
  | d + 1, i, hd, hi => by
    have h1 : i < l.length := by omega
    have ih := take_go l hb wd h4 hl hm d (i + 1) (by omega) (by omega)
    have hs := num_small (l.take i) (fun x hx => hb x (List.mem_of_mem_take hx)) (by rw [List.length_take]; omega)
    have hx := hb _ (rd_mem h1)
    rw [num_take l i h1] at ih
    have hs2 : numOf (l.take i) < 16777216 := by
      have h9 := num_bound (l.take i) (fun x hx => hb x (List.mem_of_mem_take hx)) 0 (Int.le_refl _)
      rw [List.length_take, Nat.min_eq_left (by omega)] at h9
      have hp : (256 : Int) ^ i ≤ 16777216 := by
        have : i = 0 ∨ i = 1 ∨ i = 2 ∨ i = 3 := by omega
        rcases this with rfl | rfl | rfl | rfl <;> decide
      unfold numOf
      omega
    refine Ev.step (fun k => ?_) ih
    simp only [provisoref04_take.l0]
    rw [if_pos (by omega), if_pos (by omega), if_pos (by omega), wrap_one h1 hm]
    have e1 : wrap64 ((wrap64 (256 * numOf (l.take i))) + (wrap64 (rd l (i : Int)))) = numOf (l.take i) * 256 + rd l (i : Int) := by unfold wrap64; omega
    rw [e1]
theorem take_ev (l : List Int) (hb : ∀ x ∈ l, 0 ≤ x ∧ x ≤ 255) (wd : Nat) (h4 : wd ≤ 4) (hl : wd ≤ l.length) (hm : l.length ≤ 9223372036854775807) : Ev (fun k => provisoref04_take.f k l (wd : Int)) (opnd (l.take wd)) := by
  have h := take_go l hb wd h4 hl hm wd 0 (by omega) (by omega)
  exact h
theorem opnd_range (seg : List Int) (hb : ∀ x ∈ seg, 0 ≤ x ∧ x ≤ 255) (h4 : seg.length ≤ 4) : -2147483648 ≤ opnd seg ∧ opnd seg ≤ 4294967295 := by
  have := num_small seg hb h4
  unfold opnd
  split
  · split <;> omega
  · omega
theorem decW_nat (op : Int) : ∃ wa wb : Nat, (decW op).1 = (wa : Int) ∧ (decW op).2 = (wb : Int) ∧ wa ≤ 4 ∧ wb ≤ 1 := by
  have h := decW_range op
  generalize (decW op).1 = a at h ⊢
  generalize (decW op).2 = b at h ⊢
  exact ⟨a.toNat, b.toNat, by omega, by omega, by omega, by omega⟩
theorem dec_len (op : Int) (n i : Nat) (h0 : ¬ szOf op = 0) (h1 : ¬ (n : Int) - (i : Int) < szOf op) : ∃ wa wb : Nat, (decW op).1 = (wa : Int) ∧ (decW op).2 = (wb : Int) ∧ wa ≤ 4 ∧ wb ≤ 1 ∧ wa + wb + i + 1 ≤ n := by
  obtain ⟨wa, wb, hwa, hwb, hwa4, hwb1⟩ := decW_nat op
  have hsz : szOf op = if op ≥ 34 then 0 else 1 + (wa : Int) + (wb : Int) := by rw [szOf_is, hwa, hwb]
  refine ⟨wa, wb, hwa, hwb, hwa4, hwb1, ?_⟩
  clear hwa hwb
  generalize szOf op = s at h0 h1 hsz
  split at hsz
  · exact absurd hsz h0
  · omega
theorem decode_ev (l : List Int) (hb : ∀ x ∈ l, 0 ≤ x ∧ x ≤ 255) (hm : l.length ≤ 4096) (i : Nat) (hi : i < l.length) : Ev (fun k => provisoref04_Decode.f k l (i : Int)) (decL l i) := by
  unfold decL
  obtain ⟨op, hop⟩ : ∃ op, op = rd l (i : Int) := ⟨_, rfl⟩
  rw [← hop]
  have hbeg : ∀ k, provisoref04_Decode.f k l (i : Int) = provisoref04_Decode.j0 k l (i : Int) false 0 0 0 0 := fun k => by
    unfold provisoref04_Decode.f
    rw [if_neg (by omega), decide_eq_false (by omega)]
  refine Ev.congr hbeg ?_
  have hstep : ∀ k, provisoref04_Decode.j0 (k + 1) l (i : Int) false 0 0 0 0 = (provisoref04_Size.f k op).bind fun t107 => (if t107 = 0 then (some (0, 0, 0, 0, 40)) else (if ((l.length : Int) - (i : Int)) < t107 then (some (0, 0, 0, 0, 2)) else ((provisoref04_wide.f k op).bind fun bt108 => (if 0 ≤ ((i : Int) + 1) then (if ((i : Int) + 1) ≤ (l.length : Int) then ((provisoref04_take.f k (l.drop (i + 1)) bt108.1).bind fun t111 => (if 0 ≤ (wrap64 ((i : Int) + 1 + bt108.1)) then (if (wrap64 ((i : Int) + 1 + bt108.1)) ≤ (l.length : Int) then ((provisoref04_take.f k (l.drop ((wrap64 ((i : Int) + 1 + bt108.1)) : Int).toNat) bt108.2).bind fun t113 => (if op = 2 then (if t111 > 1 then (some (0, 0, 0, 0, 5)) else (some ((i : Int), op, t111, t113, 0))) else (some ((i : Int), op, t111, t113, 0)))) else (none)) else (none))) else (none)) else (none))))) := fun k => by
    simp only [provisoref04_Decode.j0]
    have e1 : wrap64 ((l.length : Int) - (i : Int)) = (l.length : Int) - (i : Int) := by unfold wrap64; omega
    have e2 : wrap64 ((i : Int) + 1) = (i : Int) + 1 := by unfold wrap64; omega
    rw [if_neg (by decide), if_neg (by omega), if_pos (by omega), if_pos (by omega), ← hop, e1, e2, show ((i : Int) + 1).toNat = i + 1 by omega]
  refine Ev.step hstep (Ev.bind (rsize_ev op) ?_)
  by_cases h0 : szOf op = 0
  · simp only [if_pos h0]
    exact Ev.now _
  simp only [if_neg h0]
  by_cases h1 : (l.length : Int) - (i : Int) < szOf op
  · simp only [if_pos h1]
    exact Ev.now _
  simp only [if_neg h1]
  obtain ⟨wa, wb, hwa, hwb, hwa4, hwb1, hlen⟩ := dec_len op l.length i h0 h1
  clear h1
  have hwide : Ev (fun k => provisoref04_wide.f k op) ((wa : Int), (wb : Int)) := ⟨2, fun k hk => by
    obtain ⟨m, rfl⟩ : ∃ m, k = m + 2 := ⟨k - 2, by omega⟩
    show provisoref04_wide.f (m + 2) op = _
    rw [wide_is, decW_is, hwa, hwb]⟩
  rw [hwa, hwb, Int.toNat_natCast, Int.toNat_natCast]
  refine Ev.bind hwide ?_
  have hbd : ∀ x ∈ l.drop (i + 1), 0 ≤ x ∧ x ≤ 255 := fun x hx => hb x (List.mem_of_mem_drop hx)
  have hta := take_ev (l.drop (i + 1)) hbd wa (by omega) (by rw [List.length_drop]; omega) (by rw [List.length_drop]; omega)
  have htb := take_ev ((l.drop (i + 1)).drop wa) (fun x hx => hbd x (List.mem_of_mem_drop hx)) wb (by omega) (by rw [List.length_drop, List.length_drop]; omega) (by rw [List.length_drop, List.length_drop]; omega)
  have e3 : wrap64 ((i : Int) + 1 + (wa : Int)) = ((i + 1 + wa : Nat) : Int) := by unfold wrap64; omega
  simp only [e3]
  refine Ev.congr (f := fun k => (provisoref04_take.f k (l.drop (i + 1)) (wa : Int)).bind fun t111 => ((provisoref04_take.f k ((l.drop (i + 1)).drop wa) (wb : Int)).bind fun t113 => (if op = 2 then (if t111 > 1 then (some (0, 0, 0, 0, 5)) else (some ((i : Int), op, t111, t113, 0))) else (some ((i : Int), op, t111, t113, 0))))) (fun k => ?_) (Ev.bind hta (Ev.bind htb ?_))
  · have c1 : (0 : Int) ≤ ((i + 1 + wa : Nat) : Int) := by omega
    have c2 : ((i + 1 + wa : Nat) : Int) ≤ (l.length : Int) := by omega
    rw [if_pos (by omega), if_pos (by omega)]
    simp only [if_pos c1, if_pos c2, Int.toNat_natCast, List.drop_drop]
  · by_cases h2 : op = 2
    · by_cases h3 : opnd ((l.drop (i + 1)).take wa) > 1
      · simp only [if_pos h2, if_pos h3, if_pos (And.intro h2 h3)]
        exact Ev.now _
      · simp only [if_pos h2, if_neg h3, if_neg (show ¬ (op = 2 ∧ opnd ((l.drop (i + 1)).take wa) > 1) from fun h => h3 h.2)]
        exact Ev.now _
    · simp only [if_neg h2, if_neg (show ¬ (op = 2 ∧ opnd ((l.drop (i + 1)).take wa) > 1) from fun h => h2 h.1)]
      exact Ev.now _
theorem pdecode_is (l : List Int) (hb : bytesOk l = true) (i : Nat) (hi : i < l.length) : code_Decode.f l (i : Int) = some (decL l i) := by
  unfold code_Decode.f
  rw [if_pos ⟨by omega, by omega, hb⟩, Int.toNat_natCast]
inductive Seq (l : List Int) : List S46 → Nat → Prop
  | nil : Seq l [] 0
  | snoc {acc : List S46} {i : Nat} {op a b : Int} : Seq l acc i → i < l.length → decL l i = ((i : Int), op, a, b, 0) → 1 ≤ szOf op → (i : Int) + szOf op ≤ (l.length : Int) → I64 a → Seq l (acc ++ [⟨(i : Int), op, a, b⟩]) (i + (szOf op).toNat)
theorem decL_ok {l : List Int} (hb : ∀ x ∈ l, 0 ≤ x ∧ x ≤ 255) {i : Nat} (hi : i < l.length) (h : (decL l i).2.2.2.2 = 0) : ∃ op a b, decL l i = ((i : Int), op, a, b, 0) ∧ 1 ≤ szOf op ∧ (i : Int) + szOf op ≤ (l.length : Int) ∧ I64 a := by
  have hbd : ∀ x ∈ l.drop (i + 1), 0 ≤ x ∧ x ≤ 255 := fun x hx => hb x (List.mem_of_mem_drop hx)
  obtain ⟨wa, wb, hwa, hwb, hwa4, hwb1⟩ := decW_nat (rd l (i : Int))
  have hge : 0 ≤ szOf (rd l (i : Int)) := (szOf_range _).1
  unfold decL at h ⊢
  by_cases h0 : szOf (rd l (i : Int)) = 0
  · rw [if_pos h0] at h
    simp at h
  rw [if_neg h0] at h ⊢
  by_cases h1 : (l.length : Int) - (i : Int) < szOf (rd l (i : Int))
  · rw [if_pos h1] at h
    simp at h
  rw [if_neg h1] at h ⊢
  split at h
  · simp at h
  · rename_i h2
    rw [if_neg h2]
    refine ⟨_, _, _, rfl, (by clear h h2 hwa hwb; generalize szOf (rd l (i : Int)) = s at *; omega), (by clear h h2 hwa hwb; generalize szOf (rd l (i : Int)) = s at *; omega), ?_⟩
    have := opnd_range ((l.drop (i + 1)).take (decW (rd l (i : Int))).1.toNat) (fun x hx => hbd x (List.mem_of_mem_take hx)) (by rw [List.length_take]; omega)
    constructor <;> omega
theorem Seq.le {l : List Int} {acc : List S46} {i : Nat} (h : Seq l acc i) : acc.length ≤ i ∧ i ≤ l.length := by
  induction h with
  | nil => simp
  | snoc _ h1 _ h2 h3 _ ih =>
    rw [List.length_append, List.length_singleton]
    omega
theorem scan_go (l : List Int) (hb : bytesOk l = true) (hm : l.length ≤ 4096) : ∀ (d i : Nat) (acc : List S46), l.length - i ≤ d → Seq l acc i → ∃ (ls : List S46) (a e : Int), Ev (fun k => flow_Scan.l0 k l acc (i : Int)) (ls, a, e) ∧ Ev (fun k => provisoref05_Scan.l0 k l acc (i : Int)) (ls, a, e) ∧ ((e = 0 ∧ a = 0 ∧ Seq l ls l.length) ∨ (e ≠ 0 ∧ ls = [] ∧ (l ≠ [] ∨ True))) := by
  intro d
  induction d with
  | zero =>
    intro i acc hd hs
    have := hs.le
    have e : i = l.length := by omega
    subst e
    refine ⟨acc, 0, 0, Ev.step (f := fun _ => some (acc, 0, 0)) (fun k => ?_) (Ev.now _), Ev.step (f := fun _ => some (acc, 0, 0)) (fun k => ?_) (Ev.now _), .inl ⟨rfl, rfl, hs⟩⟩
    · simp only [flow_Scan.l0]
      rw [if_neg (by omega)]
    · simp only [provisoref05_Scan.l0]
      rw [if_neg (by omega)]
  | succ d ih =>
    intro i acc hd hs
    have hle := hs.le
    by_cases hi : i < l.length
    · have hde := decode_ev l (bytesOk_is hb) hm i hi
      have hdp := pdecode_is l hb i hi
      by_cases h0 : (decL l i).2.2.2.2 = 0
      · obtain ⟨op, a, b, hd1, h1, h2, h3⟩ := decL_ok (bytesOk_is hb) hi h0
        have hz := szOf_range op
        have hs2 := Seq.snoc hs hi hd1 h1 h2 h3
        obtain ⟨ls, a9, e9, e1, e2, hr⟩ := ih (i + (szOf op).toNat) (acc ++ [⟨(i : Int), op, a, b⟩]) (by omega) hs2
        have hw : wrap64 ((i : Int) + szOf op) = ((i + (szOf op).toNat : Nat) : Int) := by unfold wrap64; omega
        refine ⟨ls, a9, e9, ?_, ?_, hr⟩
        · refine Ev.step (f := fun k => (code_Size.f k op).bind (fun t => flow_Scan.l0 k l (acc ++ [⟨(i : Int), op, a, b⟩]) (wrap64 ((i : Int) + t)))) (fun k => ?_) (Ev.bind ?_ (by rw [hw]; exact e1))
          · simp only [flow_Scan.l0]
            rw [if_pos (by omega), hdp, hd1]
            simp only [Option.bind_some, if_true]
            rw [if_pos (by omega)]
          · exact ⟨3, fun k hk => by
              obtain ⟨m, rfl⟩ : ∃ m, k = m + 3 := ⟨k - 3, by omega⟩
              exact size_is m op⟩
        · rw [hd1] at hde
          refine Ev.step (f := fun k => (provisoref04_Decode.f k l (i : Int)).bind (fun bt115 => (if bt115.2.2.2.2 = 0 then (if acc.length < 4398046511104 then ((provisoref04_Size.f k bt115.2.1).bind fun t124 => (provisoref05_Scan.l0 k l (acc ++ [(⟨bt115.1, bt115.2.1, bt115.2.2.1, bt115.2.2.2.1⟩ : S46)]) (wrap64 ((i : Int) + t124)))) else (none)) else (some (([] : List (S46)), (i : Int), bt115.2.2.2.2))))) (fun k => ?_) (Ev.bind hde ?_)
          · simp only [provisoref05_Scan.l0]
            rw [if_pos (by omega)]
          · simp only [if_true]
            refine Ev.congr (fun k => by rw [if_pos (by omega)]) (Ev.bind (rsize_ev op) (by rw [hw]; exact e2))
      · refine ⟨[], (i : Int), (decL l i).2.2.2.2, ?_, ?_, .inr ⟨h0, rfl, .inr trivial⟩⟩
        · refine Ev.step (f := fun _ => some ([], (i : Int), (decL l i).2.2.2.2)) (fun k => ?_) (Ev.now _)
          simp only [flow_Scan.l0]
          rw [if_pos (by omega), hdp]
          simp only [Option.bind_some]
          rw [if_neg h0]
        · refine Ev.step (f := fun k => (provisoref04_Decode.f k l (i : Int)).bind (fun bt115 => (if bt115.2.2.2.2 = 0 then (if acc.length < 4398046511104 then ((provisoref04_Size.f k bt115.2.1).bind fun t124 => (provisoref05_Scan.l0 k l (acc ++ [(⟨bt115.1, bt115.2.1, bt115.2.2.1, bt115.2.2.2.1⟩ : S46)]) (wrap64 ((i : Int) + t124)))) else (none)) else (some (([] : List (S46)), (i : Int), bt115.2.2.2.2))))) (fun k => ?_) (Ev.bind hde ?_)
          · simp only [provisoref05_Scan.l0]
            rw [if_pos (by omega)]
          · simp only [if_neg h0]
            exact Ev.now _
    · have e : i = l.length := by omega
      subst e
      refine ⟨acc, 0, 0, Ev.step (f := fun _ => some (acc, 0, 0)) (fun k => ?_) (Ev.now _), Ev.step (f := fun _ => some (acc, 0, 0)) (fun k => ?_) (Ev.now _), .inl ⟨rfl, rfl, hs⟩⟩
      · simp only [flow_Scan.l0]
        rw [if_neg (by omega)]
      · simp only [provisoref05_Scan.l0]
        rw [if_neg (by omega)]
theorem scan_ev (l : List Int) (hb : bytesOk l = true) : ∃ (ls : List S46) (a e : Int), Ev (fun k => flow_Scan.f k l) (ls, a, e) ∧ Ev (fun k => provisoref05_Scan.f k l) (ls, a, e) ∧ ((e = 0 ∧ a = 0 ∧ l.length ≤ 4096 ∧ Seq l ls l.length) ∨ (e ≠ 0 ∧ ls = [])) := by
  by_cases h : (l.length : Int) > 4096
  · refine ⟨[], 0, 4, Ev.congr (f := fun _ => some ([], 0, 4)) (fun k => ?_) (Ev.now _), Ev.congr (f := fun _ => some ([], 0, 4)) (fun k => ?_) (Ev.now _), .inr ⟨by decide, rfl⟩⟩
    · unfold flow_Scan.f; rw [if_pos h]
    · unfold provisoref05_Scan.f; rw [if_pos h]
  · obtain ⟨ls, a, e, e1, e2, hr⟩ := scan_go l hb (by omega) l.length 0 [] (by omega) Seq.nil
    refine ⟨ls, a, e, Ev.congr (fun k => ?_) e1, Ev.congr (fun k => ?_) e2, hr.imp (fun h9 => ⟨h9.1, h9.2.1, by omega, h9.2.2⟩) (fun h9 => ⟨h9.1, h9.2.1⟩)⟩
    · unfold flow_Scan.f; rw [if_neg h]; rfl
    · unfold provisoref05_Scan.f; rw [if_neg h]; rfl
theorem Seq.all {l : List Int} {acc : List S46} {i : Nat} (h : Seq l acc i) : ∀ x ∈ acc, 0 ≤ x.f0 ∧ x.f0 + szOf x.f1 ≤ (i : Int) ∧ 1 ≤ szOf x.f1 ∧ I64 x.f2 := by
  induction h with
  | nil => intro x hx; cases hx
  | @snoc acc i op a b h0 h1 hd h2 h3 h4 ih =>
    intro x hx
    rcases List.mem_append.1 hx with hx | hx
    · have := ih x hx
      exact ⟨this.1, by omega, this.2.2⟩
    · rw [List.mem_singleton.1 hx]
      exact ⟨(show (0 : Int) ≤ (i : Int) by omega), (show (i : Int) + szOf op ≤ ((i + (szOf op).toNat : Nat) : Int) by omega), h2, h4⟩
theorem Seq.ok {l : List Int} {acc : List S46} {i : Nat} (h : Seq l acc i) (hi : i ≤ 4096) : asOk acc = true ∧ atsOk acc = true := by
  constructor
  · refine List.all_eq_true.2 fun x hx => ?_
    obtain ⟨h1, h2, h3, h4⟩ := h.all x hx
    unfold I64 at h4
    simp [h4.1, h4.2]
  · refine List.all_eq_true.2 fun x hx => ?_
    obtain ⟨h1, h2, h3, h4⟩ := h.all x hx
    have hz := szOf_range x.f1
    simp
    omega
theorem Seq.zero {l : List Int} {acc : List S46} {i : Nat} (h : Seq l acc i) (h0 : acc = []) : i = 0 := by
  induction h with
  | nil => rfl
  | snoc => simp at h0
theorem Seq.first {l : List Int} {acc : List S46} {i : Nat} (h : Seq l acc i) (h0 : acc ≠ []) : (acc.getD 0 z46).f0 = 0 := by
  induction h with
  | nil => exact absurd rfl h0
  | @snoc acc i op a b h1 _ _ _ _ _ ih =>
    cases acc with
    | nil =>
      have hle := h1.zero rfl
      subst hle
      rfl
    | cons y r => exact ih (by simp)
end Go.Proofs.Ytcffniaieegbgaa.Pure

end

section
namespace Go.Proofs.Ytcffniaieegbgaa.Pure
open Go.RowKit Go.Proofs.Ytcffniaieegbgaa.P Go.Proofs.YtcffniaieegbgaaW.PrintWords
set_option linter.unusedSimpArgs false
set_option linter.unusedVariables false
theorem check_go (l : List S46) (hl : l.length < 4398046511104) : ∀ (d i : Nat), l.length - i = d → i ≤ l.length → Ev (fun k => provisoref05_Check.l0 k l l (l.length : Int) (i : Int)) (checkGo l (l.drop i))
  | 0, i, hd, hi => by
    obtain rfl : i = l.length := by omega
    rw [List.drop_length]
    unfold checkGo checkEnd
    by_cases h0 : l.length = 0
    · rw [if_pos h0]
      refine Ev.step (f := fun _ => some (0, 51)) (fun k => ?_) (Ev.now _)
      simp only [provisoref05_Check.l0]
      rw [if_neg (by omega), if_pos (by omega)]
    · rw [if_neg h0]
      have e1 : wrap64 ((l.length : Int) - 1) = ((l.length - 1 : Nat) : Int) := by unfold wrap64; omega
      refine Ev.step (f := fun _ => some (if endsB (rd_T46 l ((l.length - 1 : Nat) : Int)).f1 = true then (0, 0) else ((rd_T46 l ((l.length - 1 : Nat) : Int)).f0, 51))) (fun k => ?_) (Ev.now _)
      simp only [provisoref05_Check.l0]
      rw [if_neg (by omega), if_neg (by omega), e1, if_pos (by omega), if_pos (by omega), rends_is]
      simp only [Option.bind_some]
      split <;> rfl
  | d + 1, i, hd, hi => by
    have h1 : i < l.length := by omega
    have ih := check_go l hl d (i + 1) (by omega) (by omega)
    rw [drop_atI h1]
    obtain ⟨x, hx⟩ : ∃ x, x = rd_T46 l (i : Int) := ⟨_, rfl⟩
    rw [← hx]
    unfold checkGo
    cases hj : jumpsB x.f1 with
    | false =>
      rw [if_neg (by simp)]
      refine Ev.step (fun k => ?_) ih
      simp only [provisoref05_Check.l0]
      rw [if_pos (by omega), if_pos (by omega), if_pos (by omega), ← hx, rjumps_is, hj, wrap_one h1 (by omega)]
      simp only [Option.bind_some, Bool.false_eq_true, if_false]
    | true =>
      have hp := place_ev l (by omega) x.f2
      refine Ev.step (f := fun k => (provisoref05_Place.f k l x.f2).bind (fun t283 => (if t283 < 0 then (some (x.f0, 50)) else (provisoref05_Check.l0 k l l (l.length : Int) ((i + 1 : Nat) : Int))))) (fun k => ?_) (Ev.bind hp ?_)
      · simp only [provisoref05_Check.l0]
        rw [if_pos (by omega), if_pos (by omega), if_pos (by omega), ← hx, rjumps_is, hj, wrap_one h1 (by omega)]
        simp only [Option.bind_some, if_true]
      · unfold plc
        cases hf : firstAt l 0 x.f2 with
        | none =>
          simp only [Option.getD_none, Option.isSome_none, Bool.not_false, Bool.and_self, if_true]
          exact Ev.now _
        | some j =>
          obtain ⟨jj, rfl, hjj, _⟩ := firstAt_idx hf
          simp only [Option.getD_some, Option.isSome_some, Bool.not_true, Bool.and_false, Bool.false_eq_true, if_false]
          refine Ev.congr (fun k => ?_) ih
          rw [if_neg (by omega)]
theorem check_ev (l : List Int) (hb : bytesOk l = true) : ∃ (ls : List S46) (a e c1 c2 : Int), Ev (fun k => flow_Scan.f k l) (ls, a, e) ∧ Ev (fun k => provisoref05_Scan.f k l) (ls, a, e) ∧ Ev (fun k => flow_Check.f k l) (c1, c2) ∧ Ev (fun k => provisoref05_Check.f k l) (c1, c2) ∧ ls.length ≤ 4096 ∧ ((e = 0 ∧ a = 0 ∧ l.length ≤ 4096 ∧ Seq l ls l.length ∧ (c1, c2) = checkGo ls ls) ∨ (e ≠ 0 ∧ ls = [] ∧ c1 = a ∧ c2 = e)) := by
  obtain ⟨ls, a, e, e1, e2, hr⟩ := scan_ev l hb
  rcases hr with ⟨rfl, rfl, h3, h4⟩ | ⟨h1, rfl⟩
  · have hok := h4.ok h3
    have hle := h4.le
    refine ⟨ls, 0, 0, (checkGo ls ls).1, (checkGo ls ls).2, e1, e2, ?_, ?_, by omega, .inl ⟨rfl, rfl, h3, h4, rfl⟩⟩
    · refine Ev.congr (f := fun k => (flow_Scan.f k l).bind fun q => if q.2.2 = 0 then (if q.1.length < 4398046511104 ∧ asOk q.1 = true ∧ atsOk q.1 = true then some (checkGo q.1 q.1) else none) else some (q.2.1, q.2.2)) (fun k => rfl) (Ev.bind e1 ?_)
      simp only [if_true]
      rw [if_pos ⟨by omega, hok.1, hok.2⟩]
      exact Ev.now _
    · refine Ev.congr (f := fun k => (provisoref05_Scan.f k l).bind fun q => if q.2.2 = 0 then provisoref05_Check.l0 k q.1 q.1 (q.1.length : Int) 0 else some (q.2.1, q.2.2)) (fun k => rfl) (Ev.bind e2 ?_)
      simp only [if_true]
      have h := check_go ls (by omega) ls.length 0 (by omega) (by omega)
      rw [List.drop_zero] at h
      exact h
  · refine ⟨[], a, e, a, e, e1, e2, ?_, ?_, by simp, .inr ⟨h1, rfl, rfl, rfl⟩⟩
    · refine Ev.congr (f := fun k => (flow_Scan.f k l).bind fun q => if q.2.2 = 0 then (if q.1.length < 4398046511104 ∧ asOk q.1 = true ∧ atsOk q.1 = true then some (checkGo q.1 q.1) else none) else some (q.2.1, q.2.2)) (fun k => rfl) (Ev.bind e1 ?_)
      simp only [if_neg h1]
      exact Ev.now _
    · refine Ev.congr (f := fun k => (provisoref05_Scan.f k l).bind fun q => if q.2.2 = 0 then provisoref05_Check.l0 k q.1 q.1 (q.1.length : Int) 0 else some (q.2.1, q.2.2)) (fun k => rfl) (Ev.bind e2 ?_)
      simp only [if_neg h1]
      exact Ev.now _
theorem bytes_of {l : List Int} (h : ∀ x ∈ l, (Lit.int .u8 x).wf = true) : bytesOk l = true := by
  refine List.all_eq_true.2 fun x hx => ?_
  have := h x hx
  simp [Lit.wf, IntKind.min, IntKind.max, IntKind.signed, IntKind.bits] at this
  rw [decide_eq_true (by omega), decide_eq_true (by omega)]
  rfl
end Go.Proofs.Ytcffniaieegbgaa.Pure

end

section
namespace Go.Proofs.Ytcffniaieegbgaa.Pure
open Go.RowKit Go.Proofs.Ytcffniaieegbgaa.P Go.Proofs.YtcffniaieegbgaaW.PrintWords
theorem FlowScans : provisolaw05_FlowScans.Pure := by
  intro l ⟨_, hl, hok⟩
  obtain ⟨ls, a, e, c1, c2, ⟨K1, h1⟩, ⟨K2, h2⟩, ⟨K3, h3⟩, ⟨K4, h4⟩, hlen, _⟩ := check_ev l (bytes_of hok)
  obtain ⟨K5, h5⟩ := instrs_ev ls (by omega)
  refine ⟨by omega, K1 + K2 + K3 + K4 + K5 + l.length + 1, ls, a, e, c1, c2, h1 _ (by omega), h2 _ (by omega), h3 _ (by omega), h4 _ (by omega), h5 _ (by omega), untouched_is l (by omega) _ (by omega)⟩
end Go.Proofs.Ytcffniaieegbgaa.Pure

end

section
namespace Go.Proofs.Ytcffniaieegbgaa.flowScans
open Go.ChangeShapes Go.WideShapes Go.ChangeAt Go.RowKit Go.Proofs.YtcffniaieegbgaaW.PrintWords Go.Proofs.Ytcffniaieegbgaa.Sees Go.Proofs.Ytcffniaieegbgaa.P
open Go.ChangeMaps (open_string shut_string)
set_option linter.unusedVariables false
set_option linter.unusedSimpArgs false
theorem own : ownKnob Try.prog.godebug = none := by kernel_rfl
theorem laidOut : laidOutB Try.prog = true := by kernel_rfl
set_option maxRecDepth 100000 in
theorem lifted (os : Os) (started : os.Started) (H : Type) (enc : TypeId × Value → H) :
    ReturnsInHanded {} Try.checked os 5 .any (Rows.flowScansSpec.pre6 enc Try.prog Try.f5 Rows.flowScansRow.domain false) (Rows.flowScansSpec.post enc Try.prog Try.f5 false true false false) := by
  refine returnsInHanded_of_change_sized (C := Try.checked) own started (by kernel_rfl) Try.func5
    (ChangeSpec.witness6 (enc := enc) (C := Try.checked) false ⟨#[], #[.slice none 0 0], []⟩ 8 (by kernel_rfl) (by kernel_rfl) (by kernel_rfl) (by kernel_rfl)) ?_
  intro W base args ds gs before hval0 hW hcnd hsz0 _
  have hsz : (DataW.weightsEach Try.prog (Try.f5.params.toList ++ Rows.flowScansSpec.plain.varTypes Try.prog) (ds ++ gs)).all (· ≤ reachBytes) = true := hsz0
  have hval : ∀ (j : Nat) t v, Try.f5.params[j]? = some t → args[j]? = some v → Value.okWide Try.prog W .any base t v := hval0
  have hW' := hW
  obtain ⟨p, q, hA0, hV, rfl, hfz, hnd⟩ := hW
  have hA : DataW.TrodAll enc Try.prog W 0 (fun _ => true) true Try.f5.params.toList args.toList ds p := hA0
  rw [Try.params5] at hA hval hsz
  obtain ⟨v0, vs0, d0, ds0, p0, q0, hargs, rfl, rfl, h0, r0⟩ := trodAll_cons hA
  obtain ⟨rfl, rfl, rfl⟩ := trodAll_nil r0
  obtain rfl : args = #[v0] := by cases args; simp_all
  obtain ⟨rfl, rfl⟩ := trodVars_none hV
  have k0 := h0
  have lt0 : ∀ x ∈ p0, x.block < W.heap.size := by obtain ⟨m, hm⟩ := k0; exact DataW.trod_lt m _ _ _ hm
  obtain ⟨y0, hy0, oy0⟩ := see_arg (j := 0) (t := 22) (sees_slice (B := 1) Try.underlying22 (by kernel_rfl) (by kernel_rfl) (sees_int Try.underlying5)) hsz rfl rfl h0
  obtain ⟨a0, len0, cap0, rfl⟩ := okWide_slice Try.underlying22 (hval 0 22 v0 rfl rfl)
  obtain ⟨rfl, hc0, hr0⟩ := see_slice rfl hy0
  clear hA0 hval0 hsz0 hsz
  have hk := Pure.FlowScans y0 oy0
  refine (provisolaw05_FlowScans.calls _ _ y0 W hr0 hc0 hk).mono ?_
  rintro e W' ⟨rfl, bel0⟩
  have bel : Below W.heap.size W W' := bel0
  exact ⟨_, rfl, _, _, _, [], _, [], hW', trodAll_mk1 (shut_bool Try.underlying4 _), (trodAll_cons_mk (Below.trod laidOut (by kernel_rfl) (of_decide_eq_true (by kernel_rfl)) k0 bel lt0) trodAll_mk0), rfl, bel.frame _, fun h => by cases h⟩
theorem over : Rows.flowScansRow.holds Try.pinned (OpenSpec.ofChange Rows.flowScansSpec) :=
  OpenClaim.holds_of_wide 5 Try.f5 rfl rfl rfl rfl rfl rfl rfl ⟨rfl, rfl, rfl, rfl, rfl⟩ rfl rfl rfl rfl rfl (by kernel_rfl) Try.func5 (by kernel_rfl)
    (of_decide_eq_true (by kernel_rfl)) (by unfold Func.isWrapper; first | (rw [if_pos (by decide +kernel)]; kernel_rfl) | (rw [if_neg (by decide +kernel)]; exact ⟨rfl, rfl⟩))
    (fun os started H enc _ => lifted os started H enc)
theorem proved : Rows.FlowScansSaid := over
end Go.Proofs.Ytcffniaieegbgaa.flowScans
namespace Go.Proofs.Ytcffniaieegbgaa
theorem flowScans_holds : Rows.FlowScansSaid := flowScans.proved
end Go.Proofs.Ytcffniaieegbgaa

end

