/- Proved: the law FlowInside holds for every input that the row lets in. No condition of ours. -/
import Derived.Test.YtcffniaieegbgaaBFlowInsided
import Derived.Test.YtcffniaieegbgaaRows
import Derived.ShutString
import Derived.ChangeOld
import Derived.Lib.SmallJoins
section
namespace Go.Proofs.Ytcffniaieegbgaa.P
open Go.RowKit Go.Proofs.YtcffniaieegbgaaW.PrintWords Go.Proofs.YtcffniaieegbgaaW.PrintLast Go.Proofs.YtcffniaieegbgaaW.PrintMore
attribute [local go_sem] max2_int min2_int max_two min_two max_three min_three max_four min_four   -- for this text's walks alone
set_option linter.unusedVariables false
set_option linter.unusedSimpArgs false

attribute [local go_sem high] eqA46

set_option maxHeartbeats 8000000 in
set_option maxRecDepth 100000 in
theorem flow_Scan.calls (k : Nat) (A0 : Option Addr) (c0 : Nat) (l0 : List Int) (r1 : List (S46)) (r2 : Int) (r3 : Int) (w : World) (hr0 : Kd.C (Kd.int .u8) w A0 l0.length l0) (hc0 : l0.length ≤ c0) (h : flow_Scan.f k l0 = some (r1, r2, r3)) :
    Calls Try.prog 26 #[.slice A0 l0.length c0] w fun e w' => ∃ v0_ : Value, e = .returned (.tuple #[v0_, .int .i64 r2, .int .i64 r3]) ∧ Kd.R k46 46 w' w.heap.size (fun _ => True) v0_ r1 ∧ Below w.heap.size w w' := by
  have hu46 := Try.underlying46
  have HR0 := Aside0.mk hr0
  have HC0 := Aside0.mk hc0
  clear hr0 hc0
  have HB := Aside0.mk (Below.refl w.heap.size w)
  have H : (if (l0.length : Int) > 4096 then (some (([] : List (S46)), 0, 4)) else (flow_Scan.l0 k l0 ([] : List (S46)) 0)) = some (r1, r2, r3) := h
  clear h
  by_cases c2 : (l0.length : Int) > 4096
  · rw [if_pos c2] at H
    have c2b0 : decide (4096 < (l0.length : Int)) = true := decide_eq_true c2
    have c2b1 : decide (4096 < l0.length) = true := decide_eq_true (by omega)
    clear c2
    simp only [Option.some.injEq, Prod.mk.injEq] at H
    obtain ⟨rfl, rfl, rfl⟩ := H
    go_enter Try.func26, Try.ntmps26
    go_wp2
    go_ret3
    exact ⟨_, by first | rfl | (simp [errW_none, errW_some] <;> rfl) | (simp [*, errW_none, errW_some] <;> rfl), by first | exact Kd.R_nil _ _ _ _ _ | exact Kd.N_nil _ _ _ _ _ | exact Kd.V_nil _ _ _ _ _ | exact Kd.Q_nil _ _ _ _ _ | exact Kd.S_nil _ _ _ _ _, by repeat (first | (with_reducible first | exact HB.out | apply below_alloc | apply pw_below_drewN | apply below_drew1) | exact HB.out)⟩
  · rw [if_neg c2] at H
    have c2b0 : decide (4096 < (l0.length : Int)) = false := decide_eq_false c2
    have c2b1 : decide (4096 < l0.length) = false := decide_eq_false (by omega)
    clear c2
    have H' := Aside0.mk H
    clear H
    go_enter Try.func26, Try.ntmps26
    go_wp2
    go_loopg [5, 6] k (fun kq v5 v6 w' => ∃ (x5_1 : List (S46)) (x6_1 : Int), v6 = .int .i64 x6_1 ∧ Aside0 (flow_Scan.l0 kq l0 x5_1 x6_1 = some (r1, r2, r3)) ∧ Aside0 (kq ≤ k) ∧ Aside0 (Kd.R k46 46 w' w.heap.size (fun _ => True) v5 x5_1) ∧ Aside0 (Below w.heap.size w w'))
    case atStart => exact ⟨(([] : List (S46))), (0), (by first | rfl | (simp; done) | (simp [*]; done)), H', ⟨Nat.le_refl _⟩, ⟨by first | exact Kd.R_nil _ _ _ _ _ | exact Kd.N_nil _ _ _ _ _ | exact Kd.V_nil _ _ _ _ _ | exact Kd.Q_nil _ _ _ _ _ | exact Kd.S_nil _ _ _ _ _⟩, ⟨by repeat (first | (with_reducible first | exact HB.out | apply below_alloc | apply pw_below_drewN | apply below_drew1) | exact HB.out)⟩⟩
    case round =>
      clear H'
      try clear c2
      try clear c2b0
      try clear c2b1
      try clear p2
      obtain ⟨x5_1, x6_1, rfl, HA, HK1, HO_5, HB⟩ := hrel
      cases gk with
      | zero => exact absurd HA.out (by simp [flow_Scan.l0])
      | succ k1 =>
        have H := HA.out
        clear HA
        simp only [flow_Scan.l0] at H
        by_cases c3 : x6_1 < (l0.length : Int)
        · rw [if_pos c3] at H
          have c3b0 : decide (x6_1 < (l0.length : Int)) = true := decide_eq_true c3
          clear c3
          replace H := Option.bind_eq_some_iff.mp H
          obtain ⟨⟨t267, t268, t269, t270, t271⟩, A40, H⟩ := H
          replace H : (if t271 = 0 then (if x5_1.length < 4398046511104 then ((code_Size.f k1 t268).bind fun t276 => (flow_Scan.l0 k1 l0 (x5_1 ++ [(⟨t267, t268, t269, t270⟩ : S46)]) (wrap64 (x6_1 + t276)))) else (none)) else (some (([] : List (S46)), x6_1, t271))) = some (r1, r2, r3) := H
          have A4 := Aside0.mk A40
          clear A40
          by_cases c5 : t271 = 0
          · rw [if_pos c5] at H
            have c5b0 : (t271 == 0) = true := beq_iff_eq.mpr c5
            have c5b1 : (t271 != 0) = false := bne_eq_false_iff_eq.mpr c5
            clear c5
            by_cases c6 : x5_1.length < 4398046511104
            · rw [if_pos c6] at H
              have LMc6 := Aside0.mk c6
              clear c6
              obtain ⟨y273, hy273⟩ : ∃ y_ : List (S46), y_ = (x5_1 ++ [(⟨t267, t268, t269, t270⟩ : S46)]) := ⟨_, rfl⟩
              replace H : ((code_Size.f k1 t268).bind fun t276 => (flow_Scan.l0 k1 l0 y273 (wrap64 (x6_1 + t276)))) = some (r1, r2, r3) := by first | (rw [hy273]; with_reducible exact H) | (have H2_ := (Option.bind_some _ _).symm.trans H; rw [hy273]; with_reducible exact H2_) | (have H2_ := (Option.bind_some _ _).symm.trans H; with_reducible exact H2_) | with_reducible exact H | (rw [hy273]; exact H) | exact H
              have Ny273 := Aside0.mk hy273
              clear hy273
              replace H := Option.bind_eq_some_iff.mp H
              obtain ⟨t276, A70, H⟩ := H
              replace H : (flow_Scan.l0 k1 l0 y273 (wrap64 (x6_1 + t276))) = some (r1, r2, r3) := H
              have A7 := Aside0.mk A70
              clear A70
              have H' := Aside0.mk H
              clear H
              go_wp2_with (first | ((with_reducible refine gate_callee (f := 52) rfl ?_); refine goesL_ (some 19) rfl rfl Try.func52 (by kernel_rfl) rfl #[.slice A0 l0.length c0, .int .i64 x6_1] rfl (by (try simp only [List.map_toArray, List.map_cons, List.map_nil]); first | done | rfl | (simp only [List.length_drop, List.length_take]; rfl)) ?_; (with_reducible refine (code_Decode.calls _ _ l0 x6_1 t267 t268 t269 t270 t271 _ ?side1 ?side2 A4.out).mono ?_); (case side1 => repeat (first | exact (Kd.C_below HR0.out HB.out) | (with_reducible refine Kd.C_alloc ?_ _) | (with_reducible refine Kd.C_drewN ?_ _) | (with_reducible refine Kd.C_drew ?_))); (case side2 => exact HC0.out); rintro e w8 ⟨rfl, hb⟩; refine ⟨_, rfl, ?_⟩; have n0_ := Aside0.mk (Kd.R_below (by (with_reducible repeat (first | apply Kd.R_alloc | apply Kd.R_drewN | apply Kd.R_drew)); exact HO_5.out) hb); have n1_ := Aside0.mk (below_step (by repeat (first | (with_reducible first | exact HB.out | apply below_alloc | apply pw_below_drewN | apply below_drew1) | exact HB.out)) hb); clear HO_5; clear HB; have HO_5 := n0_; have HB := n1_; clear n0_ n1_; (try clear hb); (try clear hb2); (try clear hk); (try clear hi)) | ((with_reducible refine gate_dst (N := 7) rfl ?_); refine box_event ?hg (N := 7) ?hd (cs := #[.int .i64 0, .int .u8 0, .int .i64 0, .int .i64 0]) (t := 46) ?hr ?_; (case hd => rfl); (case hg => rfl); (case hr => first | (go_simp; done) | (go_simp; rfl)); intro gb272 hg w9 hbox hb; have n0_ := Aside0.mk (Kd.R_below (Kd.R_elderB (by (with_reducible repeat (first | apply Kd.R_alloc | apply Kd.R_drewN | apply Kd.R_drew)); exact HO_5.out) gb272 (Nat.le_of_eq hg.symm)) hb); have n1_ := Aside0.mk (below_step (by repeat (first | (with_reducible first | exact HB.out | apply below_alloc | apply pw_below_drewN | apply below_drew1) | exact HB.out)) hb); have n2_ := Aside0.mk (hbox); have n3_ := Aside0.mk ((by rw [hg]; exact (below_size (by repeat (first | (with_reducible first | exact HB.out | apply below_alloc | apply pw_below_drewN | apply below_drew1) | exact HB.out))) : w.heap.size ≤ gb272)); have n4_ := Aside0.mk ((by rw [hg]; exact (below_size (by repeat (first | (with_reducible first | exact HB.out | apply below_alloc | apply pw_below_drewN | apply below_drew1) | exact HB.out))) : w.heap.size ≤ gb272)); clear HO_5; clear HB; have HO_5 := n0_; have HB := n1_; have BK272 := n2_; have GW272 := n3_; have GE272 := n4_; clear n0_ n1_ n2_ n3_ n4_; clear hb hbox hg; have hcz10_0 : w9.cell? ⟨gb272, 0, none⟩ = some (.int .i64 0) := (blk_cell BK272.out 0).trans rfl; have hcz10_1 : w9.cell? ⟨gb272, 1, none⟩ = some (.int .u8 0) := (blk_cell BK272.out 1).trans rfl; have hcz10_2 : w9.cell? ⟨gb272, 2, none⟩ = some (.int .i64 0) := (blk_cell BK272.out 2).trans rfl; have hcz10_3 : w9.cell? ⟨gb272, 3, none⟩ = some (.int .i64 0) := (blk_cell BK272.out 3).trans rfl; have hfz10_0 := blk_frozen BK272.out 0; have hfz10_1 := blk_frozen BK272.out 1; have hfz10_2 := blk_frozen BK272.out 2; have hfz10_3 := blk_frozen BK272.out 3) | ((with_reducible refine gate_builtin (b := .append) (xs := #[.tmp 26, .tmp 28]) rfl ?_); at_builtin; refine Kd.R_append k46 (w0 := w) w.heap.size rfl (.tmp 26) (.tmp 28) 23 46 (.agg #[(.int .i64 0), (.int .u8 0), (.int .i64 0), (.int .i64 0)]) 32 rfl Try.underlying23 info46 rfl (by decide) (by omega) u5 x5_1 (⟨t267, t268, t269, t270⟩ : S46) [.int .i64 t267, .int .u8 t268, .int .i64 t269, .int .i64 t270] (fun k_ => k_ ≠ gb272) (fun _ => False) rfl (by first | (go_simp; done) | (go_simp; rfl)) ?aP (fun _ hk => hk.elim) ?aF ?aO ?aB ?aS ?aL ?_; (case aP => exact k46_mkM _ _ _ (⟨t267, t268, t269, t270⟩ : S46)); (case aB => exact (by repeat (first | (with_reducible first | exact HB.out | apply below_alloc | apply pw_below_drewN | apply below_drew1 | refine below_set ?_ GE272.out) | exact HB.out))); (case aF => exact (fun k_ hk => Kd.freshB (g := gb272) (o := .cells #[.int .i64 t267, .int .u8 t268, .int .i64 t269, .int .i64 t270] 46 (0, 0)) (by (with_reducible repeat (first | refine blk_drewN ?_ _ | refine blk_drew ?_ | refine blk_alloc ?_ _)); refine blk_put (cs := #[.int .i64 t267, .int .u8 t268, .int .i64 t269, .int .i64 0]) ?_ 3 _ rfl; (with_reducible repeat (first | refine blk_drewN ?_ _ | refine blk_drew ?_ | refine blk_alloc ?_ _)); refine blk_put (cs := #[.int .i64 t267, .int .u8 t268, .int .i64 0, .int .i64 0]) ?_ 2 _ rfl; (with_reducible repeat (first | refine blk_drewN ?_ _ | refine blk_drew ?_ | refine blk_alloc ?_ _)); refine blk_put (cs := #[.int .i64 t267, .int .u8 0, .int .i64 0, .int .i64 0]) ?_ 1 _ rfl; (with_reducible repeat (first | refine blk_drewN ?_ _ | refine blk_drew ?_ | refine blk_alloc ?_ _)); refine blk_put (cs := #[.int .i64 0, .int .u8 0, .int .i64 0, .int .i64 0]) ?_ 0 _ rfl; (with_reducible repeat (first | refine blk_drewN ?_ _ | refine blk_drew ?_ | refine blk_alloc ?_ _)); exact BK272.out) k_ hk)); (case aO => exact (by (with_reducible repeat (first | apply Kd.R_alloc | apply Kd.R_drewN | apply Kd.R_drew)); exact Kd.R_mono (Kd.R_far (p := ⟨gb272, 3, none⟩) (Kd.R_far (p := ⟨gb272, 2, none⟩) (Kd.R_far (p := ⟨gb272, 1, none⟩) (Kd.R_far (p := ⟨gb272, 0, none⟩) (Kd.R_mono HO_5.out (fun k_ hk => (⟨hk, hk.2⟩ : _ ∧ k_ ≠ gb272))) (fun _ hk => hk.2) (.int .i64 t267)) (fun _ hk => hk.2) (.int .u8 t268)) (fun _ hk => hk.2) (.int .i64 t269)) (fun _ hk => hk.2) (.int .i64 t270)) (fun _ hk => hk.1.2))); (case aS => exact (below_size (by repeat (first | (with_reducible first | exact HB.out | apply below_alloc | apply pw_below_drewN | apply below_drew1 | refine below_set ?_ GE272.out) | exact HB.out)))); (case aL => have := LMc6.out; omega); intro v274 w11 ho hb hg hat; rw [← Ny273.out] at ho; have n0_ := Aside0.mk (blk_grown (g := gb272) (o := .cells #[.int .i64 t267, .int .u8 t268, .int .i64 t269, .int .i64 t270] 46 (0, 0)) (by (with_reducible repeat (first | refine blk_drewN ?_ _ | refine blk_drew ?_ | refine blk_alloc ?_ _)); refine blk_put (cs := #[.int .i64 t267, .int .u8 t268, .int .i64 t269, .int .i64 0]) ?_ 3 _ rfl; (with_reducible repeat (first | refine blk_drewN ?_ _ | refine blk_drew ?_ | refine blk_alloc ?_ _)); refine blk_put (cs := #[.int .i64 t267, .int .u8 t268, .int .i64 0, .int .i64 0]) ?_ 2 _ rfl; (with_reducible repeat (first | refine blk_drewN ?_ _ | refine blk_drew ?_ | refine blk_alloc ?_ _)); refine blk_put (cs := #[.int .i64 t267, .int .u8 0, .int .i64 0, .int .i64 0]) ?_ 1 _ rfl; (with_reducible repeat (first | refine blk_drewN ?_ _ | refine blk_drew ?_ | refine blk_alloc ?_ _)); refine blk_put (cs := #[.int .i64 0, .int .u8 0, .int .i64 0, .int .i64 0]) ?_ 0 _ rfl; (with_reducible repeat (first | refine blk_drewN ?_ _ | refine blk_drew ?_ | refine blk_alloc ?_ _)); exact BK272.out) hg (Kd.R_away HO_5.out (fun _ hk => hk.2))); have n1_ := Aside0.mk (hb); have n2_ := Aside0.mk (ho); clear BK272; clear HB; clear HO_5; have BK272 := n0_; have HB := n1_; have HO275 := n2_; clear n0_ n1_ n2_; clear ho hb hg hat; have hcz12_0 : w11.cell? ⟨gb272, 0, none⟩ = some (.int .i64 t267) := (blk_cell BK272.out 0).trans rfl; have hcz12_1 : w11.cell? ⟨gb272, 1, none⟩ = some (.int .u8 t268) := (blk_cell BK272.out 1).trans rfl; have hcz12_2 : w11.cell? ⟨gb272, 2, none⟩ = some (.int .i64 t269) := (blk_cell BK272.out 2).trans rfl; have hcz12_3 : w11.cell? ⟨gb272, 3, none⟩ = some (.int .i64 t270) := (blk_cell BK272.out 3).trans rfl; have hfz12_0 := blk_frozen BK272.out 0; have hfz12_1 := blk_frozen BK272.out 1; have hfz12_2 := blk_frozen BK272.out 2; have hfz12_3 := blk_frozen BK272.out 3) | ((with_reducible refine gate_callee (f := 53) rfl ?_); refine goesL_ (some 33) rfl rfl Try.func53 (by kernel_rfl) rfl #[.int .u8 t268] rfl (by (try simp only [List.map_toArray, List.map_cons, List.map_nil]); first | done | rfl | (simp only [List.length_drop, List.length_take]; rfl)) ?_; (with_reducible refine (code_Size.calls k1 t268 t276 _ A7.out).mono ?_); rintro e w' ⟨rfl, ⟨nd, rfl⟩⟩; refine ⟨_, rfl, ?_⟩))
              go_roundg k1
              case measure => have := HK1.out; omega
              case rel => exact ⟨(y273), (wrap64 (x6_1 + t276)), (by first | rfl | (simp; done) | (simp [*]; done)), H', ⟨by have := HK1.out; omega⟩, ⟨by (with_reducible repeat (first | apply Kd.R_alloc | apply Kd.R_drewN | apply Kd.R_drew)); exact Kd.R_mono HO275.out (fun _ hk => trivial)⟩, ⟨by repeat (first | (with_reducible first | exact HB.out | apply below_alloc | apply pw_below_drewN | apply below_drew1 | refine below_set ?_ GE272.out) | exact HB.out)⟩⟩
            · rw [if_neg c6] at H
              exact absurd H (by simp)
          · rw [if_neg c5] at H
            have c5b0 : (t271 == 0) = false := beq_eq_false_iff_ne.mpr c5
            have c5b1 : (t271 != 0) = true := bne_iff_ne.mpr c5
            simp only [Option.some.injEq, Prod.mk.injEq] at H
            obtain ⟨rfl, rfl, rfl⟩ := H
            go_wp2_with (first | ((with_reducible refine gate_callee (f := 52) rfl ?_); refine goesL_ (some 19) rfl rfl Try.func52 (by kernel_rfl) rfl #[.slice A0 l0.length c0, .int .i64 x6_1] rfl (by (try simp only [List.map_toArray, List.map_cons, List.map_nil]); first | done | rfl | (simp only [List.length_drop, List.length_take]; rfl)) ?_; (with_reducible refine (code_Decode.calls _ _ l0 x6_1 t267 t268 t269 t270 t271 _ ?side1 ?side2 A4.out).mono ?_); (case side1 => repeat (first | exact (Kd.C_below HR0.out HB.out) | (with_reducible refine Kd.C_alloc ?_ _) | (with_reducible refine Kd.C_drewN ?_ _) | (with_reducible refine Kd.C_drew ?_))); (case side2 => exact HC0.out); rintro e w13 ⟨rfl, hb⟩; refine ⟨_, rfl, ?_⟩; have n0_ := Aside0.mk (Kd.R_below (by (with_reducible repeat (first | apply Kd.R_alloc | apply Kd.R_drewN | apply Kd.R_drew)); exact HO_5.out) hb); have n1_ := Aside0.mk (below_step (by repeat (first | (with_reducible first | exact HB.out | apply below_alloc | apply pw_below_drewN | apply below_drew1) | exact HB.out)) hb); clear HO_5; clear HB; have HO_5 := n0_; have HB := n1_; clear n0_ n1_; (try clear hb); (try clear hb2); (try clear hk); (try clear hi)) | ((with_reducible refine gate_dst (N := 7) rfl ?_); refine box_event ?hg (N := 7) ?hd (cs := #[.int .i64 0, .int .u8 0, .int .i64 0, .int .i64 0]) (t := 46) ?hr ?_; (case hd => rfl); (case hg => rfl); (case hr => first | (go_simp; done) | (go_simp; rfl)); intro gb272 hg w14 hbox hb; have n0_ := Aside0.mk (Kd.R_below (Kd.R_elderB (by (with_reducible repeat (first | apply Kd.R_alloc | apply Kd.R_drewN | apply Kd.R_drew)); exact HO_5.out) gb272 (Nat.le_of_eq hg.symm)) hb); have n1_ := Aside0.mk (below_step (by repeat (first | (with_reducible first | exact HB.out | apply below_alloc | apply pw_below_drewN | apply below_drew1) | exact HB.out)) hb); have n2_ := Aside0.mk (hbox); have n3_ := Aside0.mk ((by rw [hg]; exact (below_size (by repeat (first | (with_reducible first | exact HB.out | apply below_alloc | apply pw_below_drewN | apply below_drew1) | exact HB.out))) : w.heap.size ≤ gb272)); have n4_ := Aside0.mk ((by rw [hg]; exact (below_size (by repeat (first | (with_reducible first | exact HB.out | apply below_alloc | apply pw_below_drewN | apply below_drew1) | exact HB.out))) : w.heap.size ≤ gb272)); clear HO_5; clear HB; have HO_5 := n0_; have HB := n1_; have BK272 := n2_; have GW272 := n3_; have GE272 := n4_; clear n0_ n1_ n2_ n3_ n4_; clear hb hbox hg; have hcz15_0 : w14.cell? ⟨gb272, 0, none⟩ = some (.int .i64 0) := (blk_cell BK272.out 0).trans rfl; have hcz15_1 : w14.cell? ⟨gb272, 1, none⟩ = some (.int .u8 0) := (blk_cell BK272.out 1).trans rfl; have hcz15_2 : w14.cell? ⟨gb272, 2, none⟩ = some (.int .i64 0) := (blk_cell BK272.out 2).trans rfl; have hcz15_3 : w14.cell? ⟨gb272, 3, none⟩ = some (.int .i64 0) := (blk_cell BK272.out 3).trans rfl; have hfz15_0 := blk_frozen BK272.out 0; have hfz15_1 := blk_frozen BK272.out 1; have hfz15_2 := blk_frozen BK272.out 2; have hfz15_3 := blk_frozen BK272.out 3))
            go_ret3
            exact ⟨_, by first | rfl | (simp [errW_none, errW_some] <;> rfl) | (simp [*, errW_none, errW_some] <;> rfl), by first | exact Kd.R_nil _ _ _ _ _ | exact Kd.N_nil _ _ _ _ _ | exact Kd.V_nil _ _ _ _ _ | exact Kd.Q_nil _ _ _ _ _ | exact Kd.S_nil _ _ _ _ _, by repeat (first | (with_reducible first | exact HB.out | apply below_alloc | apply pw_below_drewN | apply below_drew1 | refine below_set ?_ GE272.out) | exact HB.out)⟩
        · rw [if_neg c3] at H
          have c3b0 : decide (x6_1 < (l0.length : Int)) = false := decide_eq_false c3
          clear c3
          simp only [Option.some.injEq, Prod.mk.injEq] at H
          obtain ⟨rfl, rfl, rfl⟩ := H
          go_wp2
          go_ret3
          exact ⟨_, by first | rfl | (simp [errW_none, errW_some] <;> rfl) | (simp [*, errW_none, errW_some] <;> rfl), by (with_reducible repeat (first | apply Kd.R_alloc | apply Kd.R_drewN | apply Kd.R_drew)); exact HO_5.out, by repeat (first | (with_reducible first | exact HB.out | apply below_alloc | apply pw_below_drewN | apply below_drew1) | exact HB.out)⟩

set_option maxHeartbeats 1600000 in
set_option maxRecDepth 100000 in
theorem addresses_calls (A0 : Option Addr) (c0 : Nat) (l0 : List S46) (w : World) (hr0 : Kd.C k46 w A0 l0.length l0) (hok : atsOk l0 = true) (hlen : l0.length < 4398046511104) :
    Calls Try.prog 54 #[.slice A0 l0.length c0] w fun e w' => ∃ B, e = .returned (.map (some B)) ∧ Mp w B l0.length (firstAt l0 0) [] w' := by
  have HR := Aside0.mk hr0
  have HO := Aside0.mk hok
  have HL := Aside0.mk hlen
  have HM := Aside0.mk (Rws.nil w)
  clear hr0 hok
  go_enter Try.func54, Try.ntmps54
  go_wp2_with (first | ((with_reducible refine gate_dst (N := 8) rfl ?_); refine mp_make rfl rfl HM.out ?_; intro B w_ hM; replace HM := Aside0.mk hM; clear hM))
  go_loopw [11] (fun v11 wr => ∃ (i : Nat), v11 = .int .i64 (i : Int) ∧ i ≤ l0.length ∧ Aside0 (Mp w B i (firstAt (l0.take i) 0) [] wr)) (fun v11 _ => ((l0.length : Int) - intOf v11).toNat)
  case atStart => exact ⟨0, rfl, Nat.zero_le _, HM⟩
  case round =>
    rename_i wr
    clear HM
    obtain ⟨i, rfl, hi, HM⟩ := hrel
    by_cases c1 : i < l0.length
    · obtain ⟨x, hx⟩ : ∃ x, x = rd_T46 l0 (i : Int) := ⟨_, rfl⟩
      obtain ⟨ad, e1, hx0, hx1, hx2, hx3⟩ := at_I HR.out HM.out.below c1 hx
      cases e1
      have HX := Aside0.mk hx
      have HI : Aside0 (i < l0.length) := ⟨c1⟩
      have c1b : decide ((i : Int) < (l0.length : Int)) = true := decide_eq_true (by omega)
      have p5 : (0 ≤ (i : Int)) = True := eq_true (by omega)
      have p6 : ((i : Int) < (l0.length : Int)) = True := eq_true (by omega)
      clear hx
      have hk : I64 x.f0 := by have := atsOk_at HO.out c1; rw [← HX.out] at this; exact this
      have HK := Aside0.mk hk
      have hs := take_snoc c1 z46
      have hs : l0.take (i + 1) = l0.take i ++ [x] := by rw [hs, HX.out]; rfl
      have HS := Aside0.mk hs
      have hlt : (l0.take i).length = i := by rw [List.length_take]; omega
      have HLT := Aside0.mk hlt
      have hW := wrap_next (show i < 4398046511104 by omega)
      have HW := Aside0.mk hW
      clear hk hs hlt hW
      cases hg : firstAt (l0.take i) 0 x.f0 with
      | none =>
        have HG := Aside0.mk hg
        have hgs : (firstAt (l0.take i) 0 x.f0).isSome = false := by rw [hg]; rfl
        have HGS := Aside0.mk hgs
        clear hg hgs
        go_wp2_with (first | ((with_reducible refine gate_dst (N := 5) rfl ?_); refine mp_alloc rfl 46 rfl (cs := #[.int .i64 0, .int .u8 0, .int .i64 0, .int .i64 0]) (by kernel_rfl) HM.out ?_; intro b w_ hM; replace HM := Aside0.mk hM; clear hM) | (refine mp_store rfl 46 rfl rfl (cs' := #[.int .i64 x.f0, .int .u8 x.f1, .int .i64 x.f2, .int .i64 x.f3]) rfl HM.out (by kernel_rfl) rfl (by show _ = _; kernel_rfl) ?_; intro w_ hM; have f0 := blk_cell (hM.rows.mem List.mem_cons_self) 0; have f1 := blk_cell (hM.rows.mem List.mem_cons_self) 1; have f2 := blk_cell (hM.rows.mem List.mem_cons_self) 2; have f3 := blk_cell (hM.rows.mem List.mem_cons_self) 3; replace HM := Aside0.mk hM; clear hM hx0 hx1 hx2 hx3) | ((with_reducible refine gate_dst (N := 20) rfl ?_); refine im_look_ok rfl rfl rfl HM.out.own rfl HK.out ?_; rw [HGS.out]) | (at_mapUpdate; refine mp_map rfl rfl rfl HM.out (by have := HL.out; have := HI.out; unfold maxLen; omega) rfl rfl HK.out (by have := HL.out; have := HI.out; constructor <;> omega) ?_; intro w_ hM; replace HM := Aside0.mk hM; clear hM f0 f1 f2 f3))
        go_roundw
        case rel => exact ⟨i + 1, by have := HW.out; first | rfl | (simp; done), by omega, ⟨by rw [HS.out, firstAt_step_none HG.out, HLT.out]; exact HM.out.clear⟩⟩
        case measure => simp [intOf]; omega
      | some v =>
        have hgs : (firstAt (l0.take i) 0 x.f0).isSome = true := by rw [hg]; rfl
        have HGS := Aside0.mk hgs
        clear hg hgs
        go_wp2_with (first | ((with_reducible refine gate_dst (N := 5) rfl ?_); refine mp_alloc rfl 46 rfl (cs := #[.int .i64 0, .int .u8 0, .int .i64 0, .int .i64 0]) (by kernel_rfl) HM.out ?_; intro b w_ hM; replace HM := Aside0.mk hM; clear hM) | (refine mp_store rfl 46 rfl rfl (cs' := #[.int .i64 x.f0, .int .u8 x.f1, .int .i64 x.f2, .int .i64 x.f3]) rfl HM.out (by kernel_rfl) rfl (by show _ = _; kernel_rfl) ?_; intro w_ hM; have f0 := blk_cell (hM.rows.mem List.mem_cons_self) 0; have f1 := blk_cell (hM.rows.mem List.mem_cons_self) 1; have f2 := blk_cell (hM.rows.mem List.mem_cons_self) 2; have f3 := blk_cell (hM.rows.mem List.mem_cons_self) 3; replace HM := Aside0.mk hM; clear hM hx0 hx1 hx2 hx3) | ((with_reducible refine gate_dst (N := 20) rfl ?_); refine im_look_ok rfl rfl rfl HM.out.own rfl HK.out ?_; rw [HGS.out]))
        clear f0 f1 f2 f3
        go_roundw
        case rel => exact ⟨i + 1, by have := HW.out; first | rfl | (simp; done), by omega, ⟨by rw [HS.out, firstAt_step_some HGS.out]; exact HM.out.clear.more⟩⟩
        case measure => simp [intOf]; omega
    · have e : i = l0.length := by omega
      have HE := Aside0.mk e
      clear e
      go_wp2
      go_ret
      exact ⟨B, rfl, by have := HM.out; rw [HE.out, List.take_of_length_le (Nat.le_refl _)] at this; exact this⟩

end Go.Proofs.Ytcffniaieegbgaa.P

end

section
namespace Go.Proofs.Ytcffniaieegbgaa.P
open Go.RowKit Go.Proofs.YtcffniaieegbgaaW.PrintWords Go.Proofs.YtcffniaieegbgaaW.PrintLast Go.Proofs.YtcffniaieegbgaaW.PrintMore
attribute [local go_sem] max2_int min2_int max_two min_two max_three min_three max_four min_four   -- for this text's walks alone
set_option linter.unusedVariables false
set_option linter.unusedSimpArgs false

def checkEnd (l : List S46) : Int × Int := if l.length = 0 then (0, 51) else if endsB (rd_T46 l ((l.length - 1 : Nat) : Int)).f1 = true then (0, 0) else ((rd_T46 l ((l.length - 1 : Nat) : Int)).f0, 51)
def checkGo (l : List S46) : List S46 → Int × Int
  | [] => checkEnd l
  | x :: r => if (jumpsB x.f1 && !(firstAt l 0 x.f2).isSome) = true then (x.f0, 50) else checkGo l r
def flow_Check.f (k : Nat) (l0 : List Int) : Option (Int × Int) := (flow_Scan.f k l0).bind fun q => if q.2.2 = 0 then (if q.1.length < 4398046511104 ∧ asOk q.1 = true ∧ atsOk q.1 = true then some (checkGo q.1 q.1) else none) else some (q.2.1, q.2.2)
theorem drop_cI {l : List S46} {i : Nat} (h : i < l.length) : l.drop i = rd_T46 l (i : Int) :: l.drop (i + 1) := by
  rw [List.drop_eq_getElem_cons h]
  congr 1
  show l[i] = l.getD (i : Int).toNat z46
  rw [Int.toNat_natCast, List.getD_eq_getElem?_getD, List.getElem?_eq_getElem h]
  rfl
set_option maxHeartbeats 1600000 in
set_option maxRecDepth 100000 in
theorem flow_Check.calls (k : Nat) (A0 : Option Addr) (c0 : Nat) (l0 : List Int) (r1 : Int) (r2 : Int) (w : World) (hr0 : Kd.C (Kd.int .u8) w A0 l0.length l0) (hc0 : l0.length ≤ c0) (h : flow_Check.f k l0 = some (r1, r2)) :
    Calls Try.prog 28 #[.slice A0 l0.length c0] w fun e w' => e = .returned (.tuple #[.int .i64 r1, .int .i64 r2]) ∧ Below w.heap.size w w' := by
  unfold flow_Check.f at h
  obtain ⟨⟨l, at_, er⟩, hs, h⟩ := Option.bind_eq_some_iff.1 h
  have HS := Aside0.mk hs
  have HR := Aside0.mk hr0
  have HC := Aside0.mk hc0
  have H := Aside0.mk h
  clear hr0 hc0 h hs
  go_enter Try.func28, Try.ntmps28
  go_wp2_with fail
  refine (flow_Scan.calls k A0 c0 l0 l at_ er _ HR.out HC.out HS.out).mono ?_
  rintro e w1 ⟨v, rfl, hR1, hb1⟩
  obtain ⟨A1, c1, e1, hc1, hC1⟩ := Kd.R_reads hR1
  subst e1
  have HR1 := Aside0.mk hC1
  have HB1 := Aside0.mk hb1
  clear hR1 hb1 hc1 hC1
  by_cases q0 : er = 0
  case neg =>
    have q0b : (!(er == 0)) = true := by simp [q0]
    have q0c : (er == 0) = false := by rw [beq_eq_false_iff_ne]; exact q0
    have q0d : (er != 0) = true := by simp [q0]
    have hh := H.out
    simp only [if_neg q0] at hh
    obtain ⟨rfl, rfl⟩ := Prod.mk.inj (Option.some.inj hh)
    clear hh q0
    go_wp2
    go_ret2
    exact ⟨rfl, HB1.out⟩
  subst q0
  have hh := H.out
  simp only [if_true] at hh
  by_cases q1 : l.length < 4398046511104 ∧ asOk l = true ∧ atsOk l = true
  case neg => rw [if_neg q1] at hh; cases hh
  rw [if_pos q1] at hh
  have HV := Aside0.mk (Option.some.inj hh).symm
  have HL := Aside0.mk q1.1
  have HO := Aside0.mk q1.2.1
  have HOA := Aside0.mk q1.2.2
  have hll : l.length < 4398046511104 := q1.1
  clear hh H q1
  go_wp2_with fail
  refine (addresses_calls A1 c1 l _ HR1.out HOA.out HL.out).mono ?_
  rintro e w2 ⟨B, rfl, hM⟩
  have HM := Aside0.mk hM
  clear hM
  go_wp2_with fail
  go_loopw [27] (fun v27 wr => ∃ (i : Nat), v27 = .int .i64 (i : Int) ∧ i ≤ l.length ∧ Aside0 (Mp w1 B l.length (firstAt l 0) [] wr) ∧ Aside0 ((r1, r2) = checkGo l (l.drop i))) (fun v27 _ => ((l.length : Int) - intOf v27).toNat)
  case atStart => exact ⟨0, rfl, Nat.zero_le _, HM, ⟨by rw [List.drop_zero]; exact HV.out⟩⟩
  case round =>
    rename_i wr
    clear HM
    obtain ⟨i, rfl, hi, HM, HG⟩ := hrel
    by_cases c1 : i < l.length
    · obtain ⟨x, hx⟩ : ∃ x, x = rd_T46 l (i : Int) := ⟨_, rfl⟩
      obtain ⟨ad, e1, hx0, hx1, hx2, hx3⟩ := at_I HR1.out HM.out.below c1 hx
      cases e1
      have HX := Aside0.mk hx
      have c1b : decide ((i : Int) < (l.length : Int)) = true := decide_eq_true (by omega)
      have p5 : (0 ≤ (i : Int)) = True := eq_true (by omega)
      have p6 : ((i : Int) < (l.length : Int)) = True := eq_true (by omega)
      have hk : I64 x.f2 := by have := asOk_at HO.out c1; rw [← hx] at this; exact this
      have HK := Aside0.mk hk
      have HW := Aside0.mk (wrap_next (show i < 4398046511104 by omega))
      have HG : Aside0 ((r1, r2) = if (jumpsB x.f1 && !(firstAt l 0 x.f2).isSome) = true then (x.f0, 50) else checkGo l (l.drop (i + 1))) := ⟨by rw [HG.out, drop_cI c1, ← hx]; rfl⟩
      obtain ⟨there, hth⟩ : ∃ b, b = (firstAt l 0 x.f2).isSome := ⟨_, rfl⟩
      have HTH := Aside0.mk hth
      have HG : Aside0 ((r1, r2) = if (jumpsB x.f1 && !there) = true then (x.f0, 50) else checkGo l (l.drop (i + 1))) := ⟨by rw [HG.out, ← hth]⟩
      clear hx hk hth
      go_wp2_with (first | ((with_reducible refine gate_dst (N := 9) rfl ?_); refine mp_alloc rfl 46 rfl (cs := #[.int .i64 0, .int .u8 0, .int .i64 0, .int .i64 0]) (by kernel_rfl) HM.out ?_; intro b w_ hM; replace HM := Aside0.mk hM; clear hM) | (refine mp_store rfl 46 rfl rfl (cs' := #[.int .i64 x.f0, .int .u8 x.f1, .int .i64 x.f2, .int .i64 x.f3]) rfl HM.out (by kernel_rfl) rfl (by show _ = _; kernel_rfl) ?_; intro w_ hM; have f0 := blk_cell (hM.rows.mem List.mem_cons_self) 0; have f1 := blk_cell (hM.rows.mem List.mem_cons_self) 1; have f2 := blk_cell (hM.rows.mem List.mem_cons_self) 2; have f3 := blk_cell (hM.rows.mem List.mem_cons_self) 3; replace HM := Aside0.mk hM; clear hM hx0 hx1 hx2 hx3) | ((with_reducible refine gate_dst (N := 35) rfl ?_); refine im_look_ok rfl rfl rfl HM.out.own rfl HK.out ?_; rw [← HTH.out]))
      refine (code_Jumps.calls x.f1 (jumpsB x.f1) _ (jumps_is x.f1)).mono ?_
      rintro e w_ ⟨rfl, hd⟩
      clear f0 f1 f2 f3
      replace HM := Aside0.mk (HM.out.step hd.below)
      clear hd
      cases qj : jumpsB x.f1 with
      | false =>
        have HG9 : Aside0 ((r1, r2) = checkGo l (l.drop (i + 1))) := ⟨by rw [HG.out, qj, if_neg (by simp)]⟩
        clear qj
        go_wp2
        go_roundw
        case rel => exact ⟨i + 1, by have := HW.out; first | rfl | (simp; done), by omega, ⟨HM.out.clear⟩, HG9⟩
        case measure => simp [intOf]; omega
      | true =>
        cases qt : there with
        | true =>
          have HG9 : Aside0 ((r1, r2) = checkGo l (l.drop (i + 1))) := ⟨by rw [HG.out, qj, qt, if_neg (by simp)]⟩
          clear qj
          go_wp2
          go_roundw
          case rel => exact ⟨i + 1, by have := HW.out; first | rfl | (simp; done), by omega, ⟨HM.out.clear⟩, HG9⟩
          case measure => simp [intOf]; omega
        | false =>
          have HG9 : Aside0 ((r1, r2) = (x.f0, 50)) := ⟨by rw [HG.out, qj, qt, if_pos (by simp)]⟩
          clear qj
          have f0 := blk_cell (HM.out.rows.mem List.mem_cons_self) 0
          have f1 := blk_cell (HM.out.rows.mem List.mem_cons_self) 1
          have f2 := blk_cell (HM.out.rows.mem List.mem_cons_self) 2
          have f3 := blk_cell (HM.out.rows.mem List.mem_cons_self) 3
          go_wp2
          go_ret2
          have e9 := HG9.out
          obtain ⟨rfl, rfl⟩ := Prod.mk.inj e9
          exact ⟨rfl, below_then HB1.out HB1.out.size HM.out.below⟩
    · have e9 : l.drop i = [] := List.drop_of_length_le (by omega)
      have c1b : decide ((i : Int) < (l.length : Int)) = false := decide_eq_false (by omega)
      have c1c : decide (i < l.length) = false := decide_eq_false (by omega)
      have HE : Aside0 ((r1, r2) = checkEnd l) := ⟨by rw [HG.out, e9]; rfl⟩
      clear e9 c1 hi HG
      by_cases q2 : l.length = 0
      · have q2b : ((l.length : Int) == 0) = true := by rw [q2]; rfl
        have HE : Aside0 ((r1, r2) = ((0 : Int), (51 : Int))) := ⟨by rw [HE.out]; unfold checkEnd; rw [if_pos q2]⟩
        clear q2
        go_wp2
        go_ret2
        obtain ⟨rfl, rfl⟩ := Prod.mk.inj HE.out
        exact ⟨rfl, below_then HB1.out HB1.out.size HM.out.below⟩
      · have q2b : ((l.length : Int) == 0) = false := by rw [beq_eq_false_iff_ne]; omega
        obtain ⟨m, hm⟩ : ∃ m, l.length = m + 1 := ⟨l.length - 1, by omega⟩
        obtain ⟨x, hx⟩ : ∃ x, x = rd_T46 l (m : Int) := ⟨_, rfl⟩
        have HE : Aside0 ((r1, r2) = if endsB x.f1 = true then (0, 0) else (x.f0, 51)) := ⟨by rw [HE.out]; unfold checkEnd; rw [if_neg q2, show l.length - 1 = m by omega, ← hx]⟩
        obtain ⟨ad, e1, hx0, hx1, hx2, hx3⟩ := at_I HR1.out HM.out.below (show m < l.length by omega) hx
        cases e1
        have p4 : (l.length : Int) - 1 = (m : Int) := by omega
        have p5 : (0 ≤ (m : Int)) = True := eq_true (by omega)
        have p6 : ((m : Int) < (l.length : Int)) = True := eq_true (by omega)
        clear q2 hx hm
        go_wp2_with (first | ((with_reducible refine gate_dst (N := 12) rfl ?_); refine mp_alloc rfl 46 rfl (cs := #[.int .i64 0, .int .u8 0, .int .i64 0, .int .i64 0]) (by kernel_rfl) HM.out ?_; intro b w_ hM; replace HM := Aside0.mk hM; clear hM) | (refine mp_store rfl 46 rfl rfl (cs' := #[.int .i64 x.f0, .int .u8 x.f1, .int .i64 x.f2, .int .i64 x.f3]) rfl HM.out (by kernel_rfl) rfl (by show _ = _; kernel_rfl) ?_; intro w_ hM; have f0 := blk_cell (hM.rows.mem List.mem_cons_self) 0; have f1 := blk_cell (hM.rows.mem List.mem_cons_self) 1; have f2 := blk_cell (hM.rows.mem List.mem_cons_self) 2; have f3 := blk_cell (hM.rows.mem List.mem_cons_self) 3; replace HM := Aside0.mk hM; clear hM hx0 hx1 hx2 hx3))
        refine (code_Ends.calls x.f1 (endsB x.f1) _ (ends_is x.f1)).mono ?_
        rintro e w_ ⟨rfl, hd⟩
        clear f0 f1 f2 f3
        replace HM := Aside0.mk (HM.out.step hd.below)
        clear hd
        cases qe : endsB x.f1 with
        | true =>
          have HE : Aside0 ((r1, r2) = ((0 : Int), (0 : Int))) := ⟨by rw [HE.out, qe, if_pos rfl]⟩
          clear qe
          go_wp2
          go_ret2
          obtain ⟨rfl, rfl⟩ := Prod.mk.inj HE.out
          exact ⟨rfl, below_then HB1.out HB1.out.size HM.out.below⟩
        | false =>
          have HE : Aside0 ((r1, r2) = (x.f0, (51 : Int))) := ⟨by rw [HE.out, qe, if_neg (by decide)]⟩
          clear qe
          have f0 := blk_cell (HM.out.rows.mem List.mem_cons_self) 0
          have f1 := blk_cell (HM.out.rows.mem List.mem_cons_self) 1
          have f2 := blk_cell (HM.out.rows.mem List.mem_cons_self) 2
          have f3 := blk_cell (HM.out.rows.mem List.mem_cons_self) 3
          go_wp2
          go_ret2
          obtain ⟨rfl, rfl⟩ := Prod.mk.inj HE.out
          exact ⟨rfl, below_then HB1.out HB1.out.size HM.out.below⟩

def provisoref05_Check.l0 : Nat → List (S46) → List (S46) → Int → Int → Option (Int × Int)
  | 0, _, _, _, _ => none
  | k + 1, x4, x20, x21, x22 => if x22 < x21 then (if 0 ≤ x22 then (if x22 < (x20.length : Int) then ((provisoref04_Jumps.f ((rd_T46 x20 x22).f1)).bind fun t286 => (if t286 = true then ((provisoref05_Place.f k x4 ((rd_T46 x20 x22).f2)).bind fun t287 => (if t287 < 0 then (some ((rd_T46 x20 x22).f0, 50)) else (provisoref05_Check.l0 k x4 x20 x21 (wrap64 (x22 + 1))))) else (provisoref05_Check.l0 k x4 x20 x21 (wrap64 (x22 + 1))))) else (none)) else (none)) else (if (x4.length : Int) = 0 then (some (0, 51)) else (if 0 ≤ (wrap64 ((x4.length : Int) - 1)) then (if (wrap64 ((x4.length : Int) - 1)) < (x4.length : Int) then ((provisoref04_Ends.f ((rd_T46 x4 (wrap64 ((x4.length : Int) - 1))).f1)).bind fun t290 => (if t290 = true then (some (0, 0)) else (some ((rd_T46 x4 (wrap64 ((x4.length : Int) - 1))).f0, 51)))) else (none)) else (none)))
def provisoref05_Check.f (k : Nat) (l0 : List Int) : Option (Int × Int) := (provisoref05_Scan.f k l0).bind fun bt279 => (if bt279.2.2 = 0 then (provisoref05_Check.l0 k bt279.1 bt279.1 (bt279.1.length : Int) 0) else (some (bt279.2.1, bt279.2.2)))
set_option maxHeartbeats 8000000 in
set_option maxRecDepth 100000 in
theorem provisoref05_Check.calls (k : Nat) (A0 : Option Addr) (c0 : Nat) (l0 : List Int) (r1 : Int) (r2 : Int) (w : World) (hr0 : Kd.C (Kd.int .u8) w A0 l0.length l0) (hc0 : l0.length ≤ c0) (h : provisoref05_Check.f k l0 = some (r1, r2)) :
    Calls Try.prog 29 #[.slice A0 l0.length c0] w fun e w' => e = .returned (.tuple #[.int .i64 r1, .int .i64 r2]) ∧ Below w.heap.size w w' := by
  have hu46 := Try.underlying46
  have HR0 := Aside0.mk hr0
  have HC0 := Aside0.mk hc0
  clear hr0 hc0
  have HB := Aside0.mk (Below.refl w.heap.size w)
  have H : ((provisoref05_Scan.f k l0).bind fun bt279 => (if bt279.2.2 = 0 then (provisoref05_Check.l0 k bt279.1 bt279.1 (bt279.1.length : Int) 0) else (some (bt279.2.1, bt279.2.2)))) = some (r1, r2) := h
  clear h
  replace H := Option.bind_eq_some_iff.mp H
  obtain ⟨⟨t279, t280, t281⟩, A20, H⟩ := H
  replace H : (if t281 = 0 then (provisoref05_Check.l0 k t279 t279 (t279.length : Int) 0) else (some (t280, t281))) = some (r1, r2) := H
  have A2 := Aside0.mk A20
  clear A20
  by_cases c3 : t281 = 0
  · rw [if_pos c3] at H
    have c3b0 : (t281 == 0) = true := beq_iff_eq.mpr c3
    have c3b1 : (t281 != 0) = false := bne_eq_false_iff_eq.mpr c3
    clear c3
    have H' := Aside0.mk H
    clear H
    go_enter Try.func29, Try.ntmps29
    go_wp2_with (first | ((with_reducible refine gate_callee (f := 13) rfl ?_); refine goesL_ (some 12) rfl rfl Try.func13 (by kernel_rfl) rfl #[.slice A0 l0.length c0] rfl (by (try simp only [List.map_toArray, List.map_cons, List.map_nil]); first | done | rfl | (simp only [List.length_drop, List.length_take]; rfl)) ?_; (with_reducible refine (provisoref05_Scan.calls k _ _ l0 t279 t280 t281 _ ?side1 ?side2 A2.out).mono ?_); (case side1 => repeat (first | exact HR0.out | (with_reducible refine Kd.C_alloc ?_ _) | (with_reducible refine Kd.C_drewN ?_ _) | (with_reducible refine Kd.C_drew ?_))); (case side2 => exact HC0.out); rintro e w4 ⟨v282, rfl, ho0, hb⟩; refine ⟨_, rfl, ?_⟩; have n0_ := Aside0.mk (Kd.R_lower ho0 (below_size (by repeat (first | (with_reducible first | exact HB.out | apply below_alloc | apply pw_below_drewN | apply below_drew1) | exact HB.out)))); have n1_ := Aside0.mk (below_step (by repeat (first | (with_reducible first | exact HB.out | apply below_alloc | apply pw_below_drewN | apply below_drew1) | exact HB.out)) hb); clear HB; have HO283 := n0_; have HB := n1_; clear n0_ n1_; (try clear hb); (try clear hb2); (try clear hk); (try clear hi); (try clear ho0); obtain ⟨Ao5, co5, eo5⟩ := Kd.R_slice HO283.out; subst eo5))
    go_loopg [22] k (fun kq v22 w' => ∃ (x22_1 : Int), v22 = .int .i64 x22_1 ∧ Aside0 (provisoref05_Check.l0 kq t279 t279 (t279.length : Int) x22_1 = some (r1, r2)) ∧ Aside0 (kq ≤ k) ∧ Aside0 (Kd.R k46 46 w' w.heap.size (fun _ => True) (.slice Ao5 t279.length co5) t279) ∧ Aside0 (Kd.R k46 46 w' w.heap.size (fun _ => True) (.slice Ao5 t279.length co5) t279) ∧ Aside0 (Below w.heap.size w w'))
    case atStart => exact ⟨(0), (by first | rfl | (simp; done) | (simp [*]; done)), H', ⟨Nat.le_refl _⟩, ⟨by (with_reducible repeat (first | apply Kd.R_alloc | apply Kd.R_drewN | apply Kd.R_drew)); exact HO283.out⟩, ⟨by (with_reducible repeat (first | apply Kd.R_alloc | apply Kd.R_drewN | apply Kd.R_drew)); exact HO283.out⟩, ⟨by repeat (first | (with_reducible first | exact HB.out | apply below_alloc | apply pw_below_drewN | apply below_drew1) | exact HB.out)⟩⟩
    case round =>
      clear H'
      try clear c1
      try clear c2
      try clear p2
      try clear c3
      try clear c3b0
      try clear c3b1
      obtain ⟨x22_1, rfl, HA, HK1, HO_4, HO_20, HB⟩ := hrel
      cases gk with
      | zero => exact absurd HA.out (by simp [provisoref05_Check.l0])
      | succ k1 =>
        have H := HA.out
        clear HA
        simp only [provisoref05_Check.l0] at H
        by_cases c6 : x22_1 < (t279.length : Int)
        · rw [if_pos c6] at H
          have c6b0 : decide (x22_1 < (t279.length : Int)) = true := decide_eq_true c6
          clear c6
          by_cases c7 : 0 ≤ x22_1
          · rw [if_pos c7] at H
            have c7b0 : decide (0 ≤ x22_1) = true := decide_eq_true c7
            clear c7
            by_cases c8 : x22_1 < (t279.length : Int)
            · rw [if_pos c8] at H
              have c8b0 : decide (x22_1 < (t279.length : Int)) = true := decide_eq_true c8
              clear c8
              replace H := Option.bind_eq_some_iff.mp H
              obtain ⟨t286, A90, H⟩ := H
              replace H : (if t286 = true then ((provisoref05_Place.f k1 t279 ((rd_T46 t279 x22_1).f2)).bind fun t287 => (if t287 < 0 then (some ((rd_T46 t279 x22_1).f0, 50)) else (provisoref05_Check.l0 k1 t279 t279 (t279.length : Int) (wrap64 (x22_1 + 1))))) else (provisoref05_Check.l0 k1 t279 t279 (t279.length : Int) (wrap64 (x22_1 + 1)))) = some (r1, r2) := H
              have A9 := Aside0.mk A90
              clear A90
              by_cases c10 : t286 = true
              · subst c10
                have H1 : ((provisoref05_Place.f k1 t279 ((rd_T46 t279 x22_1).f2)).bind fun t287 => (if t287 < 0 then (some ((rd_T46 t279 x22_1).f0, 50)) else (provisoref05_Check.l0 k1 t279 t279 (t279.length : Int) (wrap64 (x22_1 + 1))))) = some (r1, r2) := by rw [if_pos rfl] at H; exact H
                clear H
                have H := H1
                clear H1
                replace H := Option.bind_eq_some_iff.mp H
                obtain ⟨t287, A110, H⟩ := H
                replace H : (if t287 < 0 then (some ((rd_T46 t279 x22_1).f0, 50)) else (provisoref05_Check.l0 k1 t279 t279 (t279.length : Int) (wrap64 (x22_1 + 1)))) = some (r1, r2) := H
                have A11 := Aside0.mk A110
                clear A110
                by_cases c12 : t287 < 0
                · rw [if_pos c12] at H
                  have c12b0 : decide (t287 < 0) = true := decide_eq_true c12
                  clear c12
                  simp only [Option.some.injEq, Prod.mk.injEq] at H
                  obtain ⟨rfl, rfl⟩ := H
                  have p284 : 0 ≤ (x22_1 : Int) := of_decide_eq_true (by first | (with_reducible assumption) | assumption)
                  have q284 : x22_1 < (t279.length : Int) := of_decide_eq_true (by first | (with_reducible assumption) | assumption)
                  obtain ⟨ad284, e284, hx284_0, hx284_1, hx284_2, hx284_3⟩ := at_T46 (Kd.R_reads' HO_20.out).2.2 x22_1 p284 q284
                  cases e284
                  replace p284 := eq_true p284
                  replace q284 := eq_true q284
                  go_wp2_with (first | ((with_reducible refine gate_dst (N := 8) rfl ?_); refine box_event ?hg (N := 8) ?hd (cs := #[.int .i64 0, .int .u8 0, .int .i64 0, .int .i64 0]) (t := 46) ?hr ?_; (case hd => rfl); (case hg => rfl); (case hr => first | (go_simp; done) | (go_simp; rfl)); intro gb285 hg w13 hbox hb; have n0_ := Aside0.mk (Kd.R_below (Kd.R_elderB (by (with_reducible repeat (first | apply Kd.R_alloc | apply Kd.R_drewN | apply Kd.R_drew)); exact HO_4.out) gb285 (Nat.le_of_eq hg.symm)) hb); have n1_ := Aside0.mk (Kd.R_below (Kd.R_elderB (by (with_reducible repeat (first | apply Kd.R_alloc | apply Kd.R_drewN | apply Kd.R_drew)); exact HO_20.out) gb285 (Nat.le_of_eq hg.symm)) hb); have n2_ := Aside0.mk (below_step (by repeat (first | (with_reducible first | exact HB.out | apply below_alloc | apply pw_below_drewN | apply below_drew1) | exact HB.out)) hb); have n3_ := Aside0.mk (hbox); have n4_ := Aside0.mk ((by rw [hg]; exact (below_size (by repeat (first | (with_reducible first | exact HB.out | apply below_alloc | apply pw_below_drewN | apply below_drew1) | exact HB.out))) : w.heap.size ≤ gb285)); have n5_ := Aside0.mk ((by rw [hg]; exact (below_size (by repeat (first | (with_reducible first | exact HB.out | apply below_alloc | apply pw_below_drewN | apply below_drew1) | exact HB.out))) : w.heap.size ≤ gb285)); clear HO_4; clear HO_20; clear HB; have HO_4 := n0_; have HO_20 := n1_; have HB := n2_; have BK285 := n3_; have GW285 := n4_; have GE285 := n5_; clear n0_ n1_ n2_ n3_ n4_ n5_; clear hb hbox hg; have hcz14_0 : w13.cell? ⟨gb285, 0, none⟩ = some (.int .i64 0) := (blk_cell BK285.out 0).trans rfl; have hcz14_1 : w13.cell? ⟨gb285, 1, none⟩ = some (.int .u8 0) := (blk_cell BK285.out 1).trans rfl; have hcz14_2 : w13.cell? ⟨gb285, 2, none⟩ = some (.int .i64 0) := (blk_cell BK285.out 2).trans rfl; have hcz14_3 : w13.cell? ⟨gb285, 3, none⟩ = some (.int .i64 0) := (blk_cell BK285.out 3).trans rfl; have hfz14_0 := blk_frozen BK285.out 0; have hfz14_1 := blk_frozen BK285.out 1; have hfz14_2 := blk_frozen BK285.out 2; have hfz14_3 := blk_frozen BK285.out 3) | ((with_reducible refine gate_callee (f := 47) rfl ?_); refine goesL_ (some 28) rfl rfl Try.func47 (by kernel_rfl) rfl #[.int .u8 ((rd_T46 t279 x22_1).f1)] rfl (by (try simp only [List.map_toArray, List.map_cons, List.map_nil]); first | done | rfl | (simp only [List.length_drop, List.length_take]; rfl)) ?_; (with_reducible refine (provisoref04_Jumps.calls ((rd_T46 t279 x22_1).f1) true _ A9.out).mono ?_); rintro e w' ⟨rfl, ⟨nd, rfl⟩⟩; refine ⟨_, rfl, ?_⟩) | (go_at_call 49; (with_reducible refine (provisoref05_Place.calls k1 _ _ t279 ((rd_T46 t279 x22_1).f2) t287 _ ?side1 ?side2 A11.out).mono ?_); (case side1 => refine (Kd.R_reads' (e := 46) (base := w.heap.size) (ok := fun k_ => (True ∧ k_ ≠ gb285)) (n := t279.length) (c := co5) ?_).2.2; exact (by (with_reducible repeat (first | apply Kd.R_alloc | apply Kd.R_drewN | apply Kd.R_drew)); exact (Kd.R_mono (Kd.R_far (p := ⟨gb285, 3, none⟩) (Kd.R_far (p := ⟨gb285, 2, none⟩) (Kd.R_far (p := ⟨gb285, 1, none⟩) (Kd.R_far (p := ⟨gb285, 0, none⟩) (Kd.R_mono HO_4.out (fun k_ hk => (⟨hk, hk.2⟩ : _ ∧ k_ ≠ gb285))) (fun _ hk => hk.2) (.int .i64 ((rd_T46 t279 x22_1).f0))) (fun _ hk => hk.2) (.int .u8 ((rd_T46 t279 x22_1).f1))) (fun _ hk => hk.2) (.int .i64 ((rd_T46 t279 x22_1).f2))) (fun _ hk => hk.2) (.int .i64 ((rd_T46 t279 x22_1).f3))) (fun _ h_ => h_.1)))); (case side2 => exact (Kd.R_reads' HO_4.out).2.1); rintro e w15 ⟨rfl, hb⟩; have n0_ := Aside0.mk (Kd.R_below (by (with_reducible repeat (first | apply Kd.R_alloc | apply Kd.R_drewN | apply Kd.R_drew)); exact (Kd.R_mono (Kd.R_far (p := ⟨gb285, 3, none⟩) (Kd.R_far (p := ⟨gb285, 2, none⟩) (Kd.R_far (p := ⟨gb285, 1, none⟩) (Kd.R_far (p := ⟨gb285, 0, none⟩) (Kd.R_mono HO_4.out (fun k_ hk => (⟨hk, hk.2⟩ : _ ∧ k_ ≠ gb285))) (fun _ hk => hk.2) (.int .i64 ((rd_T46 t279 x22_1).f0))) (fun _ hk => hk.2) (.int .u8 ((rd_T46 t279 x22_1).f1))) (fun _ hk => hk.2) (.int .i64 ((rd_T46 t279 x22_1).f2))) (fun _ hk => hk.2) (.int .i64 ((rd_T46 t279 x22_1).f3))) (fun _ h_ => h_.1))) hb); have n1_ := Aside0.mk (Kd.R_below (by (with_reducible repeat (first | apply Kd.R_alloc | apply Kd.R_drewN | apply Kd.R_drew)); exact (Kd.R_mono (Kd.R_far (p := ⟨gb285, 3, none⟩) (Kd.R_far (p := ⟨gb285, 2, none⟩) (Kd.R_far (p := ⟨gb285, 1, none⟩) (Kd.R_far (p := ⟨gb285, 0, none⟩) (Kd.R_mono HO_20.out (fun k_ hk => (⟨hk, hk.2⟩ : _ ∧ k_ ≠ gb285))) (fun _ hk => hk.2) (.int .i64 ((rd_T46 t279 x22_1).f0))) (fun _ hk => hk.2) (.int .u8 ((rd_T46 t279 x22_1).f1))) (fun _ hk => hk.2) (.int .i64 ((rd_T46 t279 x22_1).f2))) (fun _ hk => hk.2) (.int .i64 ((rd_T46 t279 x22_1).f3))) (fun _ h_ => h_.1))) hb); have n2_ := Aside0.mk (blk_below (g := gb285) (o := .cells #[.int .i64 ((rd_T46 t279 x22_1).f0), .int .u8 ((rd_T46 t279 x22_1).f1), .int .i64 ((rd_T46 t279 x22_1).f2), .int .i64 ((rd_T46 t279 x22_1).f3)] 46 (0, 0)) (by (with_reducible repeat (first | refine blk_drewN ?_ _ | refine blk_drew ?_ | refine blk_alloc ?_ _)); refine blk_put (cs := #[.int .i64 ((rd_T46 t279 x22_1).f0), .int .u8 ((rd_T46 t279 x22_1).f1), .int .i64 ((rd_T46 t279 x22_1).f2), .int .i64 0]) ?_ 3 _ rfl; (with_reducible repeat (first | refine blk_drewN ?_ _ | refine blk_drew ?_ | refine blk_alloc ?_ _)); refine blk_put (cs := #[.int .i64 ((rd_T46 t279 x22_1).f0), .int .u8 ((rd_T46 t279 x22_1).f1), .int .i64 0, .int .i64 0]) ?_ 2 _ rfl; (with_reducible repeat (first | refine blk_drewN ?_ _ | refine blk_drew ?_ | refine blk_alloc ?_ _)); refine blk_put (cs := #[.int .i64 ((rd_T46 t279 x22_1).f0), .int .u8 0, .int .i64 0, .int .i64 0]) ?_ 1 _ rfl; (with_reducible repeat (first | refine blk_drewN ?_ _ | refine blk_drew ?_ | refine blk_alloc ?_ _)); refine blk_put (cs := #[.int .i64 0, .int .u8 0, .int .i64 0, .int .i64 0]) ?_ 0 _ rfl; (with_reducible repeat (first | refine blk_drewN ?_ _ | refine blk_drew ?_ | refine blk_alloc ?_ _)); exact BK285.out) hb); have n3_ := Aside0.mk (below_step (by repeat (first | (with_reducible first | exact HB.out | apply below_alloc | apply pw_below_drewN | apply below_drew1 | refine below_set ?_ GE285.out) | exact HB.out)) hb); clear HO_4; clear HO_20; clear BK285; clear HB; have HO_4 := n0_; have HO_20 := n1_; have BK285 := n2_; have HB := n3_; clear n0_ n1_ n2_ n3_; (try clear hb); (try clear hb2); (try clear hk); (try clear hi); have hcz16_0 : w15.cell? ⟨gb285, 0, none⟩ = some (.int .i64 ((rd_T46 t279 x22_1).f0)) := (blk_cell BK285.out 0).trans rfl; have hcz16_1 : w15.cell? ⟨gb285, 1, none⟩ = some (.int .u8 ((rd_T46 t279 x22_1).f1)) := (blk_cell BK285.out 1).trans rfl; have hcz16_2 : w15.cell? ⟨gb285, 2, none⟩ = some (.int .i64 ((rd_T46 t279 x22_1).f2)) := (blk_cell BK285.out 2).trans rfl; have hcz16_3 : w15.cell? ⟨gb285, 3, none⟩ = some (.int .i64 ((rd_T46 t279 x22_1).f3)) := (blk_cell BK285.out 3).trans rfl; have hfz16_0 := blk_frozen BK285.out 0; have hfz16_1 := blk_frozen BK285.out 1; have hfz16_2 := blk_frozen BK285.out 2; have hfz16_3 := blk_frozen BK285.out 3))
                  go_ret2
                  exact ⟨by first | rfl | (simp [errW_none, errW_some] <;> rfl) | (simp [*, errW_none, errW_some] <;> rfl), by repeat (first | (with_reducible first | exact HB.out | apply below_alloc | apply pw_below_drewN | apply below_drew1 | refine below_set ?_ GE285.out) | exact HB.out)⟩
                · rw [if_neg c12] at H
                  have c12b0 : decide (t287 < 0) = false := decide_eq_false c12
                  clear c12
                  have H' := Aside0.mk H
                  clear H
                  have p284 : 0 ≤ (x22_1 : Int) := of_decide_eq_true (by first | (with_reducible assumption) | assumption)
                  have q284 : x22_1 < (t279.length : Int) := of_decide_eq_true (by first | (with_reducible assumption) | assumption)
                  obtain ⟨ad284, e284, hx284_0, hx284_1, hx284_2, hx284_3⟩ := at_T46 (Kd.R_reads' HO_20.out).2.2 x22_1 p284 q284
                  cases e284
                  replace p284 := eq_true p284
                  replace q284 := eq_true q284
                  go_wp2_with (first | ((with_reducible refine gate_dst (N := 8) rfl ?_); refine box_event ?hg (N := 8) ?hd (cs := #[.int .i64 0, .int .u8 0, .int .i64 0, .int .i64 0]) (t := 46) ?hr ?_; (case hd => rfl); (case hg => rfl); (case hr => first | (go_simp; done) | (go_simp; rfl)); intro gb285 hg w17 hbox hb; have n0_ := Aside0.mk (Kd.R_below (Kd.R_elderB (by (with_reducible repeat (first | apply Kd.R_alloc | apply Kd.R_drewN | apply Kd.R_drew)); exact HO_4.out) gb285 (Nat.le_of_eq hg.symm)) hb); have n1_ := Aside0.mk (Kd.R_below (Kd.R_elderB (by (with_reducible repeat (first | apply Kd.R_alloc | apply Kd.R_drewN | apply Kd.R_drew)); exact HO_20.out) gb285 (Nat.le_of_eq hg.symm)) hb); have n2_ := Aside0.mk (below_step (by repeat (first | (with_reducible first | exact HB.out | apply below_alloc | apply pw_below_drewN | apply below_drew1) | exact HB.out)) hb); have n3_ := Aside0.mk (hbox); have n4_ := Aside0.mk ((by rw [hg]; exact (below_size (by repeat (first | (with_reducible first | exact HB.out | apply below_alloc | apply pw_below_drewN | apply below_drew1) | exact HB.out))) : w.heap.size ≤ gb285)); have n5_ := Aside0.mk ((by rw [hg]; exact (below_size (by repeat (first | (with_reducible first | exact HB.out | apply below_alloc | apply pw_below_drewN | apply below_drew1) | exact HB.out))) : w.heap.size ≤ gb285)); clear HO_4; clear HO_20; clear HB; have HO_4 := n0_; have HO_20 := n1_; have HB := n2_; have BK285 := n3_; have GW285 := n4_; have GE285 := n5_; clear n0_ n1_ n2_ n3_ n4_ n5_; clear hb hbox hg; have hcz18_0 : w17.cell? ⟨gb285, 0, none⟩ = some (.int .i64 0) := (blk_cell BK285.out 0).trans rfl; have hcz18_1 : w17.cell? ⟨gb285, 1, none⟩ = some (.int .u8 0) := (blk_cell BK285.out 1).trans rfl; have hcz18_2 : w17.cell? ⟨gb285, 2, none⟩ = some (.int .i64 0) := (blk_cell BK285.out 2).trans rfl; have hcz18_3 : w17.cell? ⟨gb285, 3, none⟩ = some (.int .i64 0) := (blk_cell BK285.out 3).trans rfl; have hfz18_0 := blk_frozen BK285.out 0; have hfz18_1 := blk_frozen BK285.out 1; have hfz18_2 := blk_frozen BK285.out 2; have hfz18_3 := blk_frozen BK285.out 3) | ((with_reducible refine gate_callee (f := 47) rfl ?_); refine goesL_ (some 28) rfl rfl Try.func47 (by kernel_rfl) rfl #[.int .u8 ((rd_T46 t279 x22_1).f1)] rfl (by (try simp only [List.map_toArray, List.map_cons, List.map_nil]); first | done | rfl | (simp only [List.length_drop, List.length_take]; rfl)) ?_; (with_reducible refine (provisoref04_Jumps.calls ((rd_T46 t279 x22_1).f1) true _ A9.out).mono ?_); rintro e w' ⟨rfl, ⟨nd, rfl⟩⟩; refine ⟨_, rfl, ?_⟩) | (go_at_call 49; (with_reducible refine (provisoref05_Place.calls k1 _ _ t279 ((rd_T46 t279 x22_1).f2) t287 _ ?side1 ?side2 A11.out).mono ?_); (case side1 => refine (Kd.R_reads' (e := 46) (base := w.heap.size) (ok := fun k_ => (True ∧ k_ ≠ gb285)) (n := t279.length) (c := co5) ?_).2.2; exact (by (with_reducible repeat (first | apply Kd.R_alloc | apply Kd.R_drewN | apply Kd.R_drew)); exact (Kd.R_mono (Kd.R_far (p := ⟨gb285, 3, none⟩) (Kd.R_far (p := ⟨gb285, 2, none⟩) (Kd.R_far (p := ⟨gb285, 1, none⟩) (Kd.R_far (p := ⟨gb285, 0, none⟩) (Kd.R_mono HO_4.out (fun k_ hk => (⟨hk, hk.2⟩ : _ ∧ k_ ≠ gb285))) (fun _ hk => hk.2) (.int .i64 ((rd_T46 t279 x22_1).f0))) (fun _ hk => hk.2) (.int .u8 ((rd_T46 t279 x22_1).f1))) (fun _ hk => hk.2) (.int .i64 ((rd_T46 t279 x22_1).f2))) (fun _ hk => hk.2) (.int .i64 ((rd_T46 t279 x22_1).f3))) (fun _ h_ => h_.1)))); (case side2 => exact (Kd.R_reads' HO_4.out).2.1); rintro e w19 ⟨rfl, hb⟩; have n0_ := Aside0.mk (Kd.R_below (by (with_reducible repeat (first | apply Kd.R_alloc | apply Kd.R_drewN | apply Kd.R_drew)); exact (Kd.R_mono (Kd.R_far (p := ⟨gb285, 3, none⟩) (Kd.R_far (p := ⟨gb285, 2, none⟩) (Kd.R_far (p := ⟨gb285, 1, none⟩) (Kd.R_far (p := ⟨gb285, 0, none⟩) (Kd.R_mono HO_4.out (fun k_ hk => (⟨hk, hk.2⟩ : _ ∧ k_ ≠ gb285))) (fun _ hk => hk.2) (.int .i64 ((rd_T46 t279 x22_1).f0))) (fun _ hk => hk.2) (.int .u8 ((rd_T46 t279 x22_1).f1))) (fun _ hk => hk.2) (.int .i64 ((rd_T46 t279 x22_1).f2))) (fun _ hk => hk.2) (.int .i64 ((rd_T46 t279 x22_1).f3))) (fun _ h_ => h_.1))) hb); have n1_ := Aside0.mk (Kd.R_below (by (with_reducible repeat (first | apply Kd.R_alloc | apply Kd.R_drewN | apply Kd.R_drew)); exact (Kd.R_mono (Kd.R_far (p := ⟨gb285, 3, none⟩) (Kd.R_far (p := ⟨gb285, 2, none⟩) (Kd.R_far (p := ⟨gb285, 1, none⟩) (Kd.R_far (p := ⟨gb285, 0, none⟩) (Kd.R_mono HO_20.out (fun k_ hk => (⟨hk, hk.2⟩ : _ ∧ k_ ≠ gb285))) (fun _ hk => hk.2) (.int .i64 ((rd_T46 t279 x22_1).f0))) (fun _ hk => hk.2) (.int .u8 ((rd_T46 t279 x22_1).f1))) (fun _ hk => hk.2) (.int .i64 ((rd_T46 t279 x22_1).f2))) (fun _ hk => hk.2) (.int .i64 ((rd_T46 t279 x22_1).f3))) (fun _ h_ => h_.1))) hb); have n2_ := Aside0.mk (blk_below (g := gb285) (o := .cells #[.int .i64 ((rd_T46 t279 x22_1).f0), .int .u8 ((rd_T46 t279 x22_1).f1), .int .i64 ((rd_T46 t279 x22_1).f2), .int .i64 ((rd_T46 t279 x22_1).f3)] 46 (0, 0)) (by (with_reducible repeat (first | refine blk_drewN ?_ _ | refine blk_drew ?_ | refine blk_alloc ?_ _)); refine blk_put (cs := #[.int .i64 ((rd_T46 t279 x22_1).f0), .int .u8 ((rd_T46 t279 x22_1).f1), .int .i64 ((rd_T46 t279 x22_1).f2), .int .i64 0]) ?_ 3 _ rfl; (with_reducible repeat (first | refine blk_drewN ?_ _ | refine blk_drew ?_ | refine blk_alloc ?_ _)); refine blk_put (cs := #[.int .i64 ((rd_T46 t279 x22_1).f0), .int .u8 ((rd_T46 t279 x22_1).f1), .int .i64 0, .int .i64 0]) ?_ 2 _ rfl; (with_reducible repeat (first | refine blk_drewN ?_ _ | refine blk_drew ?_ | refine blk_alloc ?_ _)); refine blk_put (cs := #[.int .i64 ((rd_T46 t279 x22_1).f0), .int .u8 0, .int .i64 0, .int .i64 0]) ?_ 1 _ rfl; (with_reducible repeat (first | refine blk_drewN ?_ _ | refine blk_drew ?_ | refine blk_alloc ?_ _)); refine blk_put (cs := #[.int .i64 0, .int .u8 0, .int .i64 0, .int .i64 0]) ?_ 0 _ rfl; (with_reducible repeat (first | refine blk_drewN ?_ _ | refine blk_drew ?_ | refine blk_alloc ?_ _)); exact BK285.out) hb); have n3_ := Aside0.mk (below_step (by repeat (first | (with_reducible first | exact HB.out | apply below_alloc | apply pw_below_drewN | apply below_drew1 | refine below_set ?_ GE285.out) | exact HB.out)) hb); clear HO_4; clear HO_20; clear BK285; clear HB; have HO_4 := n0_; have HO_20 := n1_; have BK285 := n2_; have HB := n3_; clear n0_ n1_ n2_ n3_; (try clear hb); (try clear hb2); (try clear hk); (try clear hi)))
                  go_roundg k1
                  case measure => have := HK1.out; omega
                  case rel => exact ⟨(wrap64 (x22_1 + 1)), (by first | rfl | (simp; done) | (simp [*]; done)), H', ⟨by have := HK1.out; omega⟩, ⟨by (with_reducible repeat (first | apply Kd.R_alloc | apply Kd.R_drewN | apply Kd.R_drew)); exact Kd.R_mono HO_4.out (fun _ hk => trivial)⟩, ⟨by (with_reducible repeat (first | apply Kd.R_alloc | apply Kd.R_drewN | apply Kd.R_drew)); exact Kd.R_mono HO_20.out (fun _ hk => trivial)⟩, ⟨by repeat (first | (with_reducible first | exact HB.out | apply below_alloc | apply pw_below_drewN | apply below_drew1 | refine below_set ?_ GE285.out) | exact HB.out)⟩⟩
              · replace c10 := Bool.eq_false_iff.mpr c10
                subst c10
                have H1 : (provisoref05_Check.l0 k1 t279 t279 (t279.length : Int) (wrap64 (x22_1 + 1))) = some (r1, r2) := by rw [if_neg (show ¬ (false = true) by decide)] at H; exact H
                clear H
                have H := H1
                clear H1
                have H' := Aside0.mk H
                clear H
                have p284 : 0 ≤ (x22_1 : Int) := of_decide_eq_true (by first | (with_reducible assumption) | assumption)
                have q284 : x22_1 < (t279.length : Int) := of_decide_eq_true (by first | (with_reducible assumption) | assumption)
                obtain ⟨ad284, e284, hx284_0, hx284_1, hx284_2, hx284_3⟩ := at_T46 (Kd.R_reads' HO_20.out).2.2 x22_1 p284 q284
                cases e284
                replace p284 := eq_true p284
                replace q284 := eq_true q284
                go_wp2_with (first | ((with_reducible refine gate_dst (N := 8) rfl ?_); refine box_event ?hg (N := 8) ?hd (cs := #[.int .i64 0, .int .u8 0, .int .i64 0, .int .i64 0]) (t := 46) ?hr ?_; (case hd => rfl); (case hg => rfl); (case hr => first | (go_simp; done) | (go_simp; rfl)); intro gb285 hg w20 hbox hb; have n0_ := Aside0.mk (Kd.R_below (Kd.R_elderB (by (with_reducible repeat (first | apply Kd.R_alloc | apply Kd.R_drewN | apply Kd.R_drew)); exact HO_4.out) gb285 (Nat.le_of_eq hg.symm)) hb); have n1_ := Aside0.mk (Kd.R_below (Kd.R_elderB (by (with_reducible repeat (first | apply Kd.R_alloc | apply Kd.R_drewN | apply Kd.R_drew)); exact HO_20.out) gb285 (Nat.le_of_eq hg.symm)) hb); have n2_ := Aside0.mk (below_step (by repeat (first | (with_reducible first | exact HB.out | apply below_alloc | apply pw_below_drewN | apply below_drew1) | exact HB.out)) hb); have n3_ := Aside0.mk (hbox); have n4_ := Aside0.mk ((by rw [hg]; exact (below_size (by repeat (first | (with_reducible first | exact HB.out | apply below_alloc | apply pw_below_drewN | apply below_drew1) | exact HB.out))) : w.heap.size ≤ gb285)); have n5_ := Aside0.mk ((by rw [hg]; exact (below_size (by repeat (first | (with_reducible first | exact HB.out | apply below_alloc | apply pw_below_drewN | apply below_drew1) | exact HB.out))) : w.heap.size ≤ gb285)); clear HO_4; clear HO_20; clear HB; have HO_4 := n0_; have HO_20 := n1_; have HB := n2_; have BK285 := n3_; have GW285 := n4_; have GE285 := n5_; clear n0_ n1_ n2_ n3_ n4_ n5_; clear hb hbox hg; have hcz21_0 : w20.cell? ⟨gb285, 0, none⟩ = some (.int .i64 0) := (blk_cell BK285.out 0).trans rfl; have hcz21_1 : w20.cell? ⟨gb285, 1, none⟩ = some (.int .u8 0) := (blk_cell BK285.out 1).trans rfl; have hcz21_2 : w20.cell? ⟨gb285, 2, none⟩ = some (.int .i64 0) := (blk_cell BK285.out 2).trans rfl; have hcz21_3 : w20.cell? ⟨gb285, 3, none⟩ = some (.int .i64 0) := (blk_cell BK285.out 3).trans rfl; have hfz21_0 := blk_frozen BK285.out 0; have hfz21_1 := blk_frozen BK285.out 1; have hfz21_2 := blk_frozen BK285.out 2; have hfz21_3 := blk_frozen BK285.out 3) | ((with_reducible refine gate_callee (f := 47) rfl ?_); refine goesL_ (some 28) rfl rfl Try.func47 (by kernel_rfl) rfl #[.int .u8 ((rd_T46 t279 x22_1).f1)] rfl (by (try simp only [List.map_toArray, List.map_cons, List.map_nil]); first | done | rfl | (simp only [List.length_drop, List.length_take]; rfl)) ?_; (with_reducible refine (provisoref04_Jumps.calls ((rd_T46 t279 x22_1).f1) false _ A9.out).mono ?_); rintro e w' ⟨rfl, ⟨nd, rfl⟩⟩; refine ⟨_, rfl, ?_⟩))
                go_roundg k1
                case measure => have := HK1.out; omega
                case rel => exact ⟨(wrap64 (x22_1 + 1)), (by first | rfl | (simp; done) | (simp [*]; done)), H', ⟨by have := HK1.out; omega⟩, ⟨by (with_reducible repeat (first | apply Kd.R_alloc | apply Kd.R_drewN | apply Kd.R_drew)); exact Kd.R_mono (Kd.R_far (p := ⟨gb285, 3, none⟩) (Kd.R_far (p := ⟨gb285, 2, none⟩) (Kd.R_far (p := ⟨gb285, 1, none⟩) (Kd.R_far (p := ⟨gb285, 0, none⟩) (Kd.R_mono HO_4.out (fun k_ hk => (⟨hk, hk.2⟩ : _ ∧ k_ ≠ gb285))) (fun _ hk => hk.2) (.int .i64 ((rd_T46 t279 x22_1).f0))) (fun _ hk => hk.2) (.int .u8 ((rd_T46 t279 x22_1).f1))) (fun _ hk => hk.2) (.int .i64 ((rd_T46 t279 x22_1).f2))) (fun _ hk => hk.2) (.int .i64 ((rd_T46 t279 x22_1).f3))) (fun _ hk => trivial)⟩, ⟨by (with_reducible repeat (first | apply Kd.R_alloc | apply Kd.R_drewN | apply Kd.R_drew)); exact Kd.R_mono (Kd.R_far (p := ⟨gb285, 3, none⟩) (Kd.R_far (p := ⟨gb285, 2, none⟩) (Kd.R_far (p := ⟨gb285, 1, none⟩) (Kd.R_far (p := ⟨gb285, 0, none⟩) (Kd.R_mono HO_20.out (fun k_ hk => (⟨hk, hk.2⟩ : _ ∧ k_ ≠ gb285))) (fun _ hk => hk.2) (.int .i64 ((rd_T46 t279 x22_1).f0))) (fun _ hk => hk.2) (.int .u8 ((rd_T46 t279 x22_1).f1))) (fun _ hk => hk.2) (.int .i64 ((rd_T46 t279 x22_1).f2))) (fun _ hk => hk.2) (.int .i64 ((rd_T46 t279 x22_1).f3))) (fun _ hk => trivial)⟩, ⟨by repeat (first | (with_reducible first | exact HB.out | apply below_alloc | apply pw_below_drewN | apply below_drew1 | refine below_set ?_ GE285.out) | exact HB.out)⟩⟩
            · rw [if_neg c8] at H
              exact absurd H (by simp)
          · rw [if_neg c7] at H
            exact absurd H (by simp)
        · rw [if_neg c6] at H
          have c6b0 : decide (x22_1 < (t279.length : Int)) = false := decide_eq_false c6
          clear c6
          by_cases c22 : (t279.length : Int) = 0
          · rw [if_pos c22] at H
            have c22b0 : ((t279.length : Int) == 0) = true := beq_iff_eq.mpr c22
            have c22b1 : ((t279.length : Int) != 0) = false := bne_eq_false_iff_eq.mpr c22
            clear c22
            simp only [Option.some.injEq, Prod.mk.injEq] at H
            obtain ⟨rfl, rfl⟩ := H
            go_wp2
            go_ret2
            exact ⟨by first | rfl | (simp [errW_none, errW_some] <;> rfl) | (simp [*, errW_none, errW_some] <;> rfl), by repeat (first | (with_reducible first | exact HB.out | apply below_alloc | apply pw_below_drewN | apply below_drew1) | exact HB.out)⟩
          · rw [if_neg c22] at H
            have c22b0 : ((t279.length : Int) == 0) = false := beq_eq_false_iff_ne.mpr c22
            have c22b1 : ((t279.length : Int) != 0) = true := bne_iff_ne.mpr c22
            have c22b2 : ¬ (t279 = []) := fun h_ => c22 (by rw [h_]; rfl)
            obtain ⟨ji23, hji23⟩ : ∃ j_ : Int, (wrap64 ((t279.length : Int) - 1)) = j_ := ⟨_, rfl⟩
            replace H : (if 0 ≤ (ji23) then (if (ji23) < (t279.length : Int) then ((provisoref04_Ends.f ((rd_T46 t279 (ji23)).f1)).bind fun t290 => (if t290 = true then (some (0, 0)) else (some ((rd_T46 t279 (ji23)).f0, 51)))) else (none)) else (none)) = some (r1, r2) := by first | (rw [hji23] at H; exact H) | (simp only [hji23] at H ⊢; exact H)
            have hji23w : (IntKind.i64.wrap ((t279.length : Int) - 1)) = ji23 := (i64_w _).trans hji23
            by_cases c24 : 0 ≤ (ji23)
            · rw [if_pos c24] at H
              have c24b0 : decide (0 ≤ (ji23)) = true := decide_eq_true c24
              clear c24
              by_cases c25 : (ji23) < (t279.length : Int)
              · rw [if_pos c25] at H
                have c25b0 : decide ((ji23) < (t279.length : Int)) = true := decide_eq_true c25
                clear c25
                replace H := Option.bind_eq_some_iff.mp H
                obtain ⟨t290, A260, H⟩ := H
                replace H : (if t290 = true then (some (0, 0)) else (some ((rd_T46 t279 (ji23)).f0, 51))) = some (r1, r2) := H
                have A26 := Aside0.mk A260
                clear A260
                by_cases c27 : t290 = true
                · subst c27
                  have H1 : (some (0, 0)) = some (r1, r2) := by rw [if_pos rfl] at H; exact H
                  clear H
                  have H := H1
                  clear H1
                  simp only [Option.some.injEq, Prod.mk.injEq] at H
                  obtain ⟨rfl, rfl⟩ := H
                  have p288 : 0 ≤ ((ji23) : Int) := of_decide_eq_true (by first | (with_reducible assumption) | assumption)
                  have q288 : (ji23) < (t279.length : Int) := of_decide_eq_true (by first | (with_reducible assumption) | assumption)
                  obtain ⟨ad288, e288, hx288_0, hx288_1, hx288_2, hx288_3⟩ := at_T46 (Kd.R_reads' HO_4.out).2.2 (ji23) p288 q288
                  cases e288
                  replace p288 := eq_true p288
                  replace q288 := eq_true q288
                  go_wp2_with (first | ((with_reducible refine gate_dst (N := 9) rfl ?_); refine box_event ?hg (N := 9) ?hd (cs := #[.int .i64 0, .int .u8 0, .int .i64 0, .int .i64 0]) (t := 46) ?hr ?_; (case hd => rfl); (case hg => rfl); (case hr => first | (go_simp; done) | (go_simp; rfl)); intro gb289 hg w28 hbox hb; have n0_ := Aside0.mk (Kd.R_below (Kd.R_elderB (by (with_reducible repeat (first | apply Kd.R_alloc | apply Kd.R_drewN | apply Kd.R_drew)); exact HO_4.out) gb289 (Nat.le_of_eq hg.symm)) hb); have n1_ := Aside0.mk (Kd.R_below (Kd.R_elderB (by (with_reducible repeat (first | apply Kd.R_alloc | apply Kd.R_drewN | apply Kd.R_drew)); exact HO_20.out) gb289 (Nat.le_of_eq hg.symm)) hb); have n2_ := Aside0.mk (below_step (by repeat (first | (with_reducible first | exact HB.out | apply below_alloc | apply pw_below_drewN | apply below_drew1) | exact HB.out)) hb); have n3_ := Aside0.mk (hbox); have n4_ := Aside0.mk ((by rw [hg]; exact (below_size (by repeat (first | (with_reducible first | exact HB.out | apply below_alloc | apply pw_below_drewN | apply below_drew1) | exact HB.out))) : w.heap.size ≤ gb289)); have n5_ := Aside0.mk ((by rw [hg]; exact (below_size (by repeat (first | (with_reducible first | exact HB.out | apply below_alloc | apply pw_below_drewN | apply below_drew1) | exact HB.out))) : w.heap.size ≤ gb289)); clear HO_4; clear HO_20; clear HB; have HO_4 := n0_; have HO_20 := n1_; have HB := n2_; have BK289 := n3_; have GW289 := n4_; have GE289 := n5_; clear n0_ n1_ n2_ n3_ n4_ n5_; clear hb hbox hg; have hcz29_0 : w28.cell? ⟨gb289, 0, none⟩ = some (.int .i64 0) := (blk_cell BK289.out 0).trans rfl; have hcz29_1 : w28.cell? ⟨gb289, 1, none⟩ = some (.int .u8 0) := (blk_cell BK289.out 1).trans rfl; have hcz29_2 : w28.cell? ⟨gb289, 2, none⟩ = some (.int .i64 0) := (blk_cell BK289.out 2).trans rfl; have hcz29_3 : w28.cell? ⟨gb289, 3, none⟩ = some (.int .i64 0) := (blk_cell BK289.out 3).trans rfl; have hfz29_0 := blk_frozen BK289.out 0; have hfz29_1 := blk_frozen BK289.out 1; have hfz29_2 := blk_frozen BK289.out 2; have hfz29_3 := blk_frozen BK289.out 3) | ((with_reducible refine gate_callee (f := 48) rfl ?_); refine goesL_ (some 50) rfl rfl Try.func48 (by kernel_rfl) rfl #[.int .u8 ((rd_T46 t279 (ji23)).f1)] rfl (by (try simp only [List.map_toArray, List.map_cons, List.map_nil]); first | done | (simp only [hji23]; rfl) | rfl | (simp only [List.length_drop, List.length_take]; rfl)) ?_; (with_reducible refine (provisoref04_Ends.calls ((rd_T46 t279 (ji23)).f1) true _ A26.out).mono ?_); rintro e w' ⟨rfl, ⟨nd, rfl⟩⟩; refine ⟨_, rfl, ?_⟩))
                  go_ret2
                  exact ⟨by first | rfl | (simp [errW_none, errW_some] <;> rfl) | (simp only [← hji23]; first | rfl | (simp [errW_none, errW_some] <;> rfl)) | (simp [*, errW_none, errW_some] <;> rfl), by repeat (first | (with_reducible first | exact HB.out | apply below_alloc | apply pw_below_drewN | apply below_drew1 | refine below_set ?_ GE289.out) | exact HB.out)⟩
                · replace c27 := Bool.eq_false_iff.mpr c27
                  subst c27
                  have H1 : (some ((rd_T46 t279 (ji23)).f0, 51)) = some (r1, r2) := by rw [if_neg (show ¬ (false = true) by decide)] at H; exact H
                  clear H
                  have H := H1
                  clear H1
                  simp only [Option.some.injEq, Prod.mk.injEq] at H
                  obtain ⟨rfl, rfl⟩ := H
                  have p288 : 0 ≤ ((ji23) : Int) := of_decide_eq_true (by first | (with_reducible assumption) | assumption)
                  have q288 : (ji23) < (t279.length : Int) := of_decide_eq_true (by first | (with_reducible assumption) | assumption)
                  obtain ⟨ad288, e288, hx288_0, hx288_1, hx288_2, hx288_3⟩ := at_T46 (Kd.R_reads' HO_4.out).2.2 (ji23) p288 q288
                  cases e288
                  replace p288 := eq_true p288
                  replace q288 := eq_true q288
                  go_wp2_with (first | ((with_reducible refine gate_dst (N := 9) rfl ?_); refine box_event ?hg (N := 9) ?hd (cs := #[.int .i64 0, .int .u8 0, .int .i64 0, .int .i64 0]) (t := 46) ?hr ?_; (case hd => rfl); (case hg => rfl); (case hr => first | (go_simp; done) | (go_simp; rfl)); intro gb289 hg w30 hbox hb; have n0_ := Aside0.mk (Kd.R_below (Kd.R_elderB (by (with_reducible repeat (first | apply Kd.R_alloc | apply Kd.R_drewN | apply Kd.R_drew)); exact HO_4.out) gb289 (Nat.le_of_eq hg.symm)) hb); have n1_ := Aside0.mk (Kd.R_below (Kd.R_elderB (by (with_reducible repeat (first | apply Kd.R_alloc | apply Kd.R_drewN | apply Kd.R_drew)); exact HO_20.out) gb289 (Nat.le_of_eq hg.symm)) hb); have n2_ := Aside0.mk (below_step (by repeat (first | (with_reducible first | exact HB.out | apply below_alloc | apply pw_below_drewN | apply below_drew1) | exact HB.out)) hb); have n3_ := Aside0.mk (hbox); have n4_ := Aside0.mk ((by rw [hg]; exact (below_size (by repeat (first | (with_reducible first | exact HB.out | apply below_alloc | apply pw_below_drewN | apply below_drew1) | exact HB.out))) : w.heap.size ≤ gb289)); have n5_ := Aside0.mk ((by rw [hg]; exact (below_size (by repeat (first | (with_reducible first | exact HB.out | apply below_alloc | apply pw_below_drewN | apply below_drew1) | exact HB.out))) : w.heap.size ≤ gb289)); clear HO_4; clear HO_20; clear HB; have HO_4 := n0_; have HO_20 := n1_; have HB := n2_; have BK289 := n3_; have GW289 := n4_; have GE289 := n5_; clear n0_ n1_ n2_ n3_ n4_ n5_; clear hb hbox hg; have hcz31_0 : w30.cell? ⟨gb289, 0, none⟩ = some (.int .i64 0) := (blk_cell BK289.out 0).trans rfl; have hcz31_1 : w30.cell? ⟨gb289, 1, none⟩ = some (.int .u8 0) := (blk_cell BK289.out 1).trans rfl; have hcz31_2 : w30.cell? ⟨gb289, 2, none⟩ = some (.int .i64 0) := (blk_cell BK289.out 2).trans rfl; have hcz31_3 : w30.cell? ⟨gb289, 3, none⟩ = some (.int .i64 0) := (blk_cell BK289.out 3).trans rfl; have hfz31_0 := blk_frozen BK289.out 0; have hfz31_1 := blk_frozen BK289.out 1; have hfz31_2 := blk_frozen BK289.out 2; have hfz31_3 := blk_frozen BK289.out 3) | ((with_reducible refine gate_callee (f := 48) rfl ?_); refine goesL_ (some 50) rfl rfl Try.func48 (by kernel_rfl) rfl #[.int .u8 ((rd_T46 t279 (ji23)).f1)] rfl (by (try simp only [List.map_toArray, List.map_cons, List.map_nil]); first | done | (simp only [hji23]; rfl) | rfl | (simp only [List.length_drop, List.length_take]; rfl)) ?_; (with_reducible refine (provisoref04_Ends.calls ((rd_T46 t279 (ji23)).f1) false _ A26.out).mono ?_); rintro e w' ⟨rfl, ⟨nd, rfl⟩⟩; refine ⟨_, rfl, ?_⟩))
                  go_ret2
                  exact ⟨by first | rfl | (simp [errW_none, errW_some] <;> rfl) | (simp only [← hji23]; first | rfl | (simp [errW_none, errW_some] <;> rfl)) | (simp [*, errW_none, errW_some] <;> rfl), by repeat (first | (with_reducible first | exact HB.out | apply below_alloc | apply pw_below_drewN | apply below_drew1 | refine below_set ?_ GE289.out) | exact HB.out)⟩
              · rw [if_neg c25] at H
                exact absurd H (by simp)
            · rw [if_neg c24] at H
              exact absurd H (by simp)
  · rw [if_neg c3] at H
    have c3b0 : (t281 == 0) = false := beq_eq_false_iff_ne.mpr c3
    have c3b1 : (t281 != 0) = true := bne_iff_ne.mpr c3
    simp only [Option.some.injEq, Prod.mk.injEq] at H
    obtain ⟨rfl, rfl⟩ := H
    go_enter Try.func29, Try.ntmps29
    go_wp2_with (first | ((with_reducible refine gate_callee (f := 13) rfl ?_); refine goesL_ (some 12) rfl rfl Try.func13 (by kernel_rfl) rfl #[.slice A0 l0.length c0] rfl (by (try simp only [List.map_toArray, List.map_cons, List.map_nil]); first | done | rfl | (simp only [List.length_drop, List.length_take]; rfl)) ?_; (with_reducible refine (provisoref05_Scan.calls k _ _ l0 t279 t280 t281 _ ?side1 ?side2 A2.out).mono ?_); (case side1 => repeat (first | exact HR0.out | (with_reducible refine Kd.C_alloc ?_ _) | (with_reducible refine Kd.C_drewN ?_ _) | (with_reducible refine Kd.C_drew ?_))); (case side2 => exact HC0.out); rintro e w32 ⟨v282, rfl, ho0, hb⟩; refine ⟨_, rfl, ?_⟩; have n0_ := Aside0.mk (Kd.R_lower ho0 (below_size (by repeat (first | (with_reducible first | exact HB.out | apply below_alloc | apply pw_below_drewN | apply below_drew1) | exact HB.out)))); have n1_ := Aside0.mk (below_step (by repeat (first | (with_reducible first | exact HB.out | apply below_alloc | apply pw_below_drewN | apply below_drew1) | exact HB.out)) hb); clear HB; have HO283 := n0_; have HB := n1_; clear n0_ n1_; (try clear hb); (try clear hb2); (try clear hk); (try clear hi); (try clear ho0)))
    go_ret2
    exact ⟨by first | rfl | (simp [errW_none, errW_some] <;> rfl) | (simp [*, errW_none, errW_some] <;> rfl), by repeat (first | (with_reducible first | exact HB.out | apply below_alloc | apply pw_below_drewN | apply below_drew1) | exact HB.out)⟩

end Go.Proofs.Ytcffniaieegbgaa.P

end

section
namespace Go.Proofs.Ytcffniaieegbgaa.P
open Go.RowKit Go.Proofs.YtcffniaieegbgaaW.PrintWords Go.Proofs.YtcffniaieegbgaaW.PrintLast Go.Proofs.YtcffniaieegbgaaW.PrintMore
attribute [local go_sem] max2_int min2_int max_two min_two max_three min_three max_four min_four   -- for this text's walks alone
set_option linter.unusedVariables false
set_option linter.unusedSimpArgs false

def reachL : Nat → List S46 → List Int → List Int → Option (List Int)
  | 0, _, _, _ => none
  | k + 1, l, st, come => match st.getLast? with
    | none => if come.length < 4398046511104 then some (srt come) else none
    | some at_ => match firstAt l 0 at_ with
      | none => reachL k l st.dropLast come
      | some i => if at_ ∈ come then reachL k l st.dropLast come else if st.length + (nextL (rd_T46 l i)).length ≤ 17592186044416 ∧ come.length < 17592186044416 then reachL k l (st.dropLast ++ nextL (rd_T46 l i)) (come ++ [at_]) else none
theorem firstAt_lt : ∀ (l : List S46) (j : Nat) (x v : Int), firstAt l j x = some v → ∃ i : Nat, v = ((j + i : Nat) : Int) ∧ i < l.length
  | [], j, x, v, h => by cases h
  | y :: r, j, x, v, h => by
    unfold firstAt at h
    split at h
    · cases h; exact ⟨0, rfl, by simp⟩
    · obtain ⟨i, h1, h2⟩ := firstAt_lt r (j + 1) x v h
      exact ⟨i + 1, by rw [h1]; congr 1; omega, by simpa using h2⟩
theorem nextL_ok {x : S46} (h : I64 x.f2) : ∀ y ∈ nextL x, I64 y := by
  intro y hy
  unfold nextL at hy
  split at hy
  · cases hy
  · split at hy
    · rename_i hp
      rw [srt_mem] at hy
      have hp : 0 ≤ x.f0 ∧ x.f0 < 4096 := by unfold placedB at hp; simpa using hp
      have hz := szOf_range x.f1
      unfold nextKeys at hy
      rcases List.mem_append.1 hy with hy | hy
      · split at hy
        · cases hy
        · rw [List.mem_singleton.1 hy]; constructor <;> omega
      · split at hy
        · rw [List.mem_singleton.1 hy]; exact h
        · cases hy
    · cases hy
def flow_Reach.f (k : Nat) (l0 : List S46) (a1 : Int) : Option (List Int) := if l0.length < 4398046511104 then (if asOk l0 = true ∧ atsOk l0 = true ∧ okB a1 = true then reachL k l0 [a1] [] else none) else none
theorem reachL_snoc (k : Nat) (l : List S46) (s come : List Int) (a : Int) : reachL (k + 1) l (s ++ [a]) come = match firstAt l 0 a with
      | none => reachL k l s come
      | some i => if a ∈ come then reachL k l s come else if (s ++ [a]).length + (nextL (rd_T46 l i)).length ≤ 17592186044416 ∧ come.length < 17592186044416 then reachL k l (s ++ nextL (rd_T46 l i)) (come ++ [a]) else none := by
  conv => lhs; unfold reachL
  rw [List.getLast?_concat, List.dropLast_concat]
theorem reachL_nil (k : Nat) (l : List S46) (come : List Int) : reachL (k + 1) l [] come = if come.length < 4398046511104 then some (srt come) else none := rfl
theorem snoc_cases (st : List Int) : st = [] ∨ ∃ s a, st = s ++ [a] := by
  rcases List.eq_nil_or_concat st with h | ⟨s, a, h⟩
  · exact .inl h
  · exact .inr ⟨s, a, by rw [h, List.concat_eq_append]⟩
theorem below_none {W W1 : World} (hg : W.grownBy W1 none) : Below W.heap.size W W1 := ⟨hg.os, hg.tape, hg.output, hg.size, fun k hk => hg.block k hk (by simp)⟩
structure Mq (w0 : World) (B1 n1 : Nat) (g1 : Int → Option Int) (B2 n2 : Nat) (g2 : Int → Option Int) (W : World) : Prop where
  own1 : IMap W B1 n1 g1
  own2 : IMap W B2 n2 g2
  ne : B1 ≠ B2
  base1 : w0.heap.size ≤ B1
  base2 : w0.heap.size ≤ B2
  below : Below w0.heap.size w0 W
theorem Mq.step {w0 W W1 : World} {B1 n1 B2 n2 : Nat} {g1 g2 : Int → Option Int} (h : Mq w0 B1 n1 g1 B2 n2 g2 W) (hb : Below W.heap.size W W1) : Mq w0 B1 n1 g1 B2 n2 g2 W1 := ⟨h.own1.below hb, h.own2.below hb, h.ne, h.base1, h.base2, below_step h.below hb⟩
theorem Mq.stored {w0 W W1 : World} {B1 n1 B2 n2 n3 : Nat} {g1 g2 g3 : Int → Option Int} (h : Mq w0 B1 n1 g1 B2 n2 g2 W) (h3 : IMap W1 B2 n3 g3) (hg : W.grownBy W1 (some B2)) : Mq w0 B1 n1 g1 B2 n3 g3 W1 :=
  ⟨h.own1.grown hg (fun e => h.ne (by cases e; rfl)), h3, h.ne, h.base1, h.base2, h.below.grown hg h.below.size (fun k hk => by cases hk; exact h.base2)⟩
theorem Mq.grown {w0 W W1 : World} {B1 n1 B2 n2 : Nat} {g1 g2 : Int → Option Int} (h : Mq w0 B1 n1 g1 B2 n2 g2 W) {v : Value} {e : Nat} (ht : ∀ k, v.ownBlock = some k → ∃ cells, W.heap[k]? = some (.cells cells e (0, 0))) (hg : W.grownBy W1 v.ownBlock) (hb : Below w0.heap.size w0 W1) : Mq w0 B1 n1 g1 B2 n2 g2 W1 :=
  ⟨h.own1.grown hg (fun q => by obtain ⟨cs, hc⟩ := ht _ q.symm; exact h.own1.ne hc rfl), h.own2.grown hg (fun q => by obtain ⟨cs, hc⟩ := ht _ q.symm; exact h.own2.ne hc rfl), h.ne, h.base1, h.base2, hb⟩
theorem R_beside {α : Type} {d : Kd α} {e base : Nat} {W W1 : World} {v : Value} {xs : List α} (h : d.R e W base (fun _ => True) v xs) {B n : Nat} {g : Int → Option Int} (hm : IMap W B n g) (hg : W.grownBy W1 (some B)) : d.R e W1 base (fun _ => True) v xs :=
  Kd.R_mono (Kd.R_grown (Kd.R_bound h) hg (fun k hk q => by
    cases q
    obtain ⟨q, _, cs, hc⟩ := hk.2.2.2
    exact hm.ne hc rfl)) (fun _ _ => trivial)
set_option maxHeartbeats 1600000 in
set_option maxRecDepth 100000 in
theorem flow_Reach.calls (k : Nat) (A0 : Option Addr) (c0 : Nat) (l0 : List S46) (a1 : Int) (r : List Int) (w : World) (hr0 : Kd.C k46 w A0 l0.length l0) (hc0 : l0.length ≤ c0) (h : flow_Reach.f k l0 a1 = some r) :
    Calls Try.prog 38 #[.slice A0 l0.length c0, .int .i64 a1] w fun e w' => ∃ v0_ : Value, e = .returned (v0_) ∧ Kd.R (Kd.int .i64) 3 w' w.heap.size (fun _ => True) v0_ r ∧ Below w.heap.size w w' := by
  unfold flow_Reach.f at h
  by_cases hlen : l0.length < 4398046511104
  case neg => rw [if_neg hlen] at h; cases h
  rw [if_pos hlen] at h
  by_cases hok : asOk l0 = true ∧ atsOk l0 = true ∧ okB a1 = true
  case neg => rw [if_neg hok] at h; cases h
  rw [if_pos hok] at h
  have H := Aside0.mk h
  have HR := Aside0.mk hr0
  have HO := Aside0.mk hok.1
  have HOA := Aside0.mk hok.2.1
  have HA1 := Aside0.mk (okB_is hok.2.2)
  have HL := Aside0.mk hlen
  clear hr0 hok h hc0
  go_enter Try.func38, Try.ntmps38
  go_wp2_with fail
  refine (addresses_calls A0 c0 l0 _ HR.out HOA.out HL.out).mono ?_
  rintro e w1 ⟨B1, rfl, hM⟩
  have HM1 := Aside0.mk hM
  clear hM
  go_wp2_with (first | ((with_reducible refine gate_dst (N := 13) rfl ?_); refine im_make rfl rfl ?_; intro hM; have hM2 : Mq w B1 l0.length (firstAt l0 0) w1.heap.size 0 (fun _ => none) (w1.alloc (.map #[] 0)) := ⟨HM1.out.own.below (below_alloc (Below.refl _ _) _), hM, Nat.ne_of_lt HM1.out.own.lt, HM1.out.base, HM1.out.below.size, below_alloc HM1.out.below _⟩; generalize w1.alloc (.map #[] 0) = w2 at hM hM2 ⊢; generalize w1.heap.size = B2 at hM hM2 ⊢; clear hM; have HQ := Aside0.mk hM2; clear hM2) | ((with_reducible refine gate_dst (N := 15) rfl ?_); refine Kd.R_lit (Kd.int .i64) _ 3 ?hg (N := 15) ?hd (xs := ([a1] : List Int)) (inner := [.int .i64 a1]) (ok := fun _ => True) (okp := fun _ => True) ?hr ?hp (fun _ hk => hk) trivial HQ.out.below HQ.out.below.size (by simp) ?_; (case hd => rfl); (case hg => rfl); (case hr => first | (go_simp; done) | (go_simp; rfl)); (case hp => exact (Reps.one (show Kd.M (Kd.int .i64) _ _ _ a1 [.int .i64 a1] from rfl) (Reps.none _ _))); intro v1 w3 ho1 hb1 hg1 _; replace HQ := Aside0.mk (HQ.out.step (below_none hg1)); have HV := Aside0.mk ho1; clear ho1 hb1 hg1))
  go_loopg [7] k (fun kq v7 wr => ∃ (st come : List Int), Aside0 (reachL kq l0 st come = some r) ∧ Aside0 (Kd.R (Kd.int .i64) 3 wr w.heap.size (fun _ => True) v7 st) ∧ Aside0 (∀ y ∈ st, I64 y) ∧ Aside0 (Mq w B1 l0.length (firstAt l0 0) B2 come.length (mark come) wr))
  case atStart => exact ⟨[a1], [], H, HV, ⟨fun y hy => by rw [List.mem_singleton.1 hy]; exact HA1.out⟩, ⟨by rw [mark_nil]; exact HQ.out⟩⟩
  case round =>
    clear HQ HV
    obtain ⟨st, come, HH, HV, HY, HQ⟩ := hrel
    cases gk with
    | zero => exact absurd HH.out (by simp [reachL])
    | succ gk =>
    rcases snoc_cases st with rfl | ⟨s, a, rfl⟩
    · obtain ⟨A7, c7, e7⟩ := Kd.R_slice HV.out
      subst e7
      have hh := HH.out
      rw [reachL_nil] at hh
      by_cases hcl : come.length < 4398046511104
      case neg => rw [if_neg hcl] at hh; cases hh
      rw [if_pos hcl] at hh
      have HE := Aside0.mk (Option.some.inj hh).symm
      have HCL := Aside0.mk hcl
      clear HH hh hcl HV
      go_wp2_with fail
      refine (rising_calls B2 come.length _ _ HQ.out.own2 HCL.out).mono ?_
      rintro e w_ ⟨v, rr, rfl, hr, hs, hb⟩
      have HW := Aside0.mk hr
      have HS := Aside0.mk hs
      have HBB := Aside0.mk (below_step HQ.out.below hb)
      have HSZ := Aside0.mk HQ.out.below.size
      clear hr hs hb
      go_wp2
      go_ret
      refine ⟨v, rfl, ?_, HBB.out⟩
      rw [HE.out, ← srt_is HS.out.1 (fun y => by rw [HS.out.2, mark_some])]
      exact Kd.R_lower HW.out HSZ.out
    · obtain ⟨g7, c7, e7, _, _, _⟩ := Kd.R_form HV.out (by simp)
      subst e7
      obtain ⟨m, hm⟩ : ∃ m, m = s.length := ⟨_, rfl⟩
      have hlen1 : (s ++ [a]).length = m + 1 := by rw [hm]; simp
      have hcap := (Kd.R_reads' HV.out).2.1
      have hcell := (Kd.R_cell 0 HV.out (m : Int) (by omega) (by rw [hlen1]; omega)).1
      have hrd : rdOf (0 : Int) (s ++ [a]) (m : Int) = a := by unfold rdOf; rw [hm]; simp
      rw [hrd] at hcell
      simp only [Int.toNat_natCast] at hcell
      have hmx := (Kd.C_max (Kd.R_reads' HV.out).2.2)
      rw [hlen1] at hmx hcap ⊢
      have HM := Aside0.mk hm
      have HLN := Aside0.mk hlen1
      have hA : I64 a := HY.out a (by simp)
      have HA := Aside0.mk hA
      have HH1 := HH.out
      rw [reachL_snoc] at HH1
      have HHS := Aside0.mk HH1
      have t1 : decide (((m + 1 : Nat) : Int) > 0) = true := decide_eq_true (by omega)
      have t2 : decide ((0 : Int) < ((m + 1 : Nat) : Int)) = true := decide_eq_true (by omega)
      have t3 : decide (0 < m + 1) = true := decide_eq_true (by omega)
      clear hm hlen1 hrd hA HH1 HH
      cases hf : firstAt l0 0 a with
      | none =>
        have HF := Aside0.mk hf
        clear hf
        go_wp2_with (first | ((with_reducible refine gate_dst (N := 33) rfl ?_); refine im_look_ok rfl rfl rfl HQ.out.own1 rfl HA.out ?_; rw [HF.out]; simp only [Option.getD_none, Option.isSome_none]))
        go_roundg gk
        case measure => omega
        case rel => exact ⟨s, come, ⟨by have := HHS.out; rw [HF.out] at this; exact this⟩, ⟨by have := Kd.R_take HV.out (m := m) (by rw [HLN.out]; omega); rwa [show (s ++ [a]).take m = s by rw [HM.out]; simp] at this⟩, ⟨fun y hy => HY.out y (List.mem_append.2 (.inl hy))⟩, HQ⟩
      | some iz =>
        obtain ⟨i, rfl, hi⟩ := firstAt_lt l0 0 a iz hf
        rw [Nat.zero_add] at hf
        have HF := Aside0.mk hf
        have HI := Aside0.mk hi
        have HHS2 : Aside0 ((if a ∈ come then reachL gk l0 s come else if (s ++ [a]).length + (nextL (rd_T46 l0 (i : Int))).length ≤ 17592186044416 ∧ come.length < 17592186044416 then reachL gk l0 (s ++ nextL (rd_T46 l0 (i : Int))) (come ++ [a]) else none) = some r) := ⟨by have := HHS.out; rw [HF.out] at this; exact this⟩
        clear hf hi HHS
        by_cases hm : a ∈ come
        · have hmk : mark come a = some 1 := by unfold mark; rw [if_pos hm]
          have HMK := Aside0.mk hmk
          have HH3 : Aside0 (reachL gk l0 s come = some r) := ⟨by have := HHS2.out; rw [if_pos hm] at this; exact this⟩
          clear hmk HHS2 hm
          go_wp2_with (first | ((with_reducible refine gate_dst (N := 33) rfl ?_); refine im_look_ok rfl rfl rfl HQ.out.own1 rfl HA.out ?_; rw [HF.out]; simp only [Option.getD_none, Option.isSome_none, Option.getD_some, Option.isSome_some]) | ((with_reducible refine gate_dst (N := 41) rfl ?_); refine gate_guard (by rfl) ?_; dsimp only; refine im_look rfl rfl rfl HQ.out.own2 rfl HA.out ?_; rw [HMK.out]; simp only [Option.getD_none, Option.getD_some]))
          go_roundg gk
          case measure => omega
          case rel => exact ⟨s, come, HH3, ⟨by have := Kd.R_take HV.out (m := m) (by rw [HLN.out]; omega); rwa [show (s ++ [a]).take m = s by rw [HM.out]; simp] at this⟩, ⟨fun y hy => HY.out y (List.mem_append.2 (.inl hy))⟩, HQ⟩
        · have hmk : mark come a = none := by unfold mark; rw [if_neg hm]
          have HMK := Aside0.mk hmk
          have HMB := Aside0.mk hm
          obtain ⟨x, hx⟩ : ∃ x, x = rd_T46 l0 (i : Int) := ⟨_, rfl⟩
          have HX := Aside0.mk hx
          have hx2 : I64 x.f2 := by have := asOk_at HO.out HI.out; rw [← hx] at this; exact this
          have hxk : okB x.f2 = true := by have := hx2; unfold okB; simp only [Bool.and_eq_true, decide_eq_true_eq]; exact this
          have hnf : flow_Next.f x.f0 x.f1 x.f2 x.f3 = some (nextL x) := by unfold flow_Next.f; rw [if_pos hxk]
          have HNF := Aside0.mk hnf
          have HNK := Aside0.mk (nextL_ok hx2)
          have h4 := HHS2.out
          rw [if_neg hm, ← hx] at h4
          by_cases h5 : (s ++ [a]).length + (nextL x).length ≤ 17592186044416 ∧ come.length < 17592186044416
          case neg => rw [if_neg h5] at h4; cases h4
          rw [if_pos h5] at h4
          have HH3 := Aside0.mk h4
          have H5 := Aside0.mk h5
          have hpop : Kd.R (Kd.int .i64) 3 wr w.heap.size (fun _ => True) (.slice (some ⟨g7, 0, none⟩) m c7) s := by have := Kd.R_take HV.out (m := m) (by rw [HLN.out]; omega); rwa [show (s ++ [a]).take m = s by rw [HM.out]; simp] at this
          have HV := Aside0.mk hpop
          obtain ⟨ad, e1, _⟩ := at_I HR.out HQ.out.below HI.out hx
          cases e1
          have hi := HI.out
          have p5 : (0 ≤ (i : Int)) = True := eq_true (by omega)
          have p6 : ((i : Int) < (l0.length : Int)) = True := eq_true (by omega)
          clear hmk HHS2 hm hx hx2 hxk hnf h4 h5 hpop
          go_wp2_with (first | ((with_reducible refine gate_dst (N := 33) rfl ?_); refine im_look_ok rfl rfl rfl HQ.out.own1 rfl HA.out ?_; rw [HF.out]; simp only [Option.getD_none, Option.isSome_none, Option.getD_some, Option.isSome_some]) | ((with_reducible refine gate_dst (N := 41) rfl ?_); refine gate_guard (by rfl) ?_; dsimp only; refine im_look rfl rfl rfl HQ.out.own2 rfl HA.out ?_; rw [HMK.out]; simp only [Option.getD_none, Option.getD_some]) | (at_mapUpdate; refine im_store rfl rfl rfl HQ.out.own2 (by have := H5.out.2; unfold maxLen; omega) rfl rfl HA.out (by constructor <;> omega) ?_; intro w4 r1 r2; replace HV := Aside0.mk (R_beside HV.out HQ.out.own2 r2); replace HQ := Aside0.mk (HQ.out.stored r1 r2); rw [mark_upd] at HQ; obtain ⟨ad', e1, hx0, hx1, hx2, hx3⟩ := at_I HR.out HQ.out.below HI.out HX.out; cases e1; clear r1 r2 hcell))
          refine (flow_Next.calls x.f0 x.f1 x.f2 x.f3 (nextL x) _ HNF.out).mono ?_
          rintro e w5 ⟨v5, rfl, ho5, hb5⟩
          obtain ⟨A5, c5, e5, hc5, hC5⟩ := Kd.R_reads ho5
          subst e5
          have HC5 := Aside0.mk hC5
          replace HV := Aside0.mk (Kd.R_below HV.out hb5)
          replace HQ := Aside0.mk (HQ.out.step hb5)
          clear ho5 hb5 hc5 hC5 hx0 hx1 hx2 hx3
          go_wp2_with (first | (at_builtin; refine Kd.R_append_rows (Kd.int .i64) (w0 := w) w.heap.size rfl (.tmp 46) (.tmp 51) 27 3 (.int .i64 0) 8 rfl Try.underlying27 info3 rfl (by decide) (by omega) (.slice (some ⟨g7, 0, none⟩) m c7) s (nextL x) _ _ _ (fun _ => True) (fun _ => False) rfl rfl HV.out HC5.out (fun _ _ h => h) (fun _ h => h.elim) (fun _ _ => trivial) HQ.out.below HQ.out.below.size (by have := H5.out.1; rw [List.length_append] at this; simp at this; omega) ?_; intro v8 w6 ho hb hg _; replace HQ := Aside0.mk (HQ.out.grown (Kd.R_typed HV.out) hg hb); replace HV := Aside0.mk ho; clear ho hb hg))
          go_roundg gk
          case measure => omega
          case rel => exact ⟨s ++ nextL x, come ++ [a], HH3, HV, ⟨fun y hy => by
            rcases List.mem_append.1 hy with hy | hy
            · exact HY.out y (List.mem_append.2 (.inl hy))
            · exact HNK.out y hy⟩, ⟨by rw [List.length_append]; exact HQ.out⟩⟩

end Go.Proofs.Ytcffniaieegbgaa.P

end

section
namespace Go.Proofs.Ytcffniaieegbgaa.P
open Go.RowKit Go.Proofs.YtcffniaieegbgaaW.PrintWords Go.Proofs.YtcffniaieegbgaaW.PrintLast Go.Proofs.YtcffniaieegbgaaW.PrintMore
attribute [local go_sem] max2_int min2_int max_two min_two max_three min_three max_four min_four   -- for this text's walks alone
set_option linter.unusedVariables false
set_option linter.unusedSimpArgs false

mutual
def provisolaw05_FlowInside.j0 : Nat → List (S46) → Bool → Option (Bool)
  | 0, _, _ => none
  | k + 1, x5, x41 => if x41 = true then (some false) else ((flow_Reach.f k x5 0).bind fun t368 => (if (t368.length : Int) = 0 then (provisolaw05_FlowInside.j1 k x5 t368 true) else (if 0 < (t368.length : Int) then (provisolaw05_FlowInside.j1 k x5 t368 ((rd t368 0) != 0)) else (none))))
def provisolaw05_FlowInside.j1 : Nat → List (S46) → List Int → Bool → Option (Bool)
  | 0, _, _, _ => none
  | k + 1, x5, x8, x52 => if x52 = true then (some false) else (provisolaw05_FlowInside.l0 k x8 x5 (x5.length : Int) 0)
def provisolaw05_FlowInside.l0 : Nat → List Int → List (S46) → Int → Int → Option (Bool)
  | 0, _, _, _, _ => none
  | k + 1, x8, x53, x54, x55 => if x55 < x54 then (if 0 ≤ x55 then (if x55 < (x53.length : Int) then ((slices_Contains_int_int.f k x8 ((rd_T46 x53 x55).f0)).bind fun t374 => (if t374 = true then ((flow_Next.f ((rd_T46 x53 x55).f0) ((rd_T46 x53 x55).f1) ((rd_T46 x53 x55).f2) ((rd_T46 x53 x55).f3)).bind fun t375 => (provisolaw05_FlowInside.l1 k x8 x53 x54 x55 t375 (t375.length : Int) 0)) else (provisolaw05_FlowInside.l0 k x8 x53 x54 (wrap64 (x55 + 1))))) else (none)) else (none)) else (some true)
def provisolaw05_FlowInside.l1 : Nat → List Int → List (S46) → Int → Int → List Int → Int → Int → Option (Bool)
  | 0, _, _, _, _, _, _, _ => none
  | k + 1, x8, x53, x54, x55, x65, x66, x67 => if x67 < x66 then (if 0 ≤ x67 then (if x67 < (x65.length : Int) then ((slices_Contains_int_int.f k x8 (rd x65 x67)).bind fun t379 => (if t379 = true then (provisolaw05_FlowInside.l1 k x8 x53 x54 x55 x65 x66 (wrap64 (x67 + 1))) else (some false))) else (none)) else (none)) else (provisolaw05_FlowInside.l0 k x8 x53 x54 (wrap64 (x55 + 1)))
end
def provisolaw05_FlowInside.f (k : Nat) (l0 : List Int) : Option (Bool) := (provisoref05_Check.f k l0).bind fun bt353 => (if bt353.2 = 0 then ((slices_Clone_byte_byte.f l0).bind fun t360 => ((flow_Scan.f k t360).bind fun bt363 => (if bt363.2.2 = 0 then (provisolaw05_FlowInside.j0 k bt363.1 ((bt363.1.length : Int) == 0)) else (provisolaw05_FlowInside.j0 k bt363.1 true)))) else ((slices_Clone_byte_byte.f l0).bind fun t355 => ((flow_Check.f k t355).bind fun bt358 => (some (bt358.2 != 0)))))
set_option maxHeartbeats 8000000 in
set_option maxRecDepth 100000 in
theorem provisolaw05_FlowInside.calls (k : Nat) (A0 : Option Addr) (c0 : Nat) (l0 : List Int) (r : Bool) (w : World) (hr0 : Kd.C (Kd.int .u8) w A0 l0.length l0) (hc0 : l0.length ≤ c0) (h : provisolaw05_FlowInside.f k l0 = some r) :
    Calls Try.prog 11 #[.slice A0 l0.length c0] w fun e w' => e = .returned (.bool r) ∧ Below w.heap.size w w' := by
  have hu46 := Try.underlying46
  have HR0 := Aside0.mk hr0
  have HC0 := Aside0.mk hc0
  clear hr0 hc0
  have HB := Aside0.mk (Below.refl w.heap.size w)
  have H : ((provisoref05_Check.f k l0).bind fun bt353 => (if bt353.2 = 0 then ((slices_Clone_byte_byte.f l0).bind fun t360 => ((flow_Scan.f k t360).bind fun bt363 => (if bt363.2.2 = 0 then (provisolaw05_FlowInside.j0 k bt363.1 ((bt363.1.length : Int) == 0)) else (provisolaw05_FlowInside.j0 k bt363.1 true)))) else ((slices_Clone_byte_byte.f l0).bind fun t355 => ((flow_Check.f k t355).bind fun bt358 => (some (bt358.2 != 0)))))) = some r := h
  clear h
  replace H := Option.bind_eq_some_iff.mp H
  obtain ⟨⟨t353, t354⟩, A20, H⟩ := H
  replace H : (if t354 = 0 then ((slices_Clone_byte_byte.f l0).bind fun t360 => ((flow_Scan.f k t360).bind fun bt363 => (if bt363.2.2 = 0 then (provisolaw05_FlowInside.j0 k bt363.1 ((bt363.1.length : Int) == 0)) else (provisolaw05_FlowInside.j0 k bt363.1 true)))) else ((slices_Clone_byte_byte.f l0).bind fun t355 => ((flow_Check.f k t355).bind fun bt358 => (some (bt358.2 != 0))))) = some r := H
  have A2 := Aside0.mk A20
  clear A20
  by_cases c3 : t354 = 0
  · rw [if_pos c3] at H
    have c3b0 : (t354 == 0) = true := beq_iff_eq.mpr c3
    have c3b1 : (t354 != 0) = false := bne_eq_false_iff_eq.mpr c3
    clear c3
    replace H := Option.bind_eq_some_iff.mp H
    obtain ⟨t360, A40, H⟩ := H
    replace H : ((flow_Scan.f k t360).bind fun bt363 => (if bt363.2.2 = 0 then (provisolaw05_FlowInside.j0 k bt363.1 ((bt363.1.length : Int) == 0)) else (provisolaw05_FlowInside.j0 k bt363.1 true))) = some r := H
    have A4 := Aside0.mk A40
    clear A40
    replace H := Option.bind_eq_some_iff.mp H
    obtain ⟨⟨t363, t364, t365⟩, A50, H⟩ := H
    replace H : (if t365 = 0 then (provisolaw05_FlowInside.j0 k t363 ((t363.length : Int) == 0)) else (provisolaw05_FlowInside.j0 k t363 true)) = some r := H
    have A5 := Aside0.mk A50
    clear A50
    have HC6 := Aside0.mk H
    clear H
    go_enter Try.func11, Try.ntmps11
    go_upto_region 6 with (first | ((with_reducible refine gate_callee (f := 29) rfl ?_); refine goesL_ (some 15) rfl rfl Try.func29 (by kernel_rfl) rfl #[.slice A0 l0.length c0] rfl (by (try simp only [List.map_toArray, List.map_cons, List.map_nil]); first | done | rfl | (simp only [List.length_drop, List.length_take]; rfl)) ?_; (with_reducible refine (provisoref05_Check.calls k _ _ l0 t353 t354 _ ?side1 ?side2 A2.out).mono ?_); (case side1 => repeat (first | exact HR0.out | (with_reducible refine Kd.C_alloc ?_ _) | (with_reducible refine Kd.C_drewN ?_ _) | (with_reducible refine Kd.C_drew ?_))); (case side2 => exact HC0.out); rintro e w7 ⟨rfl, hb⟩; refine ⟨_, rfl, ?_⟩; have n0_ := Aside0.mk (below_step (by repeat (first | (with_reducible first | exact HB.out | apply below_alloc | apply pw_below_drewN | apply below_drew1) | exact HB.out)) hb); clear HB; have HB := n0_; clear n0_; (try clear hb); (try clear hb2); (try clear hk); (try clear hi)) | ((with_reducible refine gate_callee (f := 40) rfl ?_); refine goesL_ (some 30) rfl rfl Try.func40 (by kernel_rfl) rfl #[.slice A0 l0.length c0] rfl (by (try simp only [List.map_toArray, List.map_cons, List.map_nil]); first | done | rfl | (simp only [List.length_drop, List.length_take]; rfl)) ?_; (with_reducible refine (slices_Clone_byte_byte.calls _ _ l0 t360 _ ?side1 ?side2 A4.out).mono ?_); (case side1 => repeat (first | exact (Kd.C_below HR0.out HB.out) | (with_reducible refine Kd.C_alloc ?_ _) | (with_reducible refine Kd.C_drewN ?_ _) | (with_reducible refine Kd.C_drew ?_))); (case side2 => exact HC0.out); rintro e w8 ⟨v361, rfl, ho0, hb⟩; refine ⟨_, rfl, ?_⟩; have n0_ := Aside0.mk (Kd.R_lower ho0 (below_size (by repeat (first | (with_reducible first | exact HB.out | apply below_alloc | apply pw_below_drewN | apply below_drew1) | exact HB.out)))); have n1_ := Aside0.mk (below_step (by repeat (first | (with_reducible first | exact HB.out | apply below_alloc | apply pw_below_drewN | apply below_drew1) | exact HB.out)) hb); clear HB; have HO362 := n0_; have HB := n1_; clear n0_ n1_; (try clear hb); (try clear hb2); (try clear hk); (try clear hi); (try clear ho0); obtain ⟨Ao9, co9, eo9⟩ := Kd.R_slice HO362.out; subst eo9) | ((with_reducible refine gate_callee (f := 26) rfl ?_); refine goesL_ (some 31) rfl rfl Try.func26 (by kernel_rfl) rfl #[.slice Ao9 t360.length co9] rfl (by (try simp only [List.map_toArray, List.map_cons, List.map_nil]); first | done | rfl | (simp only [List.length_drop, List.length_take]; rfl)) ?_; (with_reducible refine (flow_Scan.calls k _ _ t360 t363 t364 t365 _ ?side1 ?side2 A5.out).mono ?_); (case side1 => repeat (first | exact (Kd.R_reads' HO362.out).2.2 | (with_reducible refine Kd.C_alloc ?_ _) | (with_reducible refine Kd.C_drewN ?_ _) | (with_reducible refine Kd.C_drew ?_))); (case side2 => exact (Kd.R_reads' HO362.out).2.1); rintro e w10 ⟨v366, rfl, ho0, hb⟩; refine ⟨_, rfl, ?_⟩; have n0_ := Aside0.mk (Kd.R_below (by (with_reducible repeat (first | apply Kd.R_alloc | apply Kd.R_drewN | apply Kd.R_drew)); exact HO362.out) hb); have n1_ := Aside0.mk (Kd.R_lower ho0 (below_size (by repeat (first | (with_reducible first | exact HB.out | apply below_alloc | apply pw_below_drewN | apply below_drew1) | exact HB.out)))); have n2_ := Aside0.mk (below_step (by repeat (first | (with_reducible first | exact HB.out | apply below_alloc | apply pw_below_drewN | apply below_drew1) | exact HB.out)) hb); clear HO362; clear HB; have HO362 := n0_; have HO367 := n1_; have HB := n2_; clear n0_ n1_ n2_; (try clear hb); (try clear hb2); (try clear hk); (try clear hi); (try clear ho0)))
    (try simp only [Act.put, List.setIfInBounds_toArray, List.set_cons_zero, List.set_cons_succ])
    go_cut [41] (fun v41 wc => ∃ (kq : Nat) (x41_5 : Bool), v41 = .bool x41_5 ∧ Aside0 (provisolaw05_FlowInside.j0 kq t363 x41_5 = some r) ∧ Aside0 (kq ≤ k) ∧ Aside0 (Kd.R k46 46 wc w.heap.size (fun _ => True) v366 t363) ∧ Aside0 (Below w.heap.size w wc))
    case first =>
      have H := HC6.out
      clear HC6
      by_cases c11 : t365 = 0
      · rw [if_pos c11] at H
        have c11b0 : (t365 == 0) = true := beq_iff_eq.mpr c11
        have c11b1 : (t365 != 0) = false := bne_eq_false_iff_eq.mpr c11
        clear c11
        (first | rw [c11b0] | (simp only [i64_w, i32_w]; rw [c11b0]) | skip)
        have H' := Aside0.mk H
        clear H
        obtain ⟨Ao12, co12, eo12⟩ := Kd.R_slice HO367.out
        subst eo12
        go_wp2
        go_meet
        case rel => exact ⟨_, (((t363.length : Int) == 0)), (by first | rfl | (simp; done) | (simp [*]; done)), H', ⟨by first | omega | exact Nat.le_refl _⟩, ⟨by (with_reducible repeat (first | apply Kd.R_alloc | apply Kd.R_drewN | apply Kd.R_drew)); exact HO367.out⟩, ⟨by repeat (first | (with_reducible first | exact HB.out | apply below_alloc | apply pw_below_drewN | apply below_drew1) | exact HB.out)⟩⟩
      · rw [if_neg c11] at H
        have c11b0 : (t365 == 0) = false := beq_eq_false_iff_ne.mpr c11
        have c11b1 : (t365 != 0) = true := bne_iff_ne.mpr c11
        (first | rw [c11b0] | (simp only [i64_w, i32_w]; rw [c11b0]) | skip)
        have H' := Aside0.mk H
        clear H
        go_wp2
        go_meet
        case rel => exact ⟨_, (true), (by first | rfl | (simp; done) | (simp [*]; done)), H', ⟨by first | omega | exact Nat.le_refl _⟩, ⟨by (with_reducible repeat (first | apply Kd.R_alloc | apply Kd.R_drewN | apply Kd.R_drew)); exact HO367.out⟩, ⟨by repeat (first | (with_reducible first | exact HB.out | apply below_alloc | apply pw_below_drewN | apply below_drew1) | exact HB.out)⟩⟩
    case rest =>
      clear HC6
      try clear c1
      try clear c2
      try clear p2
      try clear c3
      try clear c3b0
      try clear c3b1
      try clear c4
      try clear c11
      try clear c11b0
      try clear c11b1
      obtain ⟨kq, x41_5, rfl, HA, HJ5, HO_5, HB⟩ := hcut
      cases kq with
      | zero => exact absurd HA.out (by simp [provisolaw05_FlowInside.j0])
      | succ kj5 =>
        have H := HA.out
        clear HA
        simp only [provisolaw05_FlowInside.j0] at H
        by_cases c13 : x41_5 = true
        · subst c13
          have H1 : (some false) = some r := by rw [if_pos rfl] at H; exact H
          clear H
          have H := H1
          clear H1
          obtain rfl := Option.some.inj H
          go_wp2
          go_ret
          exact ⟨by first | rfl | (simp [errW_none, errW_some] <;> rfl) | (simp [*, errW_none, errW_some] <;> rfl), by repeat (first | (with_reducible first | exact HB.out | apply below_alloc | apply pw_below_drewN | apply below_drew1) | exact HB.out)⟩
        · replace c13 := Bool.eq_false_iff.mpr c13
          subst c13
          have H1 : ((flow_Reach.f kj5 t363 0).bind fun t368 => (if (t368.length : Int) = 0 then (provisolaw05_FlowInside.j1 kj5 t363 t368 true) else (if 0 < (t368.length : Int) then (provisolaw05_FlowInside.j1 kj5 t363 t368 ((rd t368 0) != 0)) else (none)))) = some r := by rw [if_neg (show ¬ (false = true) by decide)] at H; exact H
          clear H
          have H := H1
          clear H1
          replace H := Option.bind_eq_some_iff.mp H
          obtain ⟨t368, A140, H⟩ := H
          replace H : (if (t368.length : Int) = 0 then (provisolaw05_FlowInside.j1 kj5 t363 t368 true) else (if 0 < (t368.length : Int) then (provisolaw05_FlowInside.j1 kj5 t363 t368 ((rd t368 0) != 0)) else (none))) = some r := H
          have A14 := Aside0.mk A140
          clear A140
          have HC15 := Aside0.mk H
          clear H
          obtain ⟨Ao16, co16, eo16⟩ := Kd.R_slice HO_5.out
          subst eo16
          go_upto_region 9 with (first | ((with_reducible refine gate_callee (f := 38) rfl ?_); refine goesL_ (some 43) rfl rfl Try.func38 (by kernel_rfl) rfl #[.slice Ao16 t363.length co16, .int .i64 0] rfl (by (try simp only [List.map_toArray, List.map_cons, List.map_nil]); first | done | rfl | (simp only [List.length_drop, List.length_take]; rfl)) ?_; (with_reducible refine (flow_Reach.calls kj5 _ _ t363 0 t368 _ ?side1 ?side2 A14.out).mono ?_); (case side1 => repeat (first | exact (Kd.R_reads' HO_5.out).2.2 | (with_reducible refine Kd.C_alloc ?_ _) | (with_reducible refine Kd.C_drewN ?_ _) | (with_reducible refine Kd.C_drew ?_))); (case side2 => exact (Kd.R_reads' HO_5.out).2.1); rintro e w17 ⟨v369, rfl, ho0, hb⟩; refine ⟨_, rfl, ?_⟩; have n0_ := Aside0.mk (Kd.R_below (by (with_reducible repeat (first | apply Kd.R_alloc | apply Kd.R_drewN | apply Kd.R_drew)); exact HO_5.out) hb); have n1_ := Aside0.mk (Kd.R_lower ho0 (below_size (by repeat (first | (with_reducible first | exact HB.out | apply below_alloc | apply pw_below_drewN | apply below_drew1) | exact HB.out)))); have n2_ := Aside0.mk (below_step (by repeat (first | (with_reducible first | exact HB.out | apply below_alloc | apply pw_below_drewN | apply below_drew1) | exact HB.out)) hb); clear HO_5; clear HB; have HO_5 := n0_; have HO370 := n1_; have HB := n2_; clear n0_ n1_ n2_; (try clear hb); (try clear hb2); (try clear hk); (try clear hi); (try clear ho0)))
          (try simp only [Act.put, List.setIfInBounds_toArray, List.set_cons_zero, List.set_cons_succ])
          go_cut [52] (fun v52 wc => ∃ (kq : Nat) (x52_14 : Bool), v52 = .bool x52_14 ∧ Aside0 (provisolaw05_FlowInside.j1 kq t363 t368 x52_14 = some r) ∧ Aside0 (kq ≤ kj5) ∧ Aside0 (Kd.R k46 46 wc w.heap.size (fun _ => True) (.slice Ao16 t363.length co16) t363) ∧ Aside0 (Kd.R (Kd.int .i64) 3 wc w.heap.size (fun _ => True) v369 t368) ∧ Aside0 (Below w.heap.size w wc))
          case first =>
            have H := HC15.out
            clear HC15
            by_cases c18 : (t368.length : Int) = 0
            · rw [if_pos c18] at H
              have c18b0 : ((t368.length : Int) == 0) = true := beq_iff_eq.mpr c18
              have c18b1 : ((t368.length : Int) != 0) = false := bne_eq_false_iff_eq.mpr c18
              clear c18
              (first | rw [c18b0] | (simp only [i64_w, i32_w]; rw [c18b0]) | skip)
              have H' := Aside0.mk H
              clear H
              obtain ⟨Ao19, co19, eo19⟩ := Kd.R_slice HO370.out
              subst eo19
              go_wp2
              go_meet
              case rel => exact ⟨_, (true), (by first | rfl | (simp; done) | (simp [*]; done)), H', ⟨by have := HJ5.out; first | omega | exact Nat.le_refl _⟩, ⟨by (with_reducible repeat (first | apply Kd.R_alloc | apply Kd.R_drewN | apply Kd.R_drew)); exact HO_5.out⟩, ⟨by (with_reducible repeat (first | apply Kd.R_alloc | apply Kd.R_drewN | apply Kd.R_drew)); exact HO370.out⟩, ⟨by repeat (first | (with_reducible first | exact HB.out | apply below_alloc | apply pw_below_drewN | apply below_drew1) | exact HB.out)⟩⟩
            · rw [if_neg c18] at H
              have c18b0 : ((t368.length : Int) == 0) = false := beq_eq_false_iff_ne.mpr c18
              have c18b1 : ((t368.length : Int) != 0) = true := bne_iff_ne.mpr c18
              have c18b2 : ¬ (t368 = []) := fun h_ => c18 (by rw [h_]; rfl)
              (first | rw [c18b0] | (simp only [i64_w, i32_w]; rw [c18b0]) | skip)
              by_cases c20 : 0 < (t368.length : Int)
              · rw [if_pos c20] at H
                have c20b0 : decide (0 < (t368.length : Int)) = true := decide_eq_true c20
                have c20b1 : decide (0 < t368.length) = true := decide_eq_true (by omega)
                clear c20
                have H' := Aside0.mk H
                clear H
                obtain ⟨Ao21, co21, eo21⟩ := Kd.R_slice HO370.out
                subst eo21
                have p371 : 0 ≤ (0 : Int) := (by omega)
                have q371 : 0 < (t368.length : Int) := of_decide_eq_true (by first | (with_reducible assumption) | assumption)
                obtain ⟨ad371, e371, hx371_0⟩ := Kd.at_int (Kd.R_reads' HO370.out).2.2 0 p371 q371
                cases e371
                have qi371 : (0 < t368.length) = True := eq_true (by omega)
                (try rw [show ((0 : Int)).toNat = 0 from rfl] at hx371_0)
                (try rw [Addr.add_zero'] at hx371_0)
                replace p371 := eq_true p371
                replace q371 := eq_true q371
                go_wp2
                go_meet
                case rel => exact ⟨_, (((rd t368 0) != 0)), (by first | rfl | (simp; done) | (simp [*]; done)), H', ⟨by have := HJ5.out; first | omega | exact Nat.le_refl _⟩, ⟨by (with_reducible repeat (first | apply Kd.R_alloc | apply Kd.R_drewN | apply Kd.R_drew)); exact HO_5.out⟩, ⟨by (with_reducible repeat (first | apply Kd.R_alloc | apply Kd.R_drewN | apply Kd.R_drew)); exact HO370.out⟩, ⟨by repeat (first | (with_reducible first | exact HB.out | apply below_alloc | apply pw_below_drewN | apply below_drew1) | exact HB.out)⟩⟩
              · rw [if_neg c20] at H
                exact absurd H (by simp)
          case rest =>
            clear HC15
            try clear c1
            try clear c2
            try clear p2
            try clear c3
            try clear c3b0
            try clear c3b1
            try clear p3
            try clear q3
            try clear hx3
            try clear qi3
            try clear c4
            try clear c11
            try clear c11b0
            try clear c11b1
            try clear c13
            try clear c18
            try clear c18b0
            try clear c18b1
            try clear c18b2
            try clear c20
            try clear c20b0
            try clear c20b1
            try clear hx371_0
            try clear p2
            try clear p371
            try clear q371
            obtain ⟨kq, x52_14, rfl, HA, HJ14, HO_5, HO_8, HB⟩ := hcut
            cases kq with
            | zero => exact absurd HA.out (by simp [provisolaw05_FlowInside.j1])
            | succ kj14 =>
              have H := HA.out
              clear HA
              simp only [provisolaw05_FlowInside.j1] at H
              by_cases c22 : x52_14 = true
              · subst c22
                have H1 : (some false) = some r := by rw [if_pos rfl] at H; exact H
                clear H
                have H := H1
                clear H1
                obtain rfl := Option.some.inj H
                go_wp2
                go_ret
                exact ⟨by first | rfl | (simp [errW_none, errW_some] <;> rfl) | (simp [*, errW_none, errW_some] <;> rfl), by repeat (first | (with_reducible first | exact HB.out | apply below_alloc | apply pw_below_drewN | apply below_drew1) | exact HB.out)⟩
              · replace c22 := Bool.eq_false_iff.mpr c22
                subst c22
                have H1 : (provisolaw05_FlowInside.l0 kj14 t368 t363 (t363.length : Int) 0) = some r := by rw [if_neg (show ¬ (false = true) by decide)] at H; exact H
                clear H
                have H := H1
                clear H1
                have H' := Aside0.mk H
                clear H
                go_wp2
                go_loopg [55] kj14 (fun kq v55 w' => ∃ (x55_3 : Int), v55 = .int .i64 x55_3 ∧ Aside0 (provisolaw05_FlowInside.l0 kq t368 t363 (t363.length : Int) x55_3 = some r) ∧ Aside0 (kq ≤ kj14) ∧ Aside0 (Kd.R (Kd.int .i64) 3 w' w.heap.size (fun _ => True) v369 t368) ∧ Aside0 (Kd.R k46 46 w' w.heap.size (fun _ => True) (.slice Ao16 t363.length co16) t363) ∧ Aside0 (Below w.heap.size w w'))
                case atStart => exact ⟨(0), (by first | rfl | (simp; done) | (simp [*]; done)), H', ⟨Nat.le_refl _⟩, ⟨by (with_reducible repeat (first | apply Kd.R_alloc | apply Kd.R_drewN | apply Kd.R_drew)); exact HO_8.out⟩, ⟨by (with_reducible repeat (first | apply Kd.R_alloc | apply Kd.R_drewN | apply Kd.R_drew)); exact HO_5.out⟩, ⟨by repeat (first | (with_reducible first | exact HB.out | apply below_alloc | apply pw_below_drewN | apply below_drew1) | exact HB.out)⟩⟩
                case round =>
                  clear H'
                  try clear c1
                  try clear c2
                  try clear p2
                  try clear c3
                  try clear c3b0
                  try clear c3b1
                  try clear p3
                  try clear q3
                  try clear hx3
                  try clear qi3
                  try clear c4
                  try clear c11
                  try clear c11b0
                  try clear c11b1
                  try clear c13
                  try clear c18
                  try clear c18b0
                  try clear c18b1
                  try clear c18b2
                  try clear c20
                  try clear c20b0
                  try clear c20b1
                  try clear c22
                  try clear hx371_0
                  try clear p2
                  try clear p3
                  try clear p371
                  try clear q3
                  try clear q371
                  obtain ⟨x55_3, rfl, HA, HK3, HO_8, HO_53, HB⟩ := hrel
                  cases gk with
                  | zero => exact absurd HA.out (by simp [provisolaw05_FlowInside.l0])
                  | succ k3 =>
                    have H := HA.out
                    clear HA
                    simp only [provisolaw05_FlowInside.l0] at H
                    by_cases c23 : x55_3 < (t363.length : Int)
                    · rw [if_pos c23] at H
                      have c23b0 : decide (x55_3 < (t363.length : Int)) = true := decide_eq_true c23
                      clear c23
                      by_cases c24 : 0 ≤ x55_3
                      · rw [if_pos c24] at H
                        have c24b0 : decide (0 ≤ x55_3) = true := decide_eq_true c24
                        clear c24
                        by_cases c25 : x55_3 < (t363.length : Int)
                        · rw [if_pos c25] at H
                          have c25b0 : decide (x55_3 < (t363.length : Int)) = true := decide_eq_true c25
                          clear c25
                          replace H := Option.bind_eq_some_iff.mp H
                          obtain ⟨t374, A260, H⟩ := H
                          replace H : (if t374 = true then ((flow_Next.f ((rd_T46 t363 x55_3).f0) ((rd_T46 t363 x55_3).f1) ((rd_T46 t363 x55_3).f2) ((rd_T46 t363 x55_3).f3)).bind fun t375 => (provisolaw05_FlowInside.l1 k3 t368 t363 (t363.length : Int) x55_3 t375 (t375.length : Int) 0)) else (provisolaw05_FlowInside.l0 k3 t368 t363 (t363.length : Int) (wrap64 (x55_3 + 1)))) = some r := H
                          have A26 := Aside0.mk A260
                          clear A260
                          by_cases c27 : t374 = true
                          · subst c27
                            have H1 : ((flow_Next.f ((rd_T46 t363 x55_3).f0) ((rd_T46 t363 x55_3).f1) ((rd_T46 t363 x55_3).f2) ((rd_T46 t363 x55_3).f3)).bind fun t375 => (provisolaw05_FlowInside.l1 k3 t368 t363 (t363.length : Int) x55_3 t375 (t375.length : Int) 0)) = some r := by rw [if_pos rfl] at H; exact H
                            clear H
                            have H := H1
                            clear H1
                            replace H := Option.bind_eq_some_iff.mp H
                            obtain ⟨t375, A280, H⟩ := H
                            replace H : (provisolaw05_FlowInside.l1 k3 t368 t363 (t363.length : Int) x55_3 t375 (t375.length : Int) 0) = some r := H
                            have A28 := Aside0.mk A280
                            clear A280
                            have H' := Aside0.mk H
                            clear H
                            have p372 : 0 ≤ (x55_3 : Int) := of_decide_eq_true (by first | (with_reducible assumption) | assumption)
                            have q372 : x55_3 < (t363.length : Int) := of_decide_eq_true (by first | (with_reducible assumption) | assumption)
                            obtain ⟨ad372, e372, hx372_0, hx372_1, hx372_2, hx372_3⟩ := at_T46 (Kd.R_reads' HO_53.out).2.2 x55_3 p372 q372
                            cases e372
                            replace p372 := eq_true p372
                            replace q372 := eq_true q372
                            go_wp2_with (first | ((with_reducible refine gate_dst (N := 10) rfl ?_); (try (refine gate_guard (by rfl) ?_; dsimp only)); refine box_event ?hg (N := 10) ?hd (cs := #[.int .i64 0, .int .u8 0, .int .i64 0, .int .i64 0]) (t := 46) ?hr ?_; (case hd => rfl); (case hg => rfl); (case hr => first | (go_simp; done) | (go_simp; rfl)); intro gb373 hg w29 hbox hb; have n0_ := Aside0.mk (Kd.R_below (by (with_reducible repeat (first | apply Kd.R_alloc | apply Kd.R_drewN | apply Kd.R_drew)); exact HO_8.out) hb); have n1_ := Aside0.mk (Kd.R_below (Kd.R_elderB (by (with_reducible repeat (first | apply Kd.R_alloc | apply Kd.R_drewN | apply Kd.R_drew)); exact HO_53.out) gb373 (Nat.le_of_eq hg.symm)) hb); have n2_ := Aside0.mk (below_step (by repeat (first | (with_reducible first | exact HB.out | apply below_alloc | apply pw_below_drewN | apply below_drew1) | exact HB.out)) hb); have n3_ := Aside0.mk (hbox); have n4_ := Aside0.mk ((by rw [hg]; exact (below_size (by repeat (first | (with_reducible first | exact HB.out | apply below_alloc | apply pw_below_drewN | apply below_drew1) | exact HB.out))) : w.heap.size ≤ gb373)); have n5_ := Aside0.mk ((by rw [hg]; exact (below_size (by repeat (first | (with_reducible first | exact HB.out | apply below_alloc | apply pw_below_drewN | apply below_drew1) | exact HB.out))) : w.heap.size ≤ gb373)); clear HO_8; clear HO_53; clear HB; have HO_8 := n0_; have HO_53 := n1_; have HB := n2_; have BK373 := n3_; have GW373 := n4_; have GE373 := n5_; clear n0_ n1_ n2_ n3_ n4_ n5_; clear hb hbox hg; have hcz30_0 : w29.cell? ⟨gb373, 0, none⟩ = some (.int .i64 0) := (blk_cell BK373.out 0).trans rfl; have hcz30_1 : w29.cell? ⟨gb373, 1, none⟩ = some (.int .u8 0) := (blk_cell BK373.out 1).trans rfl; have hcz30_2 : w29.cell? ⟨gb373, 2, none⟩ = some (.int .i64 0) := (blk_cell BK373.out 2).trans rfl; have hcz30_3 : w29.cell? ⟨gb373, 3, none⟩ = some (.int .i64 0) := (blk_cell BK373.out 3).trans rfl; have hfz30_0 := blk_frozen BK373.out 0; have hfz30_1 := blk_frozen BK373.out 1; have hfz30_2 := blk_frozen BK373.out 2; have hfz30_3 := blk_frozen BK373.out 3; obtain ⟨Ao31, co31, eo31⟩ := Kd.R_slice HO_8.out; subst eo31) | ((with_reducible refine gate_callee (f := 20) rfl ?_); refine goesL_ (some 62) rfl rfl Try.func20 (by kernel_rfl) rfl #[.slice Ao31 t368.length co31, .int .i64 ((rd_T46 t363 x55_3).f0)] rfl (by (try simp only [List.map_toArray, List.map_cons, List.map_nil]); first | done | rfl | (simp only [List.length_drop, List.length_take]; rfl)) ?_; (with_reducible refine (slices_Contains_int_int.calls k3 _ _ t368 ((rd_T46 t363 x55_3).f0) true _ ?side1 ?side2 A26.out).mono ?_); (case side1 => refine (Kd.R_reads' (e := 3) (base := w.heap.size) (ok := fun k_ => True) (n := t368.length) (c := co31) ?_).2.2; exact (by (with_reducible repeat (first | apply Kd.R_alloc | apply Kd.R_drewN | apply Kd.R_drew)); exact (Kd.R_mono (Kd.R_far (p := ⟨gb373, 3, none⟩) (Kd.R_far (p := ⟨gb373, 2, none⟩) (Kd.R_far (p := ⟨gb373, 1, none⟩) (Kd.R_far (p := ⟨gb373, 0, none⟩) (Kd.R_types HO_8.out BK373.out (by decide)) (fun _ hk => hk.2) (.int .i64 ((rd_T46 t363 x55_3).f0))) (fun _ hk => hk.2) (.int .u8 ((rd_T46 t363 x55_3).f1))) (fun _ hk => hk.2) (.int .i64 ((rd_T46 t363 x55_3).f2))) (fun _ hk => hk.2) (.int .i64 ((rd_T46 t363 x55_3).f3))) (fun _ h_ => h_.1)))); (case side2 => exact (Kd.R_reads' HO_8.out).2.1); rintro e w' ⟨rfl, ⟨nd, rfl⟩⟩; refine ⟨_, rfl, ?_⟩) | ((with_reducible refine gate_callee (f := 31) rfl ?_); refine goesL_ (some 65) rfl rfl Try.func31 (by kernel_rfl) rfl #[.agg #[.int .i64 ((rd_T46 t363 x55_3).f0), .int .u8 ((rd_T46 t363 x55_3).f1), .int .i64 ((rd_T46 t363 x55_3).f2), .int .i64 ((rd_T46 t363 x55_3).f3)]] rfl (by (try simp only [List.map_toArray, List.map_cons, List.map_nil]); first | done | rfl | (simp only [List.length_drop, List.length_take]; rfl)) ?_; (with_reducible refine (flow_Next.calls ((rd_T46 t363 x55_3).f0) ((rd_T46 t363 x55_3).f1) ((rd_T46 t363 x55_3).f2) ((rd_T46 t363 x55_3).f3) t375 _ A28.out).mono ?_); rintro e w32 ⟨v376, rfl, ho0, hb⟩; refine ⟨_, rfl, ?_⟩; have n0_ := Aside0.mk (Kd.R_elder' (by (with_reducible repeat (first | apply Kd.R_alloc | apply Kd.R_drewN | apply Kd.R_drew)); exact (Kd.R_mono (Kd.R_far (p := ⟨gb373, 3, none⟩) (Kd.R_far (p := ⟨gb373, 2, none⟩) (Kd.R_far (p := ⟨gb373, 1, none⟩) (Kd.R_far (p := ⟨gb373, 0, none⟩) (Kd.R_types HO_8.out BK373.out (by decide)) (fun _ hk => hk.2) (.int .i64 ((rd_T46 t363 x55_3).f0))) (fun _ hk => hk.2) (.int .u8 ((rd_T46 t363 x55_3).f1))) (fun _ hk => hk.2) (.int .i64 ((rd_T46 t363 x55_3).f2))) (fun _ hk => hk.2) (.int .i64 ((rd_T46 t363 x55_3).f3))) (fun _ h_ => h_.1))) (Kd.R_base ho0) hb); have n1_ := Aside0.mk (Kd.R_below (by (with_reducible repeat (first | apply Kd.R_alloc | apply Kd.R_drewN | apply Kd.R_drew)); exact (Kd.R_mono (Kd.R_far (p := ⟨gb373, 3, none⟩) (Kd.R_far (p := ⟨gb373, 2, none⟩) (Kd.R_far (p := ⟨gb373, 1, none⟩) (Kd.R_far (p := ⟨gb373, 0, none⟩) (Kd.R_mono HO_53.out (fun k_ hk => (⟨hk, hk.2⟩ : _ ∧ k_ ≠ gb373))) (fun _ hk => hk.2) (.int .i64 ((rd_T46 t363 x55_3).f0))) (fun _ hk => hk.2) (.int .u8 ((rd_T46 t363 x55_3).f1))) (fun _ hk => hk.2) (.int .i64 ((rd_T46 t363 x55_3).f2))) (fun _ hk => hk.2) (.int .i64 ((rd_T46 t363 x55_3).f3))) (fun _ h_ => h_.1))) hb); have n2_ := Aside0.mk (Kd.R_lower (Kd.R_new' ho0 (Kd.R_lt (by (with_reducible repeat (first | apply Kd.R_alloc | apply Kd.R_drewN | apply Kd.R_drew)); exact (Kd.R_mono (Kd.R_far (p := ⟨gb373, 3, none⟩) (Kd.R_far (p := ⟨gb373, 2, none⟩) (Kd.R_far (p := ⟨gb373, 1, none⟩) (Kd.R_far (p := ⟨gb373, 0, none⟩) (Kd.R_types HO_8.out BK373.out (by decide)) (fun _ hk => hk.2) (.int .i64 ((rd_T46 t363 x55_3).f0))) (fun _ hk => hk.2) (.int .u8 ((rd_T46 t363 x55_3).f1))) (fun _ hk => hk.2) (.int .i64 ((rd_T46 t363 x55_3).f2))) (fun _ hk => hk.2) (.int .i64 ((rd_T46 t363 x55_3).f3))) (fun _ h_ => h_.1))))) (below_size (by repeat (first | (with_reducible first | exact HB.out | apply below_alloc | apply pw_below_drewN | apply below_drew1 | refine below_set ?_ GE373.out) | exact HB.out)))); have n3_ := Aside0.mk (blk_below (g := gb373) (o := .cells #[.int .i64 ((rd_T46 t363 x55_3).f0), .int .u8 ((rd_T46 t363 x55_3).f1), .int .i64 ((rd_T46 t363 x55_3).f2), .int .i64 ((rd_T46 t363 x55_3).f3)] 46 (0, 0)) (by (with_reducible repeat (first | refine blk_drewN ?_ _ | refine blk_drew ?_ | refine blk_alloc ?_ _)); refine blk_put (cs := #[.int .i64 ((rd_T46 t363 x55_3).f0), .int .u8 ((rd_T46 t363 x55_3).f1), .int .i64 ((rd_T46 t363 x55_3).f2), .int .i64 0]) ?_ 3 _ rfl; (with_reducible repeat (first | refine blk_drewN ?_ _ | refine blk_drew ?_ | refine blk_alloc ?_ _)); refine blk_put (cs := #[.int .i64 ((rd_T46 t363 x55_3).f0), .int .u8 ((rd_T46 t363 x55_3).f1), .int .i64 0, .int .i64 0]) ?_ 2 _ rfl; (with_reducible repeat (first | refine blk_drewN ?_ _ | refine blk_drew ?_ | refine blk_alloc ?_ _)); refine blk_put (cs := #[.int .i64 ((rd_T46 t363 x55_3).f0), .int .u8 0, .int .i64 0, .int .i64 0]) ?_ 1 _ rfl; (with_reducible repeat (first | refine blk_drewN ?_ _ | refine blk_drew ?_ | refine blk_alloc ?_ _)); refine blk_put (cs := #[.int .i64 0, .int .u8 0, .int .i64 0, .int .i64 0]) ?_ 0 _ rfl; (with_reducible repeat (first | refine blk_drewN ?_ _ | refine blk_drew ?_ | refine blk_alloc ?_ _)); exact BK373.out) hb); have n4_ := Aside0.mk (below_step (by repeat (first | (with_reducible first | exact HB.out | apply below_alloc | apply pw_below_drewN | apply below_drew1 | refine below_set ?_ GE373.out) | exact HB.out)) hb); clear HO_8; clear HO_53; clear BK373; clear HB; have HO_8 := n0_; have HO_53 := n1_; have HO377 := n2_; have BK373 := n3_; have HB := n4_; clear n0_ n1_ n2_ n3_ n4_; (try clear hb); (try clear hb2); (try clear hk); (try clear hi); (try clear ho0); obtain ⟨Ao33, co33, eo33⟩ := Kd.R_slice HO377.out; subst eo33))
                            go_loopg [67] k3 (fun kq v67 w' => ∃ (x67_4 : Int), v67 = .int .i64 x67_4 ∧ Aside0 (provisolaw05_FlowInside.l1 kq t368 t363 (t363.length : Int) x55_3 t375 (t375.length : Int) x67_4 = some r) ∧ Aside0 (kq ≤ k3) ∧ Aside0 (Kd.R (Kd.int .i64) 3 w' w.heap.size (fun k_ => some k_ ≠ ((.slice Ao33 t375.length co33) : Value).ownBlock) (.slice Ao31 t368.length co31) t368) ∧ Aside0 (Kd.R k46 46 w' w.heap.size (fun k_ => k_ ≠ gb373) (.slice (some ad372) t363.length co16) t363) ∧ Aside0 (Kd.R (Kd.int .i64) 3 w' w.heap.size (fun k_ => some k_ ≠ ((.slice Ao31 t368.length co31) : Value).ownBlock) (.slice Ao33 t375.length co33) t375) ∧ Aside0 (w'.heap[gb373]? = some (.cells #[.int .i64 ((rd_T46 t363 x55_3).f0), .int .u8 ((rd_T46 t363 x55_3).f1), .int .i64 ((rd_T46 t363 x55_3).f2), .int .i64 ((rd_T46 t363 x55_3).f3)] 46 (0, 0))) ∧ Aside0 (Below w.heap.size w w'))
                            case atStart => exact ⟨(0), (by first | rfl | (simp; done) | (simp [*]; done)), H', ⟨Nat.le_refl _⟩, ⟨by (with_reducible repeat (first | apply Kd.R_alloc | apply Kd.R_drewN | apply Kd.R_drew)); exact Kd.R_mono HO_8.out (fun _ hk => hk.2)⟩, ⟨by (with_reducible repeat (first | apply Kd.R_alloc | apply Kd.R_drewN | apply Kd.R_drew)); exact Kd.R_mono HO_53.out (fun _ hk => hk.2)⟩, ⟨by (with_reducible repeat (first | apply Kd.R_alloc | apply Kd.R_drewN | apply Kd.R_drew)); exact Kd.R_mono HO377.out (fun _ hk => hk.2)⟩, ⟨by (with_reducible repeat (first | refine blk_drewN ?_ _ | refine blk_drew ?_ | refine blk_alloc ?_ _)); exact BK373.out⟩, ⟨by repeat (first | (with_reducible first | exact HB.out | apply below_alloc | apply pw_below_drewN | apply below_drew1 | refine below_set ?_ GE373.out) | exact HB.out)⟩⟩
                            case round =>
                              clear H'
                              try clear c1
                              try clear c2
                              try clear p2
                              try clear c3
                              try clear c3b0
                              try clear c3b1
                              try clear p3
                              try clear q3
                              try clear hx3
                              try clear qi3
                              try clear c4
                              try clear p6
                              try clear c11
                              try clear c11b0
                              try clear c11b1
                              try clear c13
                              try clear c18
                              try clear c18b0
                              try clear c18b1
                              try clear c18b2
                              try clear c20
                              try clear c20b0
                              try clear c20b1
                              try clear c22
                              try clear c23
                              try clear c23b0
                              try clear c24
                              try clear c24b0
                              try clear c25
                              try clear c25b0
                              try clear c26
                              try clear c27
                              try clear c29
                              try clear c31
                              try clear hcz30_0
                              try clear hcz30_1
                              try clear hcz30_2
                              try clear hcz30_3
                              try clear hfz30_0
                              try clear hfz30_1
                              try clear hfz30_2
                              try clear hfz30_3
                              try clear hx371_0
                              try clear hx372_0
                              try clear hx372_1
                              try clear hx372_2
                              try clear hx372_3
                              try clear p2
                              try clear p3
                              try clear p371
                              try clear p372
                              try clear q3
                              try clear q371
                              try clear q372
                              obtain ⟨x67_4, rfl, HA, HK4, HO_8, HO_53, HO_65, BK373, HB⟩ := hrel
                              cases gk with
                              | zero => exact absurd HA.out (by simp [provisolaw05_FlowInside.l1])
                              | succ k4 =>
                                have H := HA.out
                                clear HA
                                simp only [provisolaw05_FlowInside.l1] at H
                                by_cases c34 : x67_4 < (t375.length : Int)
                                · rw [if_pos c34] at H
                                  have c34b0 : decide (x67_4 < (t375.length : Int)) = true := decide_eq_true c34
                                  clear c34
                                  by_cases c35 : 0 ≤ x67_4
                                  · rw [if_pos c35] at H
                                    have c35b0 : decide (0 ≤ x67_4) = true := decide_eq_true c35
                                    clear c35
                                    by_cases c36 : x67_4 < (t375.length : Int)
                                    · rw [if_pos c36] at H
                                      have c36b0 : decide (x67_4 < (t375.length : Int)) = true := decide_eq_true c36
                                      clear c36
                                      replace H := Option.bind_eq_some_iff.mp H
                                      obtain ⟨t379, A370, H⟩ := H
                                      replace H : (if t379 = true then (provisolaw05_FlowInside.l1 k4 t368 t363 (t363.length : Int) x55_3 t375 (t375.length : Int) (wrap64 (x67_4 + 1))) else (some false)) = some r := H
                                      have A37 := Aside0.mk A370
                                      clear A370
                                      by_cases c38 : t379 = true
                                      · subst c38
                                        have H1 : (provisolaw05_FlowInside.l1 k4 t368 t363 (t363.length : Int) x55_3 t375 (t375.length : Int) (wrap64 (x67_4 + 1))) = some r := by rw [if_pos rfl] at H; exact H
                                        clear H
                                        have H := H1
                                        clear H1
                                        have H' := Aside0.mk H
                                        clear H
                                        have p378 : 0 ≤ (x67_4 : Int) := of_decide_eq_true (by first | (with_reducible assumption) | assumption)
                                        have q378 : x67_4 < (t375.length : Int) := of_decide_eq_true (by first | (with_reducible assumption) | assumption)
                                        obtain ⟨ad378, e378, hx378_0⟩ := Kd.at_int (Kd.R_reads' HO_65.out).2.2 x67_4 p378 q378
                                        cases e378
                                        replace p378 := eq_true p378
                                        replace q378 := eq_true q378
                                        go_wp2_with (first | ((with_reducible refine gate_callee (f := 20) rfl ?_); refine goesL_ (some 73) rfl rfl Try.func20 (by kernel_rfl) rfl #[.slice Ao31 t368.length co31, .int .i64 (rd t375 x67_4)] rfl (by (try simp only [List.map_toArray, List.map_cons, List.map_nil]); first | done | rfl | (simp only [List.length_drop, List.length_take]; rfl)) ?_; (with_reducible refine (slices_Contains_int_int.calls k4 _ _ t368 (rd t375 x67_4) true _ ?side1 ?side2 A37.out).mono ?_); (case side1 => repeat (first | exact (Kd.R_reads' HO_8.out).2.2 | (with_reducible refine Kd.C_alloc ?_ _) | (with_reducible refine Kd.C_drewN ?_ _) | (with_reducible refine Kd.C_drew ?_))); (case side2 => exact (Kd.R_reads' HO_8.out).2.1); rintro e w' ⟨rfl, ⟨nd, rfl⟩⟩; refine ⟨_, rfl, ?_⟩))
                                        go_roundg k4
                                        case measure => have := HJ5.out; have := HJ14.out; have := HK3.out; have := HK4.out; omega
                                        case rel => exact ⟨(wrap64 (x67_4 + 1)), (by first | rfl | (simp; done) | (simp [*]; done)), H', ⟨by have := HJ5.out; have := HJ14.out; have := HK3.out; have := HK4.out; omega⟩, ⟨by (with_reducible repeat (first | apply Kd.R_alloc | apply Kd.R_drewN | apply Kd.R_drew)); exact HO_8.out⟩, ⟨by (with_reducible repeat (first | apply Kd.R_alloc | apply Kd.R_drewN | apply Kd.R_drew)); exact HO_53.out⟩, ⟨by (with_reducible repeat (first | apply Kd.R_alloc | apply Kd.R_drewN | apply Kd.R_drew)); exact HO_65.out⟩, ⟨by (with_reducible repeat (first | refine blk_drewN ?_ _ | refine blk_drew ?_ | refine blk_alloc ?_ _)); exact BK373.out⟩, ⟨by repeat (first | (with_reducible first | exact HB.out | apply below_alloc | apply pw_below_drewN | apply below_drew1 | refine below_set ?_ GE373.out) | exact HB.out)⟩⟩
                                      · replace c38 := Bool.eq_false_iff.mpr c38
                                        subst c38
                                        have H1 : (some false) = some r := by rw [if_neg (show ¬ (false = true) by decide)] at H; exact H
                                        clear H
                                        have H := H1
                                        clear H1
                                        obtain rfl := Option.some.inj H
                                        have p378 : 0 ≤ (x67_4 : Int) := of_decide_eq_true (by first | (with_reducible assumption) | assumption)
                                        have q378 : x67_4 < (t375.length : Int) := of_decide_eq_true (by first | (with_reducible assumption) | assumption)
                                        obtain ⟨ad378, e378, hx378_0⟩ := Kd.at_int (Kd.R_reads' HO_65.out).2.2 x67_4 p378 q378
                                        cases e378
                                        replace p378 := eq_true p378
                                        replace q378 := eq_true q378
                                        go_wp2_with (first | ((with_reducible refine gate_callee (f := 20) rfl ?_); refine goesL_ (some 73) rfl rfl Try.func20 (by kernel_rfl) rfl #[.slice Ao31 t368.length co31, .int .i64 (rd t375 x67_4)] rfl (by (try simp only [List.map_toArray, List.map_cons, List.map_nil]); first | done | rfl | (simp only [List.length_drop, List.length_take]; rfl)) ?_; (with_reducible refine (slices_Contains_int_int.calls k4 _ _ t368 (rd t375 x67_4) false _ ?side1 ?side2 A37.out).mono ?_); (case side1 => repeat (first | exact (Kd.R_reads' HO_8.out).2.2 | (with_reducible refine Kd.C_alloc ?_ _) | (with_reducible refine Kd.C_drewN ?_ _) | (with_reducible refine Kd.C_drew ?_))); (case side2 => exact (Kd.R_reads' HO_8.out).2.1); rintro e w' ⟨rfl, ⟨nd, rfl⟩⟩; refine ⟨_, rfl, ?_⟩))
                                        go_ret
                                        exact ⟨by first | rfl | (simp [errW_none, errW_some] <;> rfl) | (simp [*, errW_none, errW_some] <;> rfl), by repeat (first | (with_reducible first | exact HB.out | apply below_alloc | apply pw_below_drewN | apply below_drew1 | refine below_set ?_ GE373.out) | exact HB.out)⟩
                                    · rw [if_neg c36] at H
                                      exact absurd H (by simp)
                                  · rw [if_neg c35] at H
                                    exact absurd H (by simp)
                                · rw [if_neg c34] at H
                                  have c34b0 : decide (x67_4 < (t375.length : Int)) = false := decide_eq_false c34
                                  clear c34
                                  have H' := Aside0.mk H
                                  clear H
                                  go_wp2
                                  go_roundg k4
                                  case measure => have := HJ5.out; have := HJ14.out; have := HK3.out; have := HK4.out; omega
                                  case rel => exact ⟨(wrap64 (x55_3 + 1)), (by first | rfl | (simp; done) | (simp [*]; done)), H', ⟨by have := HJ5.out; have := HJ14.out; have := HK3.out; have := HK4.out; omega⟩, ⟨by (with_reducible repeat (first | apply Kd.R_alloc | apply Kd.R_drewN | apply Kd.R_drew)); exact Kd.R_mono HO_8.out (fun _ hk => trivial)⟩, ⟨by (with_reducible repeat (first | apply Kd.R_alloc | apply Kd.R_drewN | apply Kd.R_drew)); exact Kd.R_mono HO_53.out (fun _ hk => trivial)⟩, ⟨by repeat (first | (with_reducible first | exact HB.out | apply below_alloc | apply pw_below_drewN | apply below_drew1 | refine below_set ?_ GE373.out) | exact HB.out)⟩⟩
                          · replace c27 := Bool.eq_false_iff.mpr c27
                            subst c27
                            have H1 : (provisolaw05_FlowInside.l0 k3 t368 t363 (t363.length : Int) (wrap64 (x55_3 + 1))) = some r := by rw [if_neg (show ¬ (false = true) by decide)] at H; exact H
                            clear H
                            have H := H1
                            clear H1
                            have H' := Aside0.mk H
                            clear H
                            have p372 : 0 ≤ (x55_3 : Int) := of_decide_eq_true (by first | (with_reducible assumption) | assumption)
                            have q372 : x55_3 < (t363.length : Int) := of_decide_eq_true (by first | (with_reducible assumption) | assumption)
                            obtain ⟨ad372, e372, hx372_0, hx372_1, hx372_2, hx372_3⟩ := at_T46 (Kd.R_reads' HO_53.out).2.2 x55_3 p372 q372
                            cases e372
                            replace p372 := eq_true p372
                            replace q372 := eq_true q372
                            go_wp2_with (first | ((with_reducible refine gate_dst (N := 10) rfl ?_); (try (refine gate_guard (by rfl) ?_; dsimp only)); refine box_event ?hg (N := 10) ?hd (cs := #[.int .i64 0, .int .u8 0, .int .i64 0, .int .i64 0]) (t := 46) ?hr ?_; (case hd => rfl); (case hg => rfl); (case hr => first | (go_simp; done) | (go_simp; rfl)); intro gb373 hg w39 hbox hb; have n0_ := Aside0.mk (Kd.R_below (by (with_reducible repeat (first | apply Kd.R_alloc | apply Kd.R_drewN | apply Kd.R_drew)); exact HO_8.out) hb); have n1_ := Aside0.mk (Kd.R_below (Kd.R_elderB (by (with_reducible repeat (first | apply Kd.R_alloc | apply Kd.R_drewN | apply Kd.R_drew)); exact HO_53.out) gb373 (Nat.le_of_eq hg.symm)) hb); have n2_ := Aside0.mk (below_step (by repeat (first | (with_reducible first | exact HB.out | apply below_alloc | apply pw_below_drewN | apply below_drew1) | exact HB.out)) hb); have n3_ := Aside0.mk (hbox); have n4_ := Aside0.mk ((by rw [hg]; exact (below_size (by repeat (first | (with_reducible first | exact HB.out | apply below_alloc | apply pw_below_drewN | apply below_drew1) | exact HB.out))) : w.heap.size ≤ gb373)); have n5_ := Aside0.mk ((by rw [hg]; exact (below_size (by repeat (first | (with_reducible first | exact HB.out | apply below_alloc | apply pw_below_drewN | apply below_drew1) | exact HB.out))) : w.heap.size ≤ gb373)); clear HO_8; clear HO_53; clear HB; have HO_8 := n0_; have HO_53 := n1_; have HB := n2_; have BK373 := n3_; have GW373 := n4_; have GE373 := n5_; clear n0_ n1_ n2_ n3_ n4_ n5_; clear hb hbox hg; have hcz40_0 : w39.cell? ⟨gb373, 0, none⟩ = some (.int .i64 0) := (blk_cell BK373.out 0).trans rfl; have hcz40_1 : w39.cell? ⟨gb373, 1, none⟩ = some (.int .u8 0) := (blk_cell BK373.out 1).trans rfl; have hcz40_2 : w39.cell? ⟨gb373, 2, none⟩ = some (.int .i64 0) := (blk_cell BK373.out 2).trans rfl; have hcz40_3 : w39.cell? ⟨gb373, 3, none⟩ = some (.int .i64 0) := (blk_cell BK373.out 3).trans rfl; have hfz40_0 := blk_frozen BK373.out 0; have hfz40_1 := blk_frozen BK373.out 1; have hfz40_2 := blk_frozen BK373.out 2; have hfz40_3 := blk_frozen BK373.out 3; obtain ⟨Ao41, co41, eo41⟩ := Kd.R_slice HO_8.out; subst eo41) | ((with_reducible refine gate_callee (f := 20) rfl ?_); refine goesL_ (some 62) rfl rfl Try.func20 (by kernel_rfl) rfl #[.slice Ao41 t368.length co41, .int .i64 ((rd_T46 t363 x55_3).f0)] rfl (by (try simp only [List.map_toArray, List.map_cons, List.map_nil]); first | done | rfl | (simp only [List.length_drop, List.length_take]; rfl)) ?_; (with_reducible refine (slices_Contains_int_int.calls k3 _ _ t368 ((rd_T46 t363 x55_3).f0) false _ ?side1 ?side2 A26.out).mono ?_); (case side1 => refine (Kd.R_reads' (e := 3) (base := w.heap.size) (ok := fun k_ => True) (n := t368.length) (c := co41) ?_).2.2; exact (by (with_reducible repeat (first | apply Kd.R_alloc | apply Kd.R_drewN | apply Kd.R_drew)); exact (Kd.R_mono (Kd.R_far (p := ⟨gb373, 3, none⟩) (Kd.R_far (p := ⟨gb373, 2, none⟩) (Kd.R_far (p := ⟨gb373, 1, none⟩) (Kd.R_far (p := ⟨gb373, 0, none⟩) (Kd.R_types HO_8.out BK373.out (by decide)) (fun _ hk => hk.2) (.int .i64 ((rd_T46 t363 x55_3).f0))) (fun _ hk => hk.2) (.int .u8 ((rd_T46 t363 x55_3).f1))) (fun _ hk => hk.2) (.int .i64 ((rd_T46 t363 x55_3).f2))) (fun _ hk => hk.2) (.int .i64 ((rd_T46 t363 x55_3).f3))) (fun _ h_ => h_.1)))); (case side2 => exact (Kd.R_reads' HO_8.out).2.1); rintro e w' ⟨rfl, ⟨nd, rfl⟩⟩; refine ⟨_, rfl, ?_⟩))
                            go_roundg k3
                            case measure => have := HJ5.out; have := HJ14.out; have := HK3.out; omega
                            case rel => exact ⟨(wrap64 (x55_3 + 1)), (by first | rfl | (simp; done) | (simp [*]; done)), H', ⟨by have := HJ5.out; have := HJ14.out; have := HK3.out; omega⟩, ⟨by (with_reducible repeat (first | apply Kd.R_alloc | apply Kd.R_drewN | apply Kd.R_drew)); exact Kd.R_mono (Kd.R_far (p := ⟨gb373, 3, none⟩) (Kd.R_far (p := ⟨gb373, 2, none⟩) (Kd.R_far (p := ⟨gb373, 1, none⟩) (Kd.R_far (p := ⟨gb373, 0, none⟩) (Kd.R_types HO_8.out BK373.out (by decide)) (fun _ hk => hk.2) (.int .i64 ((rd_T46 t363 x55_3).f0))) (fun _ hk => hk.2) (.int .u8 ((rd_T46 t363 x55_3).f1))) (fun _ hk => hk.2) (.int .i64 ((rd_T46 t363 x55_3).f2))) (fun _ hk => hk.2) (.int .i64 ((rd_T46 t363 x55_3).f3))) (fun _ hk => trivial)⟩, ⟨by (with_reducible repeat (first | apply Kd.R_alloc | apply Kd.R_drewN | apply Kd.R_drew)); exact Kd.R_mono (Kd.R_far (p := ⟨gb373, 3, none⟩) (Kd.R_far (p := ⟨gb373, 2, none⟩) (Kd.R_far (p := ⟨gb373, 1, none⟩) (Kd.R_far (p := ⟨gb373, 0, none⟩) (Kd.R_mono HO_53.out (fun k_ hk => (⟨hk, hk.2⟩ : _ ∧ k_ ≠ gb373))) (fun _ hk => hk.2) (.int .i64 ((rd_T46 t363 x55_3).f0))) (fun _ hk => hk.2) (.int .u8 ((rd_T46 t363 x55_3).f1))) (fun _ hk => hk.2) (.int .i64 ((rd_T46 t363 x55_3).f2))) (fun _ hk => hk.2) (.int .i64 ((rd_T46 t363 x55_3).f3))) (fun _ hk => trivial)⟩, ⟨by repeat (first | (with_reducible first | exact HB.out | apply below_alloc | apply pw_below_drewN | apply below_drew1 | refine below_set ?_ GE373.out) | exact HB.out)⟩⟩
                        · rw [if_neg c25] at H
                          exact absurd H (by simp)
                      · rw [if_neg c24] at H
                        exact absurd H (by simp)
                    · rw [if_neg c23] at H
                      have c23b0 : decide (x55_3 < (t363.length : Int)) = false := decide_eq_false c23
                      clear c23
                      obtain rfl := Option.some.inj H
                      go_wp2
                      go_ret
                      exact ⟨by first | rfl | (simp [errW_none, errW_some] <;> rfl) | (simp [*, errW_none, errW_some] <;> rfl), by repeat (first | (with_reducible first | exact HB.out | apply below_alloc | apply pw_below_drewN | apply below_drew1) | exact HB.out)⟩
  · rw [if_neg c3] at H
    have c3b0 : (t354 == 0) = false := beq_eq_false_iff_ne.mpr c3
    have c3b1 : (t354 != 0) = true := bne_iff_ne.mpr c3
    replace H := Option.bind_eq_some_iff.mp H
    obtain ⟨t355, A420, H⟩ := H
    replace H : ((flow_Check.f k t355).bind fun bt358 => (some (bt358.2 != 0))) = some r := H
    have A42 := Aside0.mk A420
    clear A420
    replace H := Option.bind_eq_some_iff.mp H
    obtain ⟨⟨t358, t359⟩, A430, H⟩ := H
    replace H : (some (t359 != 0)) = some r := H
    have A43 := Aside0.mk A430
    clear A430
    obtain rfl := Option.some.inj H
    go_enter Try.func11, Try.ntmps11
    go_wp2_with (first | ((with_reducible refine gate_callee (f := 29) rfl ?_); refine goesL_ (some 15) rfl rfl Try.func29 (by kernel_rfl) rfl #[.slice A0 l0.length c0] rfl (by (try simp only [List.map_toArray, List.map_cons, List.map_nil]); first | done | rfl | (simp only [List.length_drop, List.length_take]; rfl)) ?_; (with_reducible refine (provisoref05_Check.calls k _ _ l0 t353 t354 _ ?side1 ?side2 A2.out).mono ?_); (case side1 => repeat (first | exact HR0.out | (with_reducible refine Kd.C_alloc ?_ _) | (with_reducible refine Kd.C_drewN ?_ _) | (with_reducible refine Kd.C_drew ?_))); (case side2 => exact HC0.out); rintro e w44 ⟨rfl, hb⟩; refine ⟨_, rfl, ?_⟩; have n0_ := Aside0.mk (below_step (by repeat (first | (with_reducible first | exact HB.out | apply below_alloc | apply pw_below_drewN | apply below_drew1) | exact HB.out)) hb); clear HB; have HB := n0_; clear n0_; (try clear hb); (try clear hb2); (try clear hk); (try clear hi)) | ((with_reducible refine gate_callee (f := 40) rfl ?_); refine goesL_ (some 22) rfl rfl Try.func40 (by kernel_rfl) rfl #[.slice A0 l0.length c0] rfl (by (try simp only [List.map_toArray, List.map_cons, List.map_nil]); first | done | rfl | (simp only [List.length_drop, List.length_take]; rfl)) ?_; (with_reducible refine (slices_Clone_byte_byte.calls _ _ l0 t355 _ ?side1 ?side2 A42.out).mono ?_); (case side1 => repeat (first | exact (Kd.C_below HR0.out HB.out) | (with_reducible refine Kd.C_alloc ?_ _) | (with_reducible refine Kd.C_drewN ?_ _) | (with_reducible refine Kd.C_drew ?_))); (case side2 => exact HC0.out); rintro e w45 ⟨v356, rfl, ho0, hb⟩; refine ⟨_, rfl, ?_⟩; have n0_ := Aside0.mk (Kd.R_lower ho0 (below_size (by repeat (first | (with_reducible first | exact HB.out | apply below_alloc | apply pw_below_drewN | apply below_drew1) | exact HB.out)))); have n1_ := Aside0.mk (below_step (by repeat (first | (with_reducible first | exact HB.out | apply below_alloc | apply pw_below_drewN | apply below_drew1) | exact HB.out)) hb); clear HB; have HO357 := n0_; have HB := n1_; clear n0_ n1_; (try clear hb); (try clear hb2); (try clear hk); (try clear hi); (try clear ho0); obtain ⟨Ao46, co46, eo46⟩ := Kd.R_slice HO357.out; subst eo46) | ((with_reducible refine gate_callee (f := 28) rfl ?_); refine goesL_ (some 23) rfl rfl Try.func28 (by kernel_rfl) rfl #[.slice Ao46 t355.length co46] rfl (by (try simp only [List.map_toArray, List.map_cons, List.map_nil]); first | done | rfl | (simp only [List.length_drop, List.length_take]; rfl)) ?_; (with_reducible refine (flow_Check.calls k _ _ t355 t358 t359 _ ?side1 ?side2 A43.out).mono ?_); (case side1 => repeat (first | exact (Kd.R_reads' HO357.out).2.2 | (with_reducible refine Kd.C_alloc ?_ _) | (with_reducible refine Kd.C_drewN ?_ _) | (with_reducible refine Kd.C_drew ?_))); (case side2 => exact (Kd.R_reads' HO357.out).2.1); rintro e w47 ⟨rfl, hb⟩; refine ⟨_, rfl, ?_⟩; have n0_ := Aside0.mk (Kd.R_below (by (with_reducible repeat (first | apply Kd.R_alloc | apply Kd.R_drewN | apply Kd.R_drew)); exact HO357.out) hb); have n1_ := Aside0.mk (below_step (by repeat (first | (with_reducible first | exact HB.out | apply below_alloc | apply pw_below_drewN | apply below_drew1) | exact HB.out)) hb); clear HO357; clear HB; have HO357 := n0_; have HB := n1_; clear n0_ n1_; (try clear hb); (try clear hb2); (try clear hk); (try clear hi)))
    go_ret
    exact ⟨by first | rfl | (simp [errW_none, errW_some] <;> rfl) | (simp [*, errW_none, errW_some] <;> rfl), by repeat (first | (with_reducible first | exact HB.out | apply below_alloc | apply pw_below_drewN | apply below_drew1) | exact HB.out)⟩

end Go.Proofs.Ytcffniaieegbgaa.P

end

section
namespace Go.Proofs.Ytcffniaieegbgaa.P
open Go.RowKit Go.Proofs.YtcffniaieegbgaaW.PrintWords
def provisolaw05_FlowInside.PureR : Prop := ∀ (l0 : List (Int)), (fun l : List (Int) => l.length ≤ 9223372036854775807 ∧ l.length * 1 ≤ 140737488351232 ∧ ∀ x ∈ l, (fun n : Int => (Lit.int .u8 n).wf = true) x) l0 → ∃ k, provisolaw05_FlowInside.f k l0 = some true
end Go.Proofs.Ytcffniaieegbgaa.P

end

section
namespace Go.Proofs.Ytcffniaieegbgaa.Pure
open Go.RowKit Go.Proofs.Ytcffniaieegbgaa.P Go.Proofs.YtcffniaieegbgaaW.PrintWords
set_option linter.unusedSimpArgs false
set_option linter.unusedVariables false
theorem wrap_one {i n : Nat} (h : i < n) (hn : n ≤ 9223372036854775807) : wrap64 ((i : Int) + 1) = ((i + 1 : Nat) : Int) := by unfold wrap64; omega
theorem wide_is (k : Nat) (op : Int) : provisoref04_wide.f (k + 2) op = code_widths.f 3 op := by
  by_cases h1 : op = 1
  · subst h1; rfl
  by_cases h2 : op = 19
  · subst h2; rfl
  by_cases h3 : op = 20
  · subst h3; rfl
  by_cases h4 : op = 24
  · subst h4; rfl
  by_cases h5 : op = 25
  · subst h5; rfl
  by_cases h6 : op = 2
  · subst h6; rfl
  by_cases h7 : op = 4
  · subst h7; rfl
  by_cases h8 : op = 5
  · subst h8; rfl
  have e20 : (op == 20) = false := by rw [beq_eq_false_iff_ne]; exact h3
  have e25 : (op == 25) = false := by rw [beq_eq_false_iff_ne]; exact h5
  have e5 : (op == 5) = false := by rw [beq_eq_false_iff_ne]; exact h8
  simp only [provisoref04_wide.f, provisoref04_wide.j0, provisoref04_wide.j1, code_widths.f, code_widths.j0, code_widths.j1, code_widths.j2, if_neg h1, if_neg h2, if_neg h4, if_neg h6, if_neg h7, if_neg h8, e20, e25, e5, Bool.false_eq_true, if_false]
theorem rsize_is (k : Nat) (op : Int) : provisoref04_Size.f (k + 2) op = some (szOf op) := by
  have h := size_is 0 op
  rw [← h]
  unfold provisoref04_Size.f code_Size.f
  rw [wide_is k op]
theorem rsize_ev (op : Int) : Ev (fun k => provisoref04_Size.f k op) (szOf op) := ⟨2, fun k hk => by
  obtain ⟨m, rfl⟩ : ∃ m, k = m + 2 := ⟨k - 2, by omega⟩
  exact rsize_is m op⟩
theorem rjumps_is (op : Int) : provisoref04_Jumps.f op = some (jumpsB op) := jumps_is op
theorem rends_is (op : Int) : provisoref04_Ends.f op = some (endsB op) := ends_is op
theorem rplaced_is (a b c d : Int) : provisoref05_placed.f a b c d = some (placedB a) := placed_is a b c d
theorem drop_at {l : List Int} {i : Nat} (h : i < l.length) : l.drop i = rd l (i : Int) :: l.drop (i + 1) := by
  rw [List.drop_eq_getElem_cons h]
  congr 1
  show l[i] = l.getD (i : Int).toNat 0
  rw [Int.toNat_natCast, List.getD_eq_getElem?_getD, List.getElem?_eq_getElem h]
  rfl
theorem drop_atI {l : List S46} {i : Nat} (h : i < l.length) : l.drop i = rd_T46 l (i : Int) :: l.drop (i + 1) := by
  rw [List.drop_eq_getElem_cons h]
  congr 1
  show l[i] = l.getD (i : Int).toNat z46
  rw [Int.toNat_natCast, List.getD_eq_getElem?_getD, List.getElem?_eq_getElem h]
  rfl
theorem put_done (n : Int) (l : List Int) (hl : l.length ≤ 9223372036854775807) : ∀ (d i : Nat) (out : List Int), l.length - i = d → i ≤ l.length → out.length + d + 2 ≤ 17592186044416 → Ev (fun k => provisoref05_put.l0 k n out true l (l.length : Int) (i : Int)) (out ++ l.drop i)
  | 0, i, out, hd, hi, ho => by
    obtain rfl : i = l.length := by omega
    refine Ev.step (f := fun _ => some out) (fun k => ?_) (by rw [List.drop_length, List.append_nil]; exact Ev.now _)
    simp only [provisoref05_put.l0]
    rw [if_neg (by omega), if_pos True.intro]
  | d + 1, i, out, hd, hi, ho => by
    have h1 : i < l.length := by omega
    have ih := put_done n l hl d (i + 1) (out ++ [rd l (i : Int)]) (by omega) (by omega) (by simp; omega)
    rw [drop_at h1]
    rw [List.append_assoc, List.singleton_append] at ih
    refine Ev.step (f := fun k => provisoref05_put.j1 k n out true (rd l (i : Int)) l (l.length : Int) (i : Int) false) (fun k => ?_) (Ev.step (f := fun k => provisoref05_put.l0 k n (out ++ [rd l (i : Int)]) true l (l.length : Int) ((i + 1 : Nat) : Int)) (fun k => ?_) ih)
    · simp only [provisoref05_put.l0]
      rw [if_pos (by omega), if_pos (by omega), if_pos (by omega), if_pos True.intro]
    · simp only [provisoref05_put.j1]
      rw [if_neg (by decide), if_pos (by omega), wrap_one h1 hl]
theorem put_go (n : Int) (l : List Int) (hl : l.length ≤ 9223372036854775807) : ∀ (d i : Nat) (out : List Int), l.length - i = d → i ≤ l.length → out.length + d + 3 ≤ 17592186044416 → Ev (fun k => provisoref05_put.l0 k n out false l (l.length : Int) (i : Int)) (out ++ ins n (l.drop i))
  | 0, i, out, hd, hi, ho => by
    obtain rfl : i = l.length := by omega
    refine Ev.step (f := fun _ => some (out ++ [n])) (fun k => ?_) (by rw [List.drop_length]; exact Ev.now _)
    simp only [provisoref05_put.l0]
    rw [if_neg (by omega), if_neg (by decide), if_pos (by omega)]
  | d + 1, i, out, hd, hi, ho => by
    have h1 : i < l.length := by omega
    rw [drop_at h1]
    refine Ev.step (f := fun k => provisoref05_put.j1 k n out false (rd l (i : Int)) l (l.length : Int) (i : Int) (decide (n ≤ rd l (i : Int)))) (fun k => ?_) ?_
    · simp only [provisoref05_put.l0]
      rw [if_pos (by omega), if_pos (by omega), if_pos (by omega), if_neg (by decide)]
    by_cases h2 : n < rd l (i : Int)
    · have ih := put_done n l hl d (i + 1) (out ++ [n] ++ [rd l (i : Int)]) (by omega) (by omega) (by simp; omega)
      unfold ins
      rw [if_pos h2]
      rw [show (out ++ [n] ++ [rd l (i : Int)]) ++ l.drop (i + 1) = out ++ n :: rd l (i : Int) :: l.drop (i + 1) by simp] at ih
      refine Ev.step (f := fun k => provisoref05_put.l0 k n (out ++ [n] ++ [rd l (i : Int)]) true l (l.length : Int) ((i + 1 : Nat) : Int)) (fun k => ?_) ih
      simp only [provisoref05_put.j1]
      rw [if_pos (decide_eq_true (by omega)), if_pos h2, if_pos (by omega)]
      simp only [Option.bind_some]
      rw [if_pos (by simp; omega), wrap_one h1 hl]
    · unfold ins
      rw [if_neg h2]
      by_cases h3 : n = rd l (i : Int)
      · have ih := put_done n l hl d (i + 1) (out ++ [rd l (i : Int)]) (by omega) (by omega) (by simp; omega)
        rw [if_pos h3]
        rw [List.append_assoc, List.singleton_append] at ih
        refine Ev.step (f := fun k => provisoref05_put.l0 k n (out ++ [rd l (i : Int)]) true l (l.length : Int) ((i + 1 : Nat) : Int)) (fun k => ?_) ih
        simp only [provisoref05_put.j1]
        rw [if_pos (decide_eq_true (by omega)), if_neg h2, if_pos (by omega), wrap_one h1 hl]
      · have ih := put_go n l hl d (i + 1) (out ++ [rd l (i : Int)]) (by omega) (by omega) (by simp; omega)
        rw [if_neg h3]
        rw [List.append_assoc, List.singleton_append] at ih
        refine Ev.step (f := fun k => provisoref05_put.l0 k n (out ++ [rd l (i : Int)]) false l (l.length : Int) ((i + 1 : Nat) : Int)) (fun k => ?_) ih
        simp only [provisoref05_put.j1]
        rw [if_neg (fun h => by have := of_decide_eq_true h; omega), if_pos (by omega), wrap_one h1 hl]
theorem put_ev (n : Int) (l : List Int) (hl : l.length + 3 ≤ 17592186044416) : Ev (fun k => provisoref05_put.f k l n) (ins n l) := by
  have h := put_go n l (by omega) l.length 0 [] (by omega) (by omega) (by simp; omega)
  rw [List.drop_zero, List.nil_append] at h
  exact h
theorem ins_len (n : Int) : ∀ l : List Int, (ins n l).length ≤ l.length + 1
  | [] => by simp [ins]
  | x :: r => by
    unfold ins
    split
    · simp
    · split
      · simp
      · have := ins_len n r
        simp
        omega
theorem next_ev (x : S46) : Ev (fun k => provisoref05_Next.f k x.f0 x.f1 x.f2 x.f3) (nextL x) := by
  unfold nextL
  refine Ev.congr (f := fun k => (provisoref04_Size.f k x.f1).bind (fun t => if t = 0 then (provisoref05_Next.j0 k ([] : List Int) t true x.f0 x.f1 x.f2 x.f3) else ((provisoref05_placed.f x.f0 x.f1 x.f2 x.f3).bind fun t148 => (provisoref05_Next.j0 k ([] : List Int) t (!t148) x.f0 x.f1 x.f2 x.f3)))) (fun k => rfl) (Ev.bind (rsize_ev x.f1) ?_)
  by_cases h0 : szOf x.f1 = 0
  · simp only [h0, if_true]
    refine Ev.step (f := fun _ => some []) (fun k => ?_) (Ev.now _)
    simp only [provisoref05_Next.j0, if_true]
  · simp only [if_neg h0, rplaced_is, Option.bind_some]
    by_cases hp : placedB x.f0 = true
    · simp only [hp, if_true, Bool.not_true]
      have hz := szOf_range x.f1
      have hpl : 0 ≤ x.f0 ∧ x.f0 < 4096 := by unfold placedB at hp; simpa using hp
      have hw : wrap64 (x.f0 + szOf x.f1) = x.f0 + szOf x.f1 := by unfold wrap64; omega
      have hj : ∀ acc : List Int, acc.length ≤ 5 → Ev (fun k => provisoref05_Next.j1 k acc x.f0 x.f1 x.f2 x.f3) (if jumpsB x.f1 = true then ins x.f2 acc else acc) := fun acc ha => by
        by_cases hj : jumpsB x.f1 = true
        · rw [if_pos hj]
          refine Ev.step (f := fun k => (provisoref05_put.f k acc x.f2).bind (fun t => some t)) (fun k => ?_) (Ev.bind (put_ev x.f2 acc (by omega)) (Ev.now _))
          simp only [provisoref05_Next.j1, rjumps_is, Option.bind_some]
          rw [if_pos hj]
        · rw [if_neg hj]
          refine Ev.step (f := fun _ => some acc) (fun k => ?_) (Ev.now _)
          simp only [provisoref05_Next.j1, rjumps_is, Option.bind_some]
          rw [if_neg hj]
      by_cases he : endsB x.f1 = true
      · refine Ev.step (f := fun k => provisoref05_Next.j1 k [] x.f0 x.f1 x.f2 x.f3) (fun k => ?_) ?_
        · simp only [provisoref05_Next.j0, rends_is, Option.bind_some, Bool.false_eq_true, if_false]
          rw [if_pos he]
        · have h := hj [] (by simp)
          unfold nextKeys
          rw [if_pos he]
          split at h
          · rename_i hjj; rw [if_pos hjj]; exact h
          · rename_i hjj; rw [if_neg hjj]; exact h
      · refine Ev.step (f := fun k => (provisoref05_put.f k [] (x.f0 + szOf x.f1)).bind (fun t => provisoref05_Next.j1 k t x.f0 x.f1 x.f2 x.f3)) (fun k => ?_) ?_
        · simp only [provisoref05_Next.j0, rends_is, Option.bind_some, Bool.false_eq_true, if_false]
          rw [if_neg he, hw]
        · refine Ev.bind (put_ev _ [] (by simp)) ?_
          have h := hj (ins (x.f0 + szOf x.f1) []) (by simp [ins])
          unfold nextKeys
          rw [if_neg he]
          split at h
          · rename_i hjj; rw [if_pos hjj]; exact h
          · rename_i hjj; rw [if_neg hjj]; exact h
    · have hp' : placedB x.f0 = false := by simpa using hp
      simp only [hp', Bool.not_false, Bool.false_eq_true, if_false]
      refine Ev.step (f := fun _ => some []) (fun k => ?_) (Ev.now _)
      simp only [provisoref05_Next.j0, if_true]
theorem nextL_len (x : S46) : (nextL x).length ≤ 2 := by
  unfold nextL
  split
  · simp
  · split
    · unfold nextKeys srt
      have h1 := ins_len (x.f0 + szOf x.f1) []
      have h2 := ins_len x.f2 []
      have h3 := ins_len x.f2 (ins (x.f0 + szOf x.f1) [])
      split <;> split <;> simp at * <;> omega
    · simp
end Go.Proofs.Ytcffniaieegbgaa.Pure

end

section
namespace Go.Proofs.Ytcffniaieegbgaa.Pure
open Go.RowKit Go.Proofs.Ytcffniaieegbgaa.P Go.Proofs.YtcffniaieegbgaaW.PrintWords
set_option linter.unusedSimpArgs false
set_option linter.unusedVariables false
theorem nodup_len : ∀ (a m : List Int), a.Nodup → (∀ x ∈ a, x ∈ m) → a.length ≤ m.length
  | [], m, _, _ => by simp
  | x :: r, m, hn, hs => by
    have h1 := List.nodup_cons.1 hn
    have hx := hs x List.mem_cons_self
    have h2 : r.length ≤ (m.erase x).length := nodup_len r (m.erase x) h1.2 (fun y hy => by
      have hne : y ≠ x := fun e => h1.1 (e ▸ hy)
      exact (List.mem_erase_of_ne hne).2 (hs y (List.mem_cons_of_mem _ hy)))
    rw [List.length_erase_of_mem hx] at h2
    have : 0 < m.length := List.length_pos_of_mem hx
    simp
    omega
theorem firstAt_mem : ∀ (l : List S46) (j : Nat) (x v : Int), firstAt l j x = some v → x ∈ l.map (·.f0)
  | [], j, x, v, h => by cases h
  | y :: r, j, x, v, h => by
    unfold firstAt at h
    split at h
    · rename_i e; rw [← e]; simp
    · exact List.mem_map.2 (by
        obtain ⟨z, hz, e⟩ := List.mem_map.1 (firstAt_mem r (j + 1) x v h)
        exact ⟨z, List.mem_cons_of_mem _ hz, e⟩)
theorem firstAt_at : ∀ (l : List S46) (j i : Nat) (x : Int), firstAt l j x = some ((j + i : Nat) : Int) → i < l.length → (l.getD i z46).f0 = x
  | [], j, i, x, h, _ => by cases h
  | y :: r, j, i, x, h, hi => by
    unfold firstAt at h
    split at h
    · rename_i e
      have h9 := Option.some.inj h
      have : i = 0 := by omega
      subst this
      exact e
    · cases i with
      | zero =>
        obtain ⟨i', h1, h2⟩ := firstAt_lt r (j + 1) x _ h
        omega
      | succ i =>
        have h9 := firstAt_at r (j + 1) i x (by rw [h]; congr 2; omega) (by simpa using hi)
        simpa using h9
theorem firstAt_idx {l : List S46} {x v : Int} (h : firstAt l 0 x = some v) : ∃ i : Nat, v = (i : Int) ∧ i < l.length ∧ (rd_T46 l v).f0 = x := by
  obtain ⟨i, h1, h2⟩ := firstAt_lt l 0 x v h
  rw [Nat.zero_add] at h1
  subst h1
  refine ⟨i, rfl, h2, ?_⟩
  unfold rd_T46
  rw [Int.toNat_natCast]
  exact firstAt_at l 0 i x (by rw [Nat.zero_add]; exact h) h2
def nxA (l : List S46) (a : Int) : List Int := match firstAt l 0 a with | some i => nextL (rd_T46 l i) | none => []
inductive Rch (l : List S46) (a0 : Int) : Int → Prop
  | base : (firstAt l 0 a0).isSome = true → Rch l a0 a0
  | step {a b : Int} : Rch l a0 a → b ∈ nxA l a → (firstAt l 0 b).isSome = true → Rch l a0 b
theorem Rch.there {l : List S46} {a0 a : Int} (h : Rch l a0 a) : (firstAt l 0 a).isSome = true := by cases h <;> assumption
theorem Rch.le {l : List S46} {a0 : Int} {s : List Int} (hn : s.Nodup) (h : ∀ x ∈ s, Rch l a0 x) : s.length ≤ l.length := by
  have := nodup_len s (l.map (·.f0)) hn (fun x hx => by
    have h1 := (h x hx).there
    cases h2 : firstAt l 0 x with
    | none => rw [h2] at h1; cases h1
    | some v => exact firstAt_mem l 0 x v h2)
  simpa using this
theorem Rch.closed {l : List S46} {a0 : Int} {s : List Int} (h0 : (firstAt l 0 a0).isSome = true → a0 ∈ s) (hc : ∀ a ∈ s, ∀ b ∈ nxA l a, (firstAt l 0 b).isSome = true → b ∈ s) {a : Int} (h : Rch l a0 a) : a ∈ s := by
  induction h with
  | base h => exact h0 h
  | step _ hb hs ih => exact hc _ ih _ hb hs
theorem reach_go (l : List S46) (hl : l.length < 4398046511104) (a0 : Int) : ∀ (d : Nat) (st come : List Int), st.length + 3 * (l.length - come.length) ≤ d → st.length ≤ 1 + 2 * come.length → come.Nodup → (∀ x ∈ come, Rch l a0 x) → (∀ x ∈ st, (firstAt l 0 x).isSome = true → Rch l a0 x) → (∀ x ∈ come, ∀ b ∈ nxA l x, (firstAt l 0 b).isSome = true → b ∈ come ∨ b ∈ st) → ((firstAt l 0 a0).isSome = true → a0 ∈ come ∨ a0 ∈ st) →
    ∃ r, Ev (fun k => reachL k l st come) r ∧ r.Pairwise (· < ·) ∧ (∀ x, x ∈ r ↔ Rch l a0 x) := by
  intro d
  induction d using Nat.strongRecOn with
  | _ d ih =>
    intro st come hd hlen hn hc hs hcl h0
    have hcle := Rch.le hn hc
    rcases snoc_cases st with rfl | ⟨s, a, rfl⟩
    · refine ⟨srt come, Ev.step (f := fun _ => some (srt come)) (fun k => by rw [reachL_nil, if_pos (by omega)]) (Ev.now _), srt_strict _, fun x => ?_⟩
      rw [srt_mem]
      refine ⟨hc x, fun h => h.closed (s := come) (fun h9 => ?_) (fun a ha b hb hb2 => ?_)⟩
      · rcases h0 h9 with h | h
        · exact h
        · cases h
      · rcases hcl a ha b hb hb2 with h | h
        · exact h
        · cases h
    · simp only [List.length_append, List.length_singleton] at hd hlen
      cases hf : firstAt l 0 a with
      | none =>
        have hout : ∀ b, (firstAt l 0 b).isSome = true → b ∈ s ++ [a] → b ∈ s := fun b hb hm => by
          rcases List.mem_append.1 hm with h | h
          · exact h
          · rw [List.mem_singleton.1 h, hf] at hb; cases hb
        obtain ⟨r, h1, h2⟩ := ih (s.length + 3 * (l.length - come.length)) (by omega) s come (Nat.le_refl _) (by omega) hn hc (fun x hx => hs x (List.mem_append.2 (.inl hx)))
          (fun x hx b hb hb2 => (hcl x hx b hb hb2).imp id (hout b hb2)) (fun h9 => (h0 h9).imp id (hout _ h9))
        exact ⟨r, Ev.step (fun k => by rw [reachL_snoc, hf]) h1, h2⟩
      | some i =>
        by_cases hm : a ∈ come
        · have hout : ∀ b, b ∈ come ∨ b ∈ s ++ [a] → b ∈ come ∨ b ∈ s := fun b hb => by
            rcases hb with h | h
            · exact .inl h
            · rcases List.mem_append.1 h with h | h
              · exact .inr h
              · rw [List.mem_singleton.1 h]; exact .inl hm
          obtain ⟨r, h1, h2⟩ := ih (s.length + 3 * (l.length - come.length)) (by omega) s come (Nat.le_refl _) (by omega) hn hc (fun x hx => hs x (List.mem_append.2 (.inl hx)))
            (fun x hx b hb hb2 => hout b (hcl x hx b hb hb2)) (fun h9 => hout _ (h0 h9))
          exact ⟨r, Ev.step (fun k => by rw [reachL_snoc, hf]; simp only [if_pos hm]) h1, h2⟩
        · have hR : Rch l a0 a := hs a (by simp) (by rw [hf]; rfl)
          have hnl := nextL_len (rd_T46 l i)
          have hn2 : (come ++ [a]).Nodup := List.nodup_append.2 ⟨hn, by simp, fun x hx y hy => by
            rw [List.mem_singleton.1 hy]; exact fun e => hm (e ▸ hx)⟩
          have hc2 : ∀ x ∈ come ++ [a], Rch l a0 x := fun x hx => by
            rcases List.mem_append.1 hx with h | h
            · exact hc x h
            · rw [List.mem_singleton.1 h]; exact hR
          have hcle2 := Rch.le hn2 hc2
          simp only [List.length_append, List.length_singleton] at hcle2
          have hnx : nxA l a = nextL (rd_T46 l i) := by unfold nxA; rw [hf]
          obtain ⟨r, h1, h2⟩ := ih ((s ++ nextL (rd_T46 l i)).length + 3 * (l.length - (come ++ [a]).length)) (by simp only [List.length_append, List.length_singleton]; omega) (s ++ nextL (rd_T46 l i)) (come ++ [a]) (Nat.le_refl _) (by simp only [List.length_append, List.length_singleton]; omega) hn2 hc2
            (fun x hx hp => by
              rcases List.mem_append.1 hx with h | h
              · exact hs x (List.mem_append.2 (.inl h)) hp
              · exact Rch.step hR (by rw [hnx]; exact h) hp)
            (fun x hx b hb hb2 => by
              rcases List.mem_append.1 hx with h | h
              · rcases hcl x h b hb hb2 with h | h
                · exact .inl (List.mem_append.2 (.inl h))
                · rcases List.mem_append.1 h with h | h
                  · exact .inr (List.mem_append.2 (.inl h))
                  · exact .inl (List.mem_append.2 (.inr h))
              · rw [List.mem_singleton.1 h, hnx] at hb
                exact .inr (List.mem_append.2 (.inr hb)))
            (fun h9 => by
              rcases h0 h9 with h | h
              · exact .inl (List.mem_append.2 (.inl h))
              · rcases List.mem_append.1 h with h | h
                · exact .inr (List.mem_append.2 (.inl h))
                · exact .inl (List.mem_append.2 (.inr h)))
          refine ⟨r, Ev.step (fun k => ?_) h1, h2⟩
          rw [reachL_snoc, hf]
          simp only [if_neg hm]
          rw [if_pos (by simp only [List.length_append, List.length_singleton]; omega)]
theorem reach_ev (l : List S46) (hl : l.length < 4398046511104) (a0 : Int) (h1 : asOk l = true) (h2 : atsOk l = true) (h3 : okB a0 = true) : ∃ r, Ev (fun k => flow_Reach.f k l a0) r ∧ r.Pairwise (· < ·) ∧ (∀ x, x ∈ r ↔ Rch l a0 x) := by
  obtain ⟨r, h, hr⟩ := reach_go l hl a0 (1 + 3 * l.length) [a0] [] (by simp) (by simp) List.nodup_nil (fun x hx => by cases hx) (fun x hx hp => by rw [List.mem_singleton.1 hx] at hp ⊢; exact Rch.base hp) (fun x hx => by cases hx) (fun _ => .inr (by simp))
  refine ⟨r, Ev.congr (fun k => ?_) h, hr⟩
  unfold flow_Reach.f
  rw [if_pos hl, if_pos ⟨h1, h2, h3⟩]
end Go.Proofs.Ytcffniaieegbgaa.Pure

end

section
namespace Go.Proofs.Ytcffniaieegbgaa.Pure
open Go.RowKit Go.Proofs.Ytcffniaieegbgaa.P Go.Proofs.YtcffniaieegbgaaW.PrintWords
set_option linter.unusedSimpArgs false
set_option linter.unusedVariables false
def plc (l : List S46) (a : Int) : Int := (firstAt l 0 a).getD (-1)
theorem place_go (l : List S46) (hl : l.length ≤ 9223372036854775807) (a : Int) : ∀ (d i : Nat), l.length - i = d → i ≤ l.length → Ev (fun k => provisoref05_Place.l0 k a l (l.length : Int) (i : Int)) ((firstAt (l.drop i) i a).getD (-1))
  | 0, i, hd, hi => by
    obtain rfl : i = l.length := by omega
    refine Ev.step (f := fun _ => some (-1)) (fun k => ?_) (by rw [List.drop_length]; exact Ev.now _)
    simp only [provisoref05_Place.l0]
    rw [if_neg (by omega)]
  | d + 1, i, hd, hi => by
    have h1 : i < l.length := by omega
    rw [drop_atI h1]
    unfold firstAt
    by_cases h2 : (rd_T46 l (i : Int)).f0 = a
    · rw [if_pos h2]
      refine Ev.step (f := fun _ => some (i : Int)) (fun k => ?_) (Ev.now _)
      simp only [provisoref05_Place.l0]
      rw [if_pos (by omega), if_pos (by omega), if_pos (by omega), if_pos h2]
    · rw [if_neg h2]
      have ih := place_go l hl a d (i + 1) (by omega) (by omega)
      refine Ev.step (fun k => ?_) ih
      simp only [provisoref05_Place.l0]
      rw [if_pos (by omega), if_pos (by omega), if_pos (by omega), if_neg h2, wrap_one h1 hl]
theorem place_ev (l : List S46) (hl : l.length ≤ 9223372036854775807) (a : Int) : Ev (fun k => provisoref05_Place.f k l a) (plc l a) := by
  have h := place_go l hl a l.length 0 (by omega) (by omega)
  rw [List.drop_zero] at h
  exact h
def stepM (l : List S46) (s : List Bool × List Int) (b : Int) : List Bool × List Int := match firstAt l 0 b with
  | none => s
  | some j => if rdOf false s.1 j = true then s else (s.1.set j.toNat true, s.2 ++ [j])
theorem set_count : ∀ (m : List Bool) (j : Nat), j < m.length → m.getD j false = false → (m.set j true).count false + 1 = m.count false
  | [], j, h, _ => by simp at h
  | b :: m, 0, h, h2 => by
    have : b = false := h2
    subst this
    simp
  | b :: m, j + 1, h, h2 => by
    have ih := set_count m j (by simpa using h) (by simpa using h2)
    cases b <;> simp [List.set_cons_succ, List.count_cons] <;> omega
structure Inv (l : List S46) (a0 : Int) (met : List Bool) (op : List Int) : Prop where
  len : met.length = l.length
  inn : ∀ j ∈ op, ∃ i : Nat, j = (i : Int) ∧ i < l.length ∧ met.getD i false = true
  rch : ∀ i : Nat, met.getD i false = true → firstAt l 0 (l.getD i z46).f0 = some (i : Int) ∧ Rch l a0 (l.getD i z46).f0
def Marked (l : List S46) (met : List Bool) (b : Int) : Prop := ∃ i : Nat, firstAt l 0 b = some (i : Int) ∧ met.getD i false = true
theorem getD_set (m : List Bool) (j i : Nat) (hj : j < m.length) : (m.set j true).getD i false = if i = j then true else m.getD i false := by
  simp only [List.getD_eq_getElem?_getD, List.getElem?_set]
  by_cases e : j = i
  · subst e
    rw [if_pos rfl, if_pos hj, if_pos rfl]; rfl
  · rw [if_neg e, if_neg (Ne.symm e)]
theorem stepM_ok {l : List S46} {a0 : Int} {met : List Bool} {op : List Int} (h : Inv l a0 met op) {a : Int} (ha : Rch l a0 a) {b : Int} (hb : b ∈ nxA l a) :
    Inv l a0 (stepM l (met, op) b).1 (stepM l (met, op) b).2 ∧ (stepM l (met, op) b).2.length + (stepM l (met, op) b).1.count false = op.length + met.count false ∧ (∀ i : Nat, met.getD i false = true → (stepM l (met, op) b).1.getD i false = true) ∧ ((firstAt l 0 b).isSome = true → Marked l (stepM l (met, op) b).1 b) ∧ (∀ i : Nat, (stepM l (met, op) b).1.getD i false = true → met.getD i false = true ∨ (i : Int) ∈ (stepM l (met, op) b).2) ∧ (∀ j ∈ op, j ∈ (stepM l (met, op) b).2) := by
  unfold stepM
  cases hf : firstAt l 0 b with
  | none => exact ⟨h, rfl, fun _ h => h, (fun h => by cases h), fun _ h => .inl h, fun _ h => h⟩
  | some j =>
    obtain ⟨i, rfl, hi, he⟩ := firstAt_idx hf
    have hr : rdOf false met (i : Int) = met.getD i false := by unfold rdOf; rw [Int.toNat_natCast]
    simp only [hr, Int.toNat_natCast]
    by_cases hm : met.getD i false = true
    · rw [if_pos hm]
      exact ⟨h, rfl, fun _ h => h, fun _ => ⟨i, hf, hm⟩, fun _ h => .inl h, fun _ h => h⟩
    · rw [if_neg hm]
      have hml : i < met.length := by rw [h.len]; exact hi
      have hm' : met.getD i false = false := by simpa using hm
      have hg := fun x => getD_set met i x hml
      have hrch : Rch l a0 b := Rch.step ha hb (by rw [hf]; rfl)
      have he' : (l.getD i z46).f0 = b := by
        unfold rd_T46 at he
        rw [Int.toNat_natCast] at he
        exact he
      refine ⟨⟨by simp [h.len], fun j hj => ?_, fun x hx => ?_⟩, ?_, fun x hx => ?_, fun _ => ⟨i, hf, ?_⟩, fun x hx => ?_, fun j hj => List.mem_append.2 (.inl hj)⟩
      · rcases List.mem_append.1 hj with hj | hj
        · obtain ⟨x, h1, h2, h3⟩ := h.inn j hj
          exact ⟨x, h1, h2, by rw [hg]; split <;> first | rfl | exact h3⟩
        · exact ⟨i, List.mem_singleton.1 hj, hi, by rw [hg, if_pos rfl]⟩
      · rw [hg] at hx
        by_cases e : x = i
        · subst e
          rw [he']
          exact ⟨hf, hrch⟩
        · rw [if_neg e] at hx
          exact h.rch x hx
      · have := set_count met i hml hm'
        simp only [List.length_append, List.length_singleton]
        omega
      · rw [hg]; split <;> first | rfl | exact hx
      · rw [hg, if_pos rfl]
      · rw [hg] at hx
        by_cases e : x = i
        · subst e; exact .inr (by simp)
        · rw [if_neg e] at hx
          exact .inl hx
theorem fold_ok {l : List S46} {a0 : Int} {a : Int} (ha : Rch l a0 a) : ∀ (bs : List Int), (∀ b ∈ bs, b ∈ nxA l a) → ∀ (met : List Bool) (op : List Int), Inv l a0 met op →
    Inv l a0 (bs.foldl (stepM l) (met, op)).1 (bs.foldl (stepM l) (met, op)).2 ∧ (bs.foldl (stepM l) (met, op)).2.length + (bs.foldl (stepM l) (met, op)).1.count false = op.length + met.count false ∧ (∀ i : Nat, met.getD i false = true → (bs.foldl (stepM l) (met, op)).1.getD i false = true) ∧ (∀ b ∈ bs, (firstAt l 0 b).isSome = true → Marked l (bs.foldl (stepM l) (met, op)).1 b) ∧ (∀ i : Nat, (bs.foldl (stepM l) (met, op)).1.getD i false = true → met.getD i false = true ∨ (i : Int) ∈ (bs.foldl (stepM l) (met, op)).2) ∧ (∀ j ∈ op, j ∈ (bs.foldl (stepM l) (met, op)).2)
  | [], _, met, op, h => ⟨h, rfl, fun _ h => h, (fun b hb => by cases hb), fun _ h => .inl h, fun _ h => h⟩
  | b :: bs, hbs, met, op, h => by
    obtain ⟨i1, c1, k1, m1, w1, o1⟩ := stepM_ok h ha (hbs b List.mem_cons_self)
    obtain ⟨i2, c2, k2, m2, w2, o2⟩ := fold_ok ha bs (fun x hx => hbs x (List.mem_cons_of_mem _ hx)) (stepM l (met, op) b).1 (stepM l (met, op) b).2 i1
    rw [List.foldl_cons]
    refine ⟨i2, by rw [c2, c1], fun i hi => k2 i (k1 i hi), fun x hx hp => ?_, fun i hi => ?_, fun j hj => o2 j (o1 j hj)⟩
    · rcases List.mem_cons.1 hx with rfl | hx
      · obtain ⟨i, h1, h2⟩ := m1 hp
        exact ⟨i, h1, k2 i h2⟩
      · exact m2 x hx hp
    · rcases w2 i hi with h | h
      · rcases w1 i h with h | h
        · exact .inl h
        · exact .inr (o2 _ h)
      · exact .inr h
theorem inner_go (l : List S46) (hl : l.length < 4398046511104) (out bs : List Int) (hbl : bs.length ≤ 9223372036854775807) (r : List Int) : ∀ (d i : Nat) (met : List Bool) (op : List Int), bs.length - i = d → i ≤ bs.length → met.length = l.length → op.length + d ≤ 17592186044416 → Ev (fun k => provisoref05_Reach.l0 k l ((bs.drop i).foldl (stepM l) (met, op)).1 ((bs.drop i).foldl (stepM l) (met, op)).2 out) r → Ev (fun k => provisoref05_Reach.l1 k l met op out bs (bs.length : Int) (i : Int)) r
  | 0, i, met, op, hd, hi, hm, ho, h => by
    obtain rfl : i = bs.length := by omega
    rw [List.drop_length] at h
    refine Ev.step (fun k => ?_) h
    simp only [provisoref05_Reach.l1]
    rw [if_neg (by omega)]
    rfl
  | d + 1, i, met, op, hd, hi, hm, ho, h => by
    have h1 : i < bs.length := by omega
    rw [drop_at h1, List.foldl_cons] at h
    have hp := place_ev l (by omega) (rd bs (i : Int))
    refine Ev.step (f := fun k => (provisoref05_Place.f k l (rd bs (i : Int))).bind (fun t222 => (if t222 ≥ 0 then (if 0 ≤ t222 then (if t222 < (met.length : Int) then (if rdOf false met t222 = true then (provisoref05_Reach.l1 k l met op out bs (bs.length : Int) (wrap64 ((i : Int) + 1))) else (if op.length < 17592186044416 then (provisoref05_Reach.l1 k l (met.set (t222 : Int).toNat true) (op ++ [t222]) out bs (bs.length : Int) (wrap64 ((i : Int) + 1))) else (none))) else (none)) else (none)) else (provisoref05_Reach.l1 k l met op out bs (bs.length : Int) (wrap64 ((i : Int) + 1)))))) (fun k => ?_) (Ev.bind hp ?_)
    · simp only [provisoref05_Reach.l1]
      rw [if_pos (by omega), if_pos (by omega), if_pos (by omega)]
    · rw [wrap_one h1 hbl]
      unfold plc
      unfold stepM at h
      cases hf : firstAt l 0 (rd bs (i : Int)) with
      | none =>
        rw [hf] at h
        simp only [Option.getD_none]
        have ih := inner_go l hl out bs hbl r d (i + 1) met op (by omega) (by omega) hm (by omega) h
        refine Ev.congr (fun k => ?_) ih
        rw [if_neg (by omega)]
      | some j =>
        obtain ⟨jj, rfl, hj, _⟩ := firstAt_idx hf
        rw [hf] at h
        simp only [Option.getD_some]
        by_cases hm2 : rdOf false met (jj : Int) = true
        · simp only [if_pos hm2] at h
          have ih := inner_go l hl out bs hbl r d (i + 1) met op (by omega) (by omega) hm (by omega) h
          refine Ev.congr (fun k => ?_) ih
          rw [if_pos (by omega), if_pos (by omega), if_pos (by omega), if_pos hm2]
        · simp only [if_neg hm2] at h
          have ih := inner_go l hl out bs hbl r d (i + 1) (met.set (jj : Int).toNat true) (op ++ [(jj : Int)]) (by omega) (by omega) (by simp [hm]) (by simp; omega) h
          refine Ev.congr (fun k => ?_) ih
          rw [if_pos (by omega), if_pos (by omega), if_pos (by omega), if_neg hm2, if_pos (by omega)]
theorem strict_nodup {l : List Int} (h : l.Pairwise (· < ·)) : l.Nodup := h.imp (fun h => by omega)
theorem rreach_go (l : List S46) (hl : l.length < 4398046511104) (a0 : Int) : ∀ (d : Nat) (met : List Bool) (op out : List Int), op.length + met.count false = d → op.length + met.count false ≤ l.length → Inv l a0 met op → out.Pairwise (· < ·) → (∀ x ∈ out, Rch l a0 x) → (∀ x ∈ out, ∀ b ∈ nxA l x, (firstAt l 0 b).isSome = true → Marked l met b) → (∀ i : Nat, met.getD i false = true → (l.getD i z46).f0 ∈ out ∨ (i : Int) ∈ op) → ((firstAt l 0 a0).isSome = true → Marked l met a0) →
    ∃ r, Ev (fun k => provisoref05_Reach.l0 k l met op out) r ∧ r.Pairwise (· < ·) ∧ (∀ x, x ∈ r ↔ Rch l a0 x) := by
  intro d
  induction d with
  | zero =>
    intro met op out hd hlen hI hs hr hc hm h0
    have : op = [] := List.length_eq_zero_iff.1 (by omega)
    subst this
    refine ⟨out, Ev.step (f := fun _ => some out) (fun k => by simp only [provisoref05_Reach.l0]; rw [if_neg (by simp)]) (Ev.now _), hs, fun x => ⟨hr x, fun h => h.closed (s := out) (fun h9 => ?_) (fun a ha b hb hb2 => ?_)⟩⟩
    · obtain ⟨i, h1, h2⟩ := h0 h9
      rcases hm i h2 with h | h
      · obtain ⟨i', e1, _, e2⟩ := firstAt_idx h1
        have e1 : i = i' := by omega
        subst e1
        unfold rd_T46 at e2
        rw [Int.toNat_natCast] at e2
        rwa [e2] at h
      · cases h
    · obtain ⟨i, h1, h2⟩ := hc a ha b hb hb2
      rcases hm i h2 with h | h
      · obtain ⟨i', e1, _, e2⟩ := firstAt_idx h1
        have e1 : i = i' := by omega
        subst e1
        unfold rd_T46 at e2
        rw [Int.toNat_natCast] at e2
        rwa [e2] at h
      · cases h
  | succ d ih =>
    intro met op out hd hlen hI hs hr hc hm h0
    cases op with
    | nil =>
      refine ⟨out, Ev.step (f := fun _ => some out) (fun k => by simp only [provisoref05_Reach.l0]; rw [if_neg (by simp)]) (Ev.now _), hs, fun x => ⟨hr x, fun h => h.closed (s := out) (fun h9 => ?_) (fun a ha b hb hb2 => ?_)⟩⟩
      · obtain ⟨i, h1, h2⟩ := h0 h9
        rcases hm i h2 with h | h
        · obtain ⟨i', e1, _, e2⟩ := firstAt_idx h1
          have e1 : i = i' := by omega
          subst e1
          unfold rd_T46 at e2
          rw [Int.toNat_natCast] at e2
          rwa [e2] at h
        · cases h
      · obtain ⟨i, h1, h2⟩ := hc a ha b hb hb2
        rcases hm i h2 with h | h
        · obtain ⟨i', e1, _, e2⟩ := firstAt_idx h1
          have e1 : i = i' := by omega
          subst e1
          unfold rd_T46 at e2
          rw [Int.toNat_natCast] at e2
          rwa [e2] at h
        · cases h
    | cons j op =>
      obtain ⟨i, rfl, hi, hmi⟩ := hI.inn j List.mem_cons_self
      obtain ⟨hfi, hRi⟩ := hI.rch i hmi
      obtain ⟨x, hx⟩ : ∃ x, x = l.getD i z46 := ⟨_, rfl⟩
      have hxr : rd_T46 l (i : Int) = x := by rw [hx]; unfold rd_T46; rw [Int.toNat_natCast]
      rw [← hx] at hfi hRi
      have hnx : nxA l x.f0 = nextL x := by unfold nxA; rw [hfi]; simp only [hxr]
      have hnl := nextL_len x
      have hol := Rch.le (strict_nodup hs) hr
      simp only [List.length_cons] at hd hlen
      have hI2 : Inv l a0 met op := ⟨hI.len, fun j hj => hI.inn j (List.mem_cons_of_mem _ hj), hI.rch⟩
      obtain ⟨q1, q2, q3, q4, q5, q6⟩ := fold_ok hRi (nextL x) (fun b hb => by rw [hnx]; exact hb) met op hI2
      obtain ⟨r, h1, h2⟩ := ih ((nextL x).foldl (stepM l) (met, op)).1 ((nextL x).foldl (stepM l) (met, op)).2 (ins x.f0 out) (by omega) (by omega) q1 (ins_strict _ _ hs)
        (fun y hy => by
          rcases (ins_mem _ _ _).1 hy with rfl | h
          · exact hRi
          · exact hr y h)
        (fun y hy b hb hb2 => by
          rcases (ins_mem _ _ _).1 hy with rfl | h
          · exact q4 b (by rw [← hnx]; exact hb) hb2
          · obtain ⟨z, e1, e2⟩ := hc y h b hb hb2
            exact ⟨z, e1, q3 z e2⟩)
        (fun z hz => by
          rcases q5 z hz with h | h
          · rcases hm z h with h | h
            · exact .inl ((ins_mem _ _ _).2 (.inr h))
            · rcases List.mem_cons.1 h with h | h
              · have : z = i := by omega
                subst this
                rw [← hx]
                exact .inl ((ins_mem _ _ _).2 (.inl rfl))
              · exact .inr (q6 _ h)
          · exact .inr h)
        (fun h9 => by
          obtain ⟨z, e1, e2⟩ := h0 h9
          exact ⟨z, e1, q3 z e2⟩)
      refine ⟨r, ?_, h2⟩
      have hin := inner_go l hl (ins x.f0 out) (nextL x) (by omega) r (nextL x).length 0 met op (by omega) (by omega) hI.len (by omega) (by rw [List.drop_zero]; exact h1)
      refine Ev.step (f := fun k => (provisoref05_put.f k out x.f0).bind (fun t214 => ((provisoref05_Next.f k x.f0 x.f1 x.f2 x.f3).bind fun t218 => (provisoref05_Reach.l1 k l met op t214 t218 (t218.length : Int) 0)))) (fun k => ?_) (Ev.bind (put_ev _ _ (by omega)) (Ev.bind (next_ev x) hin))
      have hr0 : rd ((i : Int) :: op) 0 = (i : Int) := rfl
      simp only [provisoref05_Reach.l0, hr0, hxr]
      rw [if_pos (by simp only [List.length_cons]; omega), if_pos (by simp only [List.length_cons]; omega), if_pos (by simp only [List.length_cons]; omega), if_pos (by omega), if_pos (by omega)]
      rfl
theorem rreach_ev (l : List S46) (hl : l.length < 4398046511104) (a0 : Int) : ∃ r, Ev (fun k => provisoref05_Reach.f k l a0) r ∧ r.Pairwise (· < ·) ∧ (∀ x, x ∈ r ↔ Rch l a0 x) := by
  have hp := place_ev l (by omega) a0
  have hbeg : ∀ k, provisoref05_Reach.f k l a0 = (provisoref05_Place.f k l a0).bind fun t204 => (if t204 < 0 then (some ([] : List Int)) else (if 0 ≤ t204 then (if t204 < (l.length : Int) then (provisoref05_Reach.l0 k l ((List.replicate l.length false).set (t204 : Int).toNat true) (([t204] : List Int)) ([] : List Int)) else (none)) else (none))) := fun k => by
    unfold provisoref05_Reach.f
    rw [if_pos (by omega), if_pos (by omega)]
    simp only [Option.bind_some, Int.toNat_natCast, List.length_replicate]
  cases hf : firstAt l 0 a0 with
  | none =>
    refine ⟨[], Ev.congr hbeg (Ev.bind hp ?_), List.Pairwise.nil, fun x => ⟨fun h => (by cases h), fun h => ?_⟩⟩
    · unfold plc
      rw [hf]
      exact Ev.now _
    · have : ∀ x, Rch l a0 x → False := fun x h => by
        induction h with
        | base h => rw [hf] at h; cases h
        | step _ _ _ ih => exact ih
      exact (this x h).elim
  | some j =>
    obtain ⟨i, rfl, hi, he⟩ := firstAt_idx hf
    have he' : (l.getD i z46).f0 = a0 := by
      unfold rd_T46 at he
      rw [Int.toNat_natCast] at he
      exact he
    have hg : ∀ x, ((List.replicate l.length false).set i true).getD x false = if x = i then true else false := fun x => by
      rw [getD_set _ _ _ (by simpa using hi)]
      by_cases e : x = i
      · rw [if_pos e, if_pos e]
      · rw [if_neg e, if_neg e, List.getD_eq_getElem?_getD, List.getElem?_replicate]
        split <;> rfl
    have hcnt := set_count (List.replicate l.length false) i (by simpa using hi) (by rw [List.getD_eq_getElem?_getD, List.getElem?_replicate]; split <;> rfl)
    rw [List.count_replicate_self] at hcnt
    obtain ⟨r, h1, h2⟩ := rreach_go l hl a0 _ ((List.replicate l.length false).set i true) [(i : Int)] [] rfl (by simp only [List.length_singleton]; omega)
      ⟨by simp, fun j hj => ⟨i, List.mem_singleton.1 hj, hi, by rw [hg, if_pos rfl]⟩, fun x hx => by
        rw [hg] at hx
        by_cases e : x = i
        · subst e
          rw [he']
          exact ⟨hf, Rch.base (by rw [hf]; rfl)⟩
        · rw [if_neg e] at hx; cases hx⟩ List.Pairwise.nil (fun x hx => by cases hx) (fun x hx => by cases hx) (fun x hx => by
        rw [hg] at hx
        by_cases e : x = i
        · subst e; exact .inr (by simp)
        · rw [if_neg e] at hx; cases hx) (fun _ => ⟨i, hf, by rw [hg, if_pos rfl]⟩)
    refine ⟨r, Ev.congr hbeg (Ev.bind hp ?_), h2⟩
    unfold plc
    rw [hf]
    simp only [Option.getD_some]
    refine Ev.congr (fun k => ?_) h1
    rw [if_neg (by omega), if_pos (by omega), if_pos (by omega), Int.toNat_natCast]
theorem reach_same (l : List S46) (hl : l.length < 4398046511104) (a0 : Int) (h1 : asOk l = true) (h2 : atsOk l = true) (h3 : okB a0 = true) : ∃ r, Ev (fun k => flow_Reach.f k l a0) r ∧ Ev (fun k => provisoref05_Reach.f k l a0) r ∧ r.Pairwise (· < ·) ∧ (∀ x, x ∈ r ↔ Rch l a0 x) ∧ r.length ≤ l.length := by
  obtain ⟨r, e1, s1, m1⟩ := reach_ev l hl a0 h1 h2 h3
  obtain ⟨q, e2, s2, m2⟩ := rreach_ev l hl a0
  have e : q = r := strict_eq s2 s1 (fun y => by rw [m1, m2])
  subst e
  exact ⟨q, e1, e2, s1, m1, Rch.le (strict_nodup s1) (fun x hx => (m1 x).1 hx)⟩
end Go.Proofs.Ytcffniaieegbgaa.Pure

end

section
namespace Go.Proofs.Ytcffniaieegbgaa.Pure
open Go.RowKit Go.Proofs.Ytcffniaieegbgaa.P Go.Proofs.YtcffniaieegbgaaW.PrintWords
set_option linter.unusedSimpArgs false
set_option linter.unusedVariables false
theorem rd_mem {l : List Int} {i : Nat} (h : i < l.length) : rd l (i : Int) ∈ l := by
  have hr : rd l (i : Int) = l[i] := by simp [rd, List.getD_eq_getElem?_getD, h]
  rw [hr]; exact List.getElem_mem h
theorem take_go (l : List Int) (hb : ∀ x ∈ l, 0 ≤ x ∧ x ≤ 255) (wd : Nat) (h4 : wd ≤ 4) (hl : wd ≤ l.length) (hm : l.length ≤ 9223372036854775807) : ∀ (d i : Nat), wd - i = d → i ≤ wd → Ev (fun k => provisoref04_take.l0 k l (wd : Int) (numOf (l.take i)) (i : Int)) (opnd (l.take wd))
  | 0, i, hd, hi => by
    obtain rfl : i = wd := by omega
    have hlt : (l.take i).length = i := by rw [List.length_take]; omega
    have hs := num_small (l.take i) (fun x hx => hb x (List.mem_of_mem_take hx)) (by omega)
    refine Ev.step (f := fun _ => some (opnd (l.take i))) (fun k => ?_) (Ev.now _)
    simp only [provisoref04_take.l0]
    rw [if_neg (by omega)]
    unfold opnd
    rw [hlt]
    by_cases e : i = 4
    · rw [if_pos (by omega), if_pos e]
      split
      · congr 1
        unfold wrap64; omega
      · rfl
    · rw [if_neg (by omega), if_neg e]
  | d + 1, i, hd, hi => by
    have h1 : i < l.length := by omega
    have ih := take_go l hb wd h4 hl hm d (i + 1) (by omega) (by omega)
    have hs := num_small (l.take i) (fun x hx => hb x (List.mem_of_mem_take hx)) (by rw [List.length_take]; omega)
    have hx := hb _ (rd_mem h1)
    rw [num_take l i h1] at ih
    have hs2 : numOf (l.take i) < 16777216 := by
      have h9 := num_bound (l.take i) (fun x hx => hb x (List.mem_of_mem_take hx)) 0 (Int.le_refl _)
      rw [List.length_take, Nat.min_eq_left (by omega)] at h9
      have hp : (256 : Int) ^ i ≤ 16777216 := by
        have : i = 0 ∨ i = 1 ∨ i = 2 ∨ i = 3 := by omega
        rcases this with rfl | rfl | rfl | rfl <;> decide
      unfold numOf
      omega
    refine Ev.step (fun k => ?_) ih
    simp only [provisoref04_take.l0]
    rw [if_pos (by omega), if_pos (by omega), if_pos (by omega), wrap_one h1 hm]
    have e1 : wrap64 ((wrap64 (256 * numOf (l.take i))) + (wrap64 (rd l (i : Int)))) = numOf (l.take i) * 256 + rd l (i : Int) := by unfold wrap64; omega
    rw [e1]
theorem take_ev (l : List Int) (hb : ∀ x ∈ l, 0 ≤ x ∧ x ≤ 255) (wd : Nat) (h4 : wd ≤ 4) (hl : wd ≤ l.length) (hm : l.length ≤ 9223372036854775807) : Ev (fun k => provisoref04_take.f k l (wd : Int)) (opnd (l.take wd)) := by
  have h := take_go l hb wd h4 hl hm wd 0 (by omega) (by omega)
  exact h
theorem opnd_range (seg : List Int) (hb : ∀ x ∈ seg, 0 ≤ x ∧ x ≤ 255) (h4 : seg.length ≤ 4) : -2147483648 ≤ opnd seg ∧ opnd seg ≤ 4294967295 := by
  have := num_small seg hb h4
  unfold opnd
  split
  · split <;> omega
  · omega
theorem decW_nat (op : Int) : ∃ wa wb : Nat, (decW op).1 = (wa : Int) ∧ (decW op).2 = (wb : Int) ∧ wa ≤ 4 ∧ wb ≤ 1 := by
  have h := decW_range op
  generalize (decW op).1 = a at h ⊢
  generalize (decW op).2 = b at h ⊢
  exact ⟨a.toNat, b.toNat, by omega, by omega, by omega, by omega⟩
theorem dec_len (op : Int) (n i : Nat) (h0 : ¬ szOf op = 0) (h1 : ¬ (n : Int) - (i : Int) < szOf op) : ∃ wa wb : Nat, (decW op).1 = (wa : Int) ∧ (decW op).2 = (wb : Int) ∧ wa ≤ 4 ∧ wb ≤ 1 ∧ wa + wb + i + 1 ≤ n := by
  obtain ⟨wa, wb, hwa, hwb, hwa4, hwb1⟩ := decW_nat op
  have hsz : szOf op = if op ≥ 34 then 0 else 1 + (wa : Int) + (wb : Int) := by rw [szOf_is, hwa, hwb]
  refine ⟨wa, wb, hwa, hwb, hwa4, hwb1, ?_⟩
  clear hwa hwb
  generalize szOf op = s at h0 h1 hsz
  split at hsz
  · exact absurd hsz h0
  · omega
theorem decode_ev (l : List Int) (hb : ∀ x ∈ l, 0 ≤ x ∧ x ≤ 255) (hm : l.length ≤ 4096) (i : Nat) (hi : i < l.length) : Ev (fun k => provisoref04_Decode.f k l (i : Int)) (decL l i) := by
  unfold decL
  obtain ⟨op, hop⟩ : ∃ op, op = rd l (i : Int) := ⟨_, rfl⟩
  rw [← hop]
  have hbeg : ∀ k, provisoref04_Decode.f k l (i : Int) = provisoref04_Decode.j0 k l (i : Int) false 0 0 0 0 := fun k => by
    unfold provisoref04_Decode.f
    rw [if_neg (by omega), decide_eq_false (by omega)]
  refine Ev.congr hbeg ?_
  have hstep : ∀ k, provisoref04_Decode.j0 (k + 1) l (i : Int) false 0 0 0 0 = (provisoref04_Size.f k op).bind fun t107 => (if t107 = 0 then (some (0, 0, 0, 0, 40)) else (if ((l.length : Int) - (i : Int)) < t107 then (some (0, 0, 0, 0, 2)) else ((provisoref04_wide.f k op).bind fun bt108 => (if 0 ≤ ((i : Int) + 1) then (if ((i : Int) + 1) ≤ (l.length : Int) then ((provisoref04_take.f k (l.drop (i + 1)) bt108.1).bind fun t111 => (if 0 ≤ (wrap64 ((i : Int) + 1 + bt108.1)) then (if (wrap64 ((i : Int) + 1 + bt108.1)) ≤ (l.length : Int) then ((provisoref04_take.f k (l.drop ((wrap64 ((i : Int) + 1 + bt108.1)) : Int).toNat) bt108.2).bind fun t113 => (if op = 2 then (if t111 > 1 then (some (0, 0, 0, 0, 5)) else (some ((i : Int), op, t111, t113, 0))) else (some ((i : Int), op, t111, t113, 0)))) else (none)) else (none))) else (none)) else (none))))) := fun k => by
    simp only [provisoref04_Decode.j0]
    have e1 : wrap64 ((l.length : Int) - (i : Int)) = (l.length : Int) - (i : Int) := by unfold wrap64; omega
    have e2 : wrap64 ((i : Int) + 1) = (i : Int) + 1 := by unfold wrap64; omega
    rw [if_neg (by decide), if_neg (by omega), if_pos (by omega), if_pos (by omega), ← hop, e1, e2, show ((i : Int) + 1).toNat = i + 1 by omega]
  refine Ev.step hstep (Ev.bind (rsize_ev op) ?_)
  by_cases h0 : szOf op = 0
  · simp only [if_pos h0]
    exact Ev.now _
  simp only [if_neg h0]
  by_cases h1 : (l.length : Int) - (i : Int) < szOf op
  · simp only [if_pos h1]
    exact Ev.now _
  simp only [if_neg h1]
  obtain ⟨wa, wb, hwa, hwb, hwa4, hwb1, hlen⟩ := dec_len op l.length i h0 h1
  clear h1
  have hwide : Ev (fun k => provisoref04_wide.f k op) ((wa : Int), (wb : Int)) := ⟨2, fun k hk => by
    obtain ⟨m, rfl⟩ : ∃ m, k = m + 2 := ⟨k - 2, by omega⟩
    show provisoref04_wide.f (m + 2) op = _
    rw [wide_is, decW_is, hwa, hwb]⟩
  rw [hwa, hwb, Int.toNat_natCast, Int.toNat_natCast]
  refine Ev.bind hwide ?_
  have hbd : ∀ x ∈ l.drop (i + 1), 0 ≤ x ∧ x ≤ 255 := fun x hx => hb x (List.mem_of_mem_drop hx)
  have hta := take_ev (l.drop (i + 1)) hbd wa (by omega) (by rw [List.length_drop]; omega) (by rw [List.length_drop]; omega)
  have htb := take_ev ((l.drop (i + 1)).drop wa) (fun x hx => hbd x (List.mem_of_mem_drop hx)) wb (by omega) (by rw [List.length_drop, List.length_drop]; omega) (by rw [List.length_drop, List.length_drop]; omega)
  have e3 : wrap64 ((i : Int) + 1 + (wa : Int)) = ((i + 1 + wa : Nat) : Int) := by unfold wrap64; omega
  simp only [e3]
  refine Ev.congr (f := fun k => (provisoref04_take.f k (l.drop (i + 1)) (wa : Int)).bind fun t111 => ((provisoref04_take.f k ((l.drop (i + 1)).drop wa) (wb : Int)).bind fun t113 => (if op = 2 then (if t111 > 1 then (some (0, 0, 0, 0, 5)) else (some ((i : Int), op, t111, t113, 0))) else (some ((i : Int), op, t111, t113, 0))))) (fun k => ?_) (Ev.bind hta (Ev.bind htb ?_))
  · have c1 : (0 : Int) ≤ ((i + 1 + wa : Nat) : Int) := by omega
    have c2 : ((i + 1 + wa : Nat) : Int) ≤ (l.length : Int) := by omega
    rw [if_pos (by omega), if_pos (by omega)]
    simp only [if_pos c1, if_pos c2, Int.toNat_natCast, List.drop_drop]
  · by_cases h2 : op = 2
    · by_cases h3 : opnd ((l.drop (i + 1)).take wa) > 1
      · simp only [if_pos h2, if_pos h3, if_pos (And.intro h2 h3)]
        exact Ev.now _
      · simp only [if_pos h2, if_neg h3, if_neg (show ¬ (op = 2 ∧ opnd ((l.drop (i + 1)).take wa) > 1) from fun h => h3 h.2)]
        exact Ev.now _
    · simp only [if_neg h2, if_neg (show ¬ (op = 2 ∧ opnd ((l.drop (i + 1)).take wa) > 1) from fun h => h2 h.1)]
      exact Ev.now _
theorem pdecode_is (l : List Int) (hb : bytesOk l = true) (i : Nat) (hi : i < l.length) : code_Decode.f l (i : Int) = some (decL l i) := by
  unfold code_Decode.f
  rw [if_pos ⟨by omega, by omega, hb⟩, Int.toNat_natCast]
inductive Seq (l : List Int) : List S46 → Nat → Prop
  | nil : Seq l [] 0
  | snoc {acc : List S46} {i : Nat} {op a b : Int} : Seq l acc i → i < l.length → decL l i = ((i : Int), op, a, b, 0) → 1 ≤ szOf op → (i : Int) + szOf op ≤ (l.length : Int) → I64 a → Seq l (acc ++ [⟨(i : Int), op, a, b⟩]) (i + (szOf op).toNat)
theorem decL_ok {l : List Int} (hb : ∀ x ∈ l, 0 ≤ x ∧ x ≤ 255) {i : Nat} (hi : i < l.length) (h : (decL l i).2.2.2.2 = 0) : ∃ op a b, decL l i = ((i : Int), op, a, b, 0) ∧ 1 ≤ szOf op ∧ (i : Int) + szOf op ≤ (l.length : Int) ∧ I64 a := by
  have hbd : ∀ x ∈ l.drop (i + 1), 0 ≤ x ∧ x ≤ 255 := fun x hx => hb x (List.mem_of_mem_drop hx)
  obtain ⟨wa, wb, hwa, hwb, hwa4, hwb1⟩ := decW_nat (rd l (i : Int))
  have hge : 0 ≤ szOf (rd l (i : Int)) := (szOf_range _).1
  unfold decL at h ⊢
  by_cases h0 : szOf (rd l (i : Int)) = 0
  · rw [if_pos h0] at h
    simp at h
  rw [if_neg h0] at h ⊢
  by_cases h1 : (l.length : Int) - (i : Int) < szOf (rd l (i : Int))
  · rw [if_pos h1] at h
    simp at h
  rw [if_neg h1] at h ⊢
  split at h
  · simp at h
  · rename_i h2
    rw [if_neg h2]
    refine ⟨_, _, _, rfl, (by clear h h2 hwa hwb; generalize szOf (rd l (i : Int)) = s at *; omega), (by clear h h2 hwa hwb; generalize szOf (rd l (i : Int)) = s at *; omega), ?_⟩
    have := opnd_range ((l.drop (i + 1)).take (decW (rd l (i : Int))).1.toNat) (fun x hx => hbd x (List.mem_of_mem_take hx)) (by rw [List.length_take]; omega)
    constructor <;> omega
theorem Seq.le {l : List Int} {acc : List S46} {i : Nat} (h : Seq l acc i) : acc.length ≤ i ∧ i ≤ l.length := by
  induction h with
  | nil => simp
  | snoc _ h1 _ h2 h3 _ ih =>
    rw [List.length_append, List.length_singleton]
    omega
theorem scan_go (l : List Int) (hb : bytesOk l = true) (hm : l.length ≤ 4096) : ∀ (d i : Nat) (acc : List S46), l.length - i ≤ d → Seq l acc i → ∃ (ls : List S46) (a e : Int), Ev (fun k => flow_Scan.l0 k l acc (i : Int)) (ls, a, e) ∧ Ev (fun k => provisoref05_Scan.l0 k l acc (i : Int)) (ls, a, e) ∧ ((e = 0 ∧ a = 0 ∧ Seq l ls l.length) ∨ (e ≠ 0 ∧ ls = [] ∧ (l ≠ [] ∨ True))) := by
  intro d
  induction d with
  | zero =>
    intro i acc hd hs
    have := hs.le
    have e : i = l.length := by omega
    subst e
    refine ⟨acc, 0, 0, Ev.step (f := fun _ => some (acc, 0, 0)) (fun k => ?_) (Ev.now _), Ev.step (f := fun _ => some (acc, 0, 0)) (fun k => ?_) (Ev.now _), .inl ⟨rfl, rfl, hs⟩⟩
    · simp only [flow_Scan.l0]
      rw [if_neg (by omega)]
    · simp only [provisoref05_Scan.l0]
      rw [if_neg (by omega)]
  | succ d ih =>
    intro i acc hd hs
    have hle := hs.le
    by_cases hi : i < l.length
    · have hde := decode_ev l (bytesOk_is hb) hm i hi
      have hdp := pdecode_is l hb i hi
      by_cases h0 : (decL l i).2.2.2.2 = 0
      · obtain ⟨op, a, b, hd1, h1, h2, h3⟩ := decL_ok (bytesOk_is hb) hi h0
        have hz := szOf_range op
        have hs2 := Seq.snoc hs hi hd1 h1 h2 h3
        obtain ⟨ls, a9, e9, e1, e2, hr⟩ := ih (i + (szOf op).toNat) (acc ++ [⟨(i : Int), op, a, b⟩]) (by omega) hs2
        have hw : wrap64 ((i : Int) + szOf op) = ((i + (szOf op).toNat : Nat) : Int) := by unfold wrap64; omega
        refine ⟨ls, a9, e9, ?_, ?_, hr⟩
        · refine Ev.step (f := fun k => (code_Size.f k op).bind (fun t => flow_Scan.l0 k l (acc ++ [⟨(i : Int), op, a, b⟩]) (wrap64 ((i : Int) + t)))) (fun k => ?_) (Ev.bind ?_ (by rw [hw]; exact e1))
          · simp only [flow_Scan.l0]
            rw [if_pos (by omega), hdp, hd1]
            simp only [Option.bind_some, if_true]
            rw [if_pos (by omega)]
          · exact ⟨3, fun k hk => by
              obtain ⟨m, rfl⟩ : ∃ m, k = m + 3 := ⟨k - 3, by omega⟩
              exact size_is m op⟩
        · rw [hd1] at hde
          refine Ev.step (f := fun k => (provisoref04_Decode.f k l (i : Int)).bind (fun bt115 => (if bt115.2.2.2.2 = 0 then (if acc.length < 4398046511104 then ((provisoref04_Size.f k bt115.2.1).bind fun t124 => (provisoref05_Scan.l0 k l (acc ++ [(⟨bt115.1, bt115.2.1, bt115.2.2.1, bt115.2.2.2.1⟩ : S46)]) (wrap64 ((i : Int) + t124)))) else (none)) else (some (([] : List (S46)), (i : Int), bt115.2.2.2.2))))) (fun k => ?_) (Ev.bind hde ?_)
          · simp only [provisoref05_Scan.l0]
            rw [if_pos (by omega)]
          · simp only [if_true]
            refine Ev.congr (fun k => by rw [if_pos (by omega)]) (Ev.bind (rsize_ev op) (by rw [hw]; exact e2))
      · refine ⟨[], (i : Int), (decL l i).2.2.2.2, ?_, ?_, .inr ⟨h0, rfl, .inr trivial⟩⟩
        · refine Ev.step (f := fun _ => some ([], (i : Int), (decL l i).2.2.2.2)) (fun k => ?_) (Ev.now _)
          simp only [flow_Scan.l0]
          rw [if_pos (by omega), hdp]
          simp only [Option.bind_some]
          rw [if_neg h0]
        · refine Ev.step (f := fun k => (provisoref04_Decode.f k l (i : Int)).bind (fun bt115 => (if bt115.2.2.2.2 = 0 then (if acc.length < 4398046511104 then ((provisoref04_Size.f k bt115.2.1).bind fun t124 => (provisoref05_Scan.l0 k l (acc ++ [(⟨bt115.1, bt115.2.1, bt115.2.2.1, bt115.2.2.2.1⟩ : S46)]) (wrap64 ((i : Int) + t124)))) else (none)) else (some (([] : List (S46)), (i : Int), bt115.2.2.2.2))))) (fun k => ?_) (Ev.bind hde ?_)
          · simp only [provisoref05_Scan.l0]
            rw [if_pos (by omega)]
          · simp only [if_neg h0]
            exact Ev.now _
    · have e : i = l.length := by omega
      subst e
      refine ⟨acc, 0, 0, Ev.step (f := fun _ => some (acc, 0, 0)) (fun k => ?_) (Ev.now _), Ev.step (f := fun _ => some (acc, 0, 0)) (fun k => ?_) (Ev.now _), .inl ⟨rfl, rfl, hs⟩⟩
      · simp only [flow_Scan.l0]
        rw [if_neg (by omega)]
      · simp only [provisoref05_Scan.l0]
        rw [if_neg (by omega)]
theorem scan_ev (l : List Int) (hb : bytesOk l = true) : ∃ (ls : List S46) (a e : Int), Ev (fun k => flow_Scan.f k l) (ls, a, e) ∧ Ev (fun k => provisoref05_Scan.f k l) (ls, a, e) ∧ ((e = 0 ∧ a = 0 ∧ l.length ≤ 4096 ∧ Seq l ls l.length) ∨ (e ≠ 0 ∧ ls = [])) := by
  by_cases h : (l.length : Int) > 4096
  · refine ⟨[], 0, 4, Ev.congr (f := fun _ => some ([], 0, 4)) (fun k => ?_) (Ev.now _), Ev.congr (f := fun _ => some ([], 0, 4)) (fun k => ?_) (Ev.now _), .inr ⟨by decide, rfl⟩⟩
    · unfold flow_Scan.f; rw [if_pos h]
    · unfold provisoref05_Scan.f; rw [if_pos h]
  · obtain ⟨ls, a, e, e1, e2, hr⟩ := scan_go l hb (by omega) l.length 0 [] (by omega) Seq.nil
    refine ⟨ls, a, e, Ev.congr (fun k => ?_) e1, Ev.congr (fun k => ?_) e2, hr.imp (fun h9 => ⟨h9.1, h9.2.1, by omega, h9.2.2⟩) (fun h9 => ⟨h9.1, h9.2.1⟩)⟩
    · unfold flow_Scan.f; rw [if_neg h]; rfl
    · unfold provisoref05_Scan.f; rw [if_neg h]; rfl
theorem Seq.all {l : List Int} {acc : List S46} {i : Nat} (h : Seq l acc i) : ∀ x ∈ acc, 0 ≤ x.f0 ∧ x.f0 + szOf x.f1 ≤ (i : Int) ∧ 1 ≤ szOf x.f1 ∧ I64 x.f2 := by
  induction h with
  | nil => intro x hx; cases hx
  | @snoc acc i op a b h0 h1 hd h2 h3 h4 ih =>
    intro x hx
    rcases List.mem_append.1 hx with hx | hx
    · have := ih x hx
      exact ⟨this.1, by omega, this.2.2⟩
    · rw [List.mem_singleton.1 hx]
      exact ⟨(show (0 : Int) ≤ (i : Int) by omega), (show (i : Int) + szOf op ≤ ((i + (szOf op).toNat : Nat) : Int) by omega), h2, h4⟩
theorem Seq.ok {l : List Int} {acc : List S46} {i : Nat} (h : Seq l acc i) (hi : i ≤ 4096) : asOk acc = true ∧ atsOk acc = true := by
  constructor
  · refine List.all_eq_true.2 fun x hx => ?_
    obtain ⟨h1, h2, h3, h4⟩ := h.all x hx
    unfold I64 at h4
    simp [h4.1, h4.2]
  · refine List.all_eq_true.2 fun x hx => ?_
    obtain ⟨h1, h2, h3, h4⟩ := h.all x hx
    have hz := szOf_range x.f1
    simp
    omega
theorem Seq.next {l : List Int} {acc : List S46} {i : Nat} (h : Seq l acc i) : ∀ j : Nat, j < acc.length → (acc.getD j z46).f0 + szOf (acc.getD j z46).f1 = if j + 1 < acc.length then (acc.getD (j + 1) z46).f0 else (i : Int) := by
  induction h with
  | nil => intro j hj; simp at hj
  | @snoc acc i op a b h0 h1 _ h2 h3 h4 ih =>
    intro j hj
    rw [List.length_append, List.length_singleton] at hj ⊢
    have hz := szOf_range op
    simp only [List.getD_eq_getElem?_getD] at ih ⊢
    by_cases e : j = acc.length
    · subst e
      rw [if_neg (by omega)]
      simp
      omega
    · have hj' : j < acc.length := by omega
      rw [if_pos (by omega), List.getElem?_append_left hj', ih j hj']
      by_cases e2 : j + 1 < acc.length
      · rw [if_pos e2, List.getElem?_append_left e2]
      · have : j + 1 = acc.length := by omega
        rw [if_neg e2, this]
        simp
theorem Seq.zero {l : List Int} {acc : List S46} {i : Nat} (h : Seq l acc i) (h0 : acc = []) : i = 0 := by
  induction h with
  | nil => rfl
  | snoc => simp at h0
theorem Seq.first {l : List Int} {acc : List S46} {i : Nat} (h : Seq l acc i) (h0 : acc ≠ []) : (acc.getD 0 z46).f0 = 0 := by
  induction h with
  | nil => exact absurd rfl h0
  | @snoc acc i op a b h1 _ _ _ _ _ ih =>
    cases acc with
    | nil =>
      have hle := h1.zero rfl
      subst hle
      rfl
    | cons y r => exact ih (by simp)
end Go.Proofs.Ytcffniaieegbgaa.Pure

end

section
namespace Go.Proofs.Ytcffniaieegbgaa.Pure
open Go.RowKit Go.Proofs.Ytcffniaieegbgaa.P Go.Proofs.YtcffniaieegbgaaW.PrintWords
set_option linter.unusedSimpArgs false
set_option linter.unusedVariables false
theorem check_go (l : List S46) (hl : l.length < 4398046511104) : ∀ (d i : Nat), l.length - i = d → i ≤ l.length → Ev (fun k => provisoref05_Check.l0 k l l (l.length : Int) (i : Int)) (checkGo l (l.drop i))
  | 0, i, hd, hi => by
    obtain rfl : i = l.length := by omega
    rw [List.drop_length]
    unfold checkGo checkEnd
    by_cases h0 : l.length = 0
    · rw [if_pos h0]
      refine Ev.step (f := fun _ => some (0, 51)) (fun k => ?_) (Ev.now _)
      simp only [provisoref05_Check.l0]
      rw [if_neg (by omega), if_pos (by omega)]
    · rw [if_neg h0]
      have e1 : wrap64 ((l.length : Int) - 1) = ((l.length - 1 : Nat) : Int) := by unfold wrap64; omega
      refine Ev.step (f := fun _ => some (if endsB (rd_T46 l ((l.length - 1 : Nat) : Int)).f1 = true then (0, 0) else ((rd_T46 l ((l.length - 1 : Nat) : Int)).f0, 51))) (fun k => ?_) (Ev.now _)
      simp only [provisoref05_Check.l0]
      rw [if_neg (by omega), if_neg (by omega), e1, if_pos (by omega), if_pos (by omega), rends_is]
      simp only [Option.bind_some]
      split <;> rfl
  | d + 1, i, hd, hi => by
    have h1 : i < l.length := by omega
    have ih := check_go l hl d (i + 1) (by omega) (by omega)
    rw [drop_atI h1]
    obtain ⟨x, hx⟩ : ∃ x, x = rd_T46 l (i : Int) := ⟨_, rfl⟩
    rw [← hx]
    unfold checkGo
    cases hj : jumpsB x.f1 with
    | false =>
      rw [if_neg (by simp)]
      refine Ev.step (fun k => ?_) ih
      simp only [provisoref05_Check.l0]
      rw [if_pos (by omega), if_pos (by omega), if_pos (by omega), ← hx, rjumps_is, hj, wrap_one h1 (by omega)]
      simp only [Option.bind_some, Bool.false_eq_true, if_false]
    | true =>
      have hp := place_ev l (by omega) x.f2
      refine Ev.step (f := fun k => (provisoref05_Place.f k l x.f2).bind (fun t283 => (if t283 < 0 then (some (x.f0, 50)) else (provisoref05_Check.l0 k l l (l.length : Int) ((i + 1 : Nat) : Int))))) (fun k => ?_) (Ev.bind hp ?_)
      · simp only [provisoref05_Check.l0]
        rw [if_pos (by omega), if_pos (by omega), if_pos (by omega), ← hx, rjumps_is, hj, wrap_one h1 (by omega)]
        simp only [Option.bind_some, if_true]
      · unfold plc
        cases hf : firstAt l 0 x.f2 with
        | none =>
          simp only [Option.getD_none, Option.isSome_none, Bool.not_false, Bool.and_self, if_true]
          exact Ev.now _
        | some j =>
          obtain ⟨jj, rfl, hjj, _⟩ := firstAt_idx hf
          simp only [Option.getD_some, Option.isSome_some, Bool.not_true, Bool.and_false, Bool.false_eq_true, if_false]
          refine Ev.congr (fun k => ?_) ih
          rw [if_neg (by omega)]
theorem check_ev (l : List Int) (hb : bytesOk l = true) : ∃ (ls : List S46) (a e c1 c2 : Int), Ev (fun k => flow_Scan.f k l) (ls, a, e) ∧ Ev (fun k => provisoref05_Scan.f k l) (ls, a, e) ∧ Ev (fun k => flow_Check.f k l) (c1, c2) ∧ Ev (fun k => provisoref05_Check.f k l) (c1, c2) ∧ ls.length ≤ 4096 ∧ ((e = 0 ∧ a = 0 ∧ l.length ≤ 4096 ∧ Seq l ls l.length ∧ (c1, c2) = checkGo ls ls) ∨ (e ≠ 0 ∧ ls = [] ∧ c1 = a ∧ c2 = e)) := by
  obtain ⟨ls, a, e, e1, e2, hr⟩ := scan_ev l hb
  rcases hr with ⟨rfl, rfl, h3, h4⟩ | ⟨h1, rfl⟩
  · have hok := h4.ok h3
    have hle := h4.le
    refine ⟨ls, 0, 0, (checkGo ls ls).1, (checkGo ls ls).2, e1, e2, ?_, ?_, by omega, .inl ⟨rfl, rfl, h3, h4, rfl⟩⟩
    · refine Ev.congr (f := fun k => (flow_Scan.f k l).bind fun q => if q.2.2 = 0 then (if q.1.length < 4398046511104 ∧ asOk q.1 = true ∧ atsOk q.1 = true then some (checkGo q.1 q.1) else none) else some (q.2.1, q.2.2)) (fun k => rfl) (Ev.bind e1 ?_)
      simp only [if_true]
      rw [if_pos ⟨by omega, hok.1, hok.2⟩]
      exact Ev.now _
    · refine Ev.congr (f := fun k => (provisoref05_Scan.f k l).bind fun q => if q.2.2 = 0 then provisoref05_Check.l0 k q.1 q.1 (q.1.length : Int) 0 else some (q.2.1, q.2.2)) (fun k => rfl) (Ev.bind e2 ?_)
      simp only [if_true]
      have h := check_go ls (by omega) ls.length 0 (by omega) (by omega)
      rw [List.drop_zero] at h
      exact h
  · refine ⟨[], a, e, a, e, e1, e2, ?_, ?_, by simp, .inr ⟨h1, rfl, rfl, rfl⟩⟩
    · refine Ev.congr (f := fun k => (flow_Scan.f k l).bind fun q => if q.2.2 = 0 then (if q.1.length < 4398046511104 ∧ asOk q.1 = true ∧ atsOk q.1 = true then some (checkGo q.1 q.1) else none) else some (q.2.1, q.2.2)) (fun k => rfl) (Ev.bind e1 ?_)
      simp only [if_neg h1]
      exact Ev.now _
    · refine Ev.congr (f := fun k => (provisoref05_Scan.f k l).bind fun q => if q.2.2 = 0 then provisoref05_Check.l0 k q.1 q.1 (q.1.length : Int) 0 else some (q.2.1, q.2.2)) (fun k => rfl) (Ev.bind e2 ?_)
      simp only [if_neg h1]
      exact Ev.now _
theorem bytes_of {l : List Int} (h : ∀ x ∈ l, (Lit.int .u8 x).wf = true) : bytesOk l = true := by
  refine List.all_eq_true.2 fun x hx => ?_
  have := h x hx
  simp [Lit.wf, IntKind.min, IntKind.max, IntKind.signed, IntKind.bits] at this
  rw [decide_eq_true (by omega), decide_eq_true (by omega)]
  rfl
theorem index_go (l : List Int) (hl : l.length ≤ 9223372036854775807) (x : Int) : ∀ (d i : Nat), l.length - i = d → i ≤ l.length → ∃ r : Int, Ev (fun k => slices_Index_int_int.l0 k l x (l.length : Int) (i : Int)) r ∧ (0 ≤ r ↔ x ∈ l.drop i) ∧ r < (l.length : Int) ∧ (0 ≤ r → rd l r = x)
  | 0, i, hd, hi => by
    obtain rfl : i = l.length := by omega
    refine ⟨-1, Ev.step (f := fun _ => some (-1)) (fun k => ?_) (Ev.now _), ?_, by omega, fun h => by omega⟩
    · simp only [slices_Index_int_int.l0]
      rw [if_neg (by omega)]
    · rw [List.drop_length]
      exact ⟨fun h => by omega, fun h => by cases h⟩
  | d + 1, i, hd, hi => by
    have h1 : i < l.length := by omega
    rw [drop_at h1]
    by_cases h2 : x = rd l (i : Int)
    · refine ⟨(i : Int), Ev.step (f := fun _ => some (i : Int)) (fun k => ?_) (Ev.now _), ⟨fun _ => by rw [h2]; simp, fun _ => by omega⟩, by omega, fun _ => h2.symm⟩
      simp only [slices_Index_int_int.l0]
      rw [if_pos (by omega), if_pos (by omega), if_pos (by omega), if_pos h2]
    · obtain ⟨r, hr, hm, hb, hx⟩ := index_go l hl x d (i + 1) (by omega) (by omega)
      refine ⟨r, Ev.step (fun k => ?_) hr, ?_, hb, hx⟩
      · simp only [slices_Index_int_int.l0]
        rw [if_pos (by omega), if_pos (by omega), if_pos (by omega), if_neg h2, wrap_one h1 hl]
      · rw [hm, List.mem_cons]
        exact ⟨fun h => .inr h, fun h => h.resolve_left h2⟩
theorem index_ev (l : List Int) (hl : l.length ≤ 9223372036854775807) (x : Int) : ∃ r : Int, Ev (fun k => slices_Index_int_int.f k l x) r ∧ (0 ≤ r ↔ x ∈ l) ∧ r < (l.length : Int) ∧ (0 ≤ r → rd l r = x) := by
  have h := index_go l hl x l.length 0 (by omega) (by omega)
  rw [List.drop_zero] at h
  exact h
theorem contains_ev (l : List Int) (hl : l.length ≤ 9223372036854775807) (x : Int) : Ev (fun k => slices_Contains_int_int.f k l x) (decide (x ∈ l)) := by
  obtain ⟨r, h1, h2, _⟩ := index_ev l hl x
  refine Ev.congr (f := fun k => (slices_Index_int_int.f k l x).bind fun t => some (decide (t ≥ 0))) (fun k => rfl) (Ev.bind h1 ?_)
  have e : decide (r ≥ 0) = decide (x ∈ l) := by
    by_cases h : x ∈ l
    · rw [decide_eq_true h, decide_eq_true (h2.2 h)]
    · rw [decide_eq_false h, decide_eq_false (fun h9 => h (h2.1 h9))]
  simp only [e]
  exact Ev.now _
end Go.Proofs.Ytcffniaieegbgaa.Pure

end

section
namespace Go.Proofs.Ytcffniaieegbgaa.Pure
open Go.RowKit Go.Proofs.Ytcffniaieegbgaa.P Go.Proofs.YtcffniaieegbgaaW.PrintWords
set_option linter.unusedSimpArgs false
set_option linter.unusedVariables false
theorem firstAt_some : ∀ (l : List S46) (j : Nat) (x : Int), x ∈ l.map (·.f0) → (firstAt l j x).isSome = true
  | [], j, x, h => by cases h
  | y :: r, j, x, h => by
    unfold firstAt
    split
    · rfl
    · rename_i hne
      simp only [List.map_cons, List.mem_cons] at h
      exact firstAt_some r (j + 1) x (h.resolve_left (fun e => hne e.symm))
theorem getD_mem {l : List S46} {i : Nat} (h : i < l.length) : l.getD i z46 ∈ l := by
  rw [List.getD_eq_getElem?_getD, List.getElem?_eq_getElem h]
  exact List.getElem_mem h
theorem Seq.lt {l : List Int} {acc : List S46} {n : Nat} (h : Seq l acc n) : ∀ (d i : Nat), i + d + 1 < acc.length → (acc.getD i z46).f0 < (acc.getD (i + d + 1) z46).f0
  | 0, i, hi => by
    have h1 := h.next i (by omega)
    rw [if_pos (by omega)] at h1
    have h2 := (h.all _ (getD_mem (show i < acc.length by omega))).2.2.1
    show _ < (acc.getD (i + 1) z46).f0
    omega
  | d + 1, i, hi => by
    have ih := Seq.lt h d i (by omega)
    have h1 := h.next (i + d + 1) (by omega)
    rw [if_pos (by omega)] at h1
    have h2 := (h.all _ (getD_mem (show i + d + 1 < acc.length by omega))).2.2.1
    show _ < (acc.getD (i + d + 1 + 1) z46).f0
    omega
theorem Seq.inj {l : List Int} {acc : List S46} {n : Nat} (h : Seq l acc n) {i j : Nat} (hi : i < acc.length) (hj : j < acc.length) (he : (acc.getD i z46).f0 = (acc.getD j z46).f0) : i = j := by
  rcases Nat.lt_trichotomy i j with h1 | h1 | h1
  · have := h.lt (j - i - 1) i (by omega)
    rw [show i + (j - i - 1) + 1 = j by omega] at this
    omega
  · exact h1
  · have := h.lt (i - j - 1) j (by omega)
    rw [show j + (i - j - 1) + 1 = i by omega] at this
    omega
theorem Seq.place {l : List Int} {acc : List S46} {n : Nat} (h : Seq l acc n) {i : Nat} (hi : i < acc.length) : firstAt acc 0 (acc.getD i z46).f0 = some (i : Int) := by
  have h1 := firstAt_some acc 0 (acc.getD i z46).f0 (List.mem_map.2 ⟨_, getD_mem hi, rfl⟩)
  cases hf : firstAt acc 0 (acc.getD i z46).f0 with
  | none => rw [hf] at h1; cases h1
  | some v =>
    obtain ⟨j, rfl, hj, he⟩ := firstAt_idx hf
    unfold rd_T46 at he
    rw [Int.toNat_natCast] at he
    rw [h.inj hj hi he]
theorem checkGo_ok (l : List S46) : ∀ r : List S46, (checkGo l r).2 = 0 → (∀ x ∈ r, jumpsB x.f1 = true → (firstAt l 0 x.f2).isSome = true) ∧ (checkEnd l).2 = 0
  | [], h => ⟨(fun x hx => by cases hx), h⟩
  | y :: r, h => by
    unfold checkGo at h
    split at h
    · cases h
    · rename_i hn
      obtain ⟨h1, h2⟩ := checkGo_ok l r h
      refine ⟨fun x hx hj => ?_, h2⟩
      rcases List.mem_cons.1 hx with rfl | hx
      · cases hs : (firstAt l 0 x.f2).isSome
        · rw [hj, hs] at hn; exact absurd rfl hn
        · rfl
      · exact h1 x hx hj
theorem checkEnd_ok {l : List S46} (h : (checkEnd l).2 = 0) : 0 < l.length ∧ endsB (l.getD (l.length - 1) z46).f1 = true := by
  unfold checkEnd at h
  split at h
  · cases h
  · rename_i h0
    split at h
    · rename_i h1
      unfold rd_T46 at h1
      rw [Int.toNat_natCast] at h1
      exact ⟨by omega, h1⟩
    · cases h
theorem next_there {l : List Int} {acc : List S46} {n : Nat} (h : Seq l acc n) (hc : (checkGo acc acc).2 = 0) {i : Nat} (hi : i < acc.length) {b : Int} (hb : b ∈ nextL (acc.getD i z46)) : (firstAt acc 0 b).isSome = true := by
  obtain ⟨h1, h2⟩ := checkGo_ok acc acc hc
  obtain ⟨h3, h4⟩ := checkEnd_ok h2
  have hn := h.next i hi
  unfold nextL at hb
  split at hb
  · cases hb
  · split at hb
    · rw [srt_mem] at hb
      unfold nextKeys at hb
      rcases List.mem_append.1 hb with hb | hb
      · split at hb
        · cases hb
        · rename_i he
          rw [List.mem_singleton.1 hb]
          by_cases hl : i + 1 < acc.length
          · rw [if_pos hl] at hn
            rw [hn]
            exact firstAt_some _ _ _ (List.mem_map.2 ⟨_, getD_mem hl, rfl⟩)
          · rw [show acc.length - 1 = i by omega] at h4
            exact absurd h4 he
      · split at hb
        · rename_i hj
          rw [List.mem_singleton.1 hb]
          exact h1 _ (getD_mem hi) hj
        · cases hb
    · cases hb
end Go.Proofs.Ytcffniaieegbgaa.Pure

end

section
namespace Go.Proofs.Ytcffniaieegbgaa.Pure
open Go.RowKit Go.Proofs.Ytcffniaieegbgaa.P Go.Proofs.YtcffniaieegbgaaW.PrintWords
set_option linter.unusedSimpArgs false
theorem inside_l1 (r : List Int) (hr : r.length ≤ 4096) (ls : List S46) (m i : Int) (bs : List Int) (hbs : bs.length ≤ 9223372036854775807) (hall : ∀ b ∈ bs, b ∈ r) (hK : Ev (fun k => provisolaw05_FlowInside.l0 k r ls m (wrap64 (i + 1))) true) : ∀ (d j : Nat), bs.length - j = d → j ≤ bs.length → Ev (fun k => provisolaw05_FlowInside.l1 k r ls m i bs (bs.length : Int) (j : Int)) true
  | 0, j, hd, hj => by
    obtain rfl : j = bs.length := by omega
    refine Ev.step (fun k => ?_) hK
    simp only [provisolaw05_FlowInside.l1]
    rw [if_neg (by omega)]
  | d + 1, j, hd, hj => by
    have h1 : j < bs.length := by omega
    have ih := inside_l1 r hr ls m i bs hbs hall hK d (j + 1) (by omega) (by omega)
    refine Ev.step (f := fun k => (slices_Contains_int_int.f k r (rd bs (j : Int))).bind (fun t => if t = true then provisolaw05_FlowInside.l1 k r ls m i bs (bs.length : Int) ((j + 1 : Nat) : Int) else some false)) (fun k => ?_) (Ev.bind (contains_ev r (by omega) _) ?_)
    · simp only [provisolaw05_FlowInside.l1]
      rw [if_pos (by omega), if_pos (by omega), if_pos (by omega), wrap_one h1 hbs]
    · simp only [decide_eq_true (hall _ (rd_mem h1)), if_true]
      exact ih
theorem inside_l0 (r : List Int) (hr : r.length ≤ 4096) (ls : List S46) (hl : ls.length ≤ 4096) (hok : asOk ls = true) (hin : ∀ i : Nat, i < ls.length → (ls.getD i z46).f0 ∈ r → ∀ b ∈ nextL (ls.getD i z46), b ∈ r) : ∀ (d i : Nat), ls.length - i = d → i ≤ ls.length → Ev (fun k => provisolaw05_FlowInside.l0 k r ls (ls.length : Int) (i : Int)) true
  | 0, i, hd, hi => by
    obtain rfl : i = ls.length := by omega
    refine Ev.step (f := fun _ => some true) (fun k => ?_) (Ev.now _)
    simp only [provisolaw05_FlowInside.l0]
    rw [if_neg (by omega)]
  | d + 1, i, hd, hi => by
    have h1 : i < ls.length := by omega
    have ih := inside_l0 r hr ls hl hok hin d (i + 1) (by omega) (by omega)
    have hx : rd_T46 ls (i : Int) = ls.getD i z46 := by unfold rd_T46; rw [Int.toNat_natCast]
    have hin := hin i h1
    have hA := asOk_at hok h1
    rw [hx] at hA
    generalize ls.getD i z46 = x at hx hin hA
    have hn : flow_Next.f x.f0 x.f1 x.f2 x.f3 = some (nextL x) := by
      unfold flow_Next.f
      rw [if_pos (by unfold okB; rw [decide_eq_true hA.1, decide_eq_true hA.2]; rfl)]
    refine Ev.step (f := fun k => (slices_Contains_int_int.f k r x.f0).bind (fun t => if t = true then provisolaw05_FlowInside.l1 k r ls (ls.length : Int) (i : Int) (nextL x) ((nextL x).length : Int) 0 else provisolaw05_FlowInside.l0 k r ls (ls.length : Int) ((i + 1 : Nat) : Int))) (fun k => ?_) (Ev.bind (contains_ev r (by omega) _) ?_)
    · simp only [provisolaw05_FlowInside.l0]
      rw [if_pos (by omega), if_pos (by omega), if_pos (by omega), hx, wrap_one h1 (by omega), hn]
      simp only [Option.bind_some]
    · by_cases hm : x.f0 ∈ r
      · simp only [decide_eq_true hm, if_true]
        have hnl := nextL_len x
        exact inside_l1 r hr ls _ _ (nextL x) (by omega) (hin hm) (by rw [wrap_one h1 (by omega)]; exact ih) _ 0 rfl (by omega)
      · simp only [decide_eq_false hm, Bool.false_eq_true, if_false]
        exact ih
theorem FlowInside : provisolaw05_FlowInside.PureR := by
  intro l ⟨_, hl, hok⟩
  obtain ⟨ls, a, e, c1, c2, e1, e2, e3, e4, hlen, hr⟩ := check_ev l (bytes_of hok)
  have hcl : slices_Clone_byte_byte.f l = some l := by unfold slices_Clone_byte_byte.f; rw [if_pos (by omega)]
  suffices h : Ev (fun k => provisolaw05_FlowInside.f k l) true by
    obtain ⟨K, h⟩ := h
    exact ⟨K, h K (Nat.le_refl _)⟩
  refine Ev.congr (f := fun k => (provisoref05_Check.f k l).bind fun bt353 => (if bt353.2 = 0 then ((flow_Scan.f k l).bind fun bt363 => (if bt363.2.2 = 0 then (provisolaw05_FlowInside.j0 k bt363.1 ((bt363.1.length : Int) == 0)) else (provisolaw05_FlowInside.j0 k bt363.1 true))) else ((flow_Check.f k l).bind fun bt358 => (some (bt358.2 != 0))))) (fun k => ?_) (Ev.bind e4 ?_)
  · unfold provisolaw05_FlowInside.f
    rw [hcl]
    simp only [Option.bind_some]
  by_cases hc : c2 = 0
  case neg =>
    simp only [if_neg hc]
    refine Ev.bind e3 ?_
    have : (c2 != 0) = true := by simp [hc]
    simp only [this]
    exact Ev.now _
  simp only [if_pos hc]
  refine Ev.bind e1 ?_
  rcases hr with ⟨rfl, rfl, h4096, hs, hg⟩ | ⟨h1, _, _, h2⟩
  case inr => exact absurd (h2 ▸ hc) h1
  have hg2 : (checkGo ls ls).2 = 0 := by rw [← hg]; exact hc
  have hpos := (checkEnd_ok (checkGo_ok ls ls hg2).2).1
  have hok2 := hs.ok h4096
  have hlb : ((ls.length : Int) == 0) = false := by rw [beq_eq_false_iff_ne]; omega
  simp only [if_true, hlb]
  obtain ⟨r, r1, _, rs, rm, rl⟩ := reach_same ls (by omega) 0 hok2.1 hok2.2 (by decide)
  have hfirst := hs.first (by intro e; rw [e] at hpos; exact absurd hpos (by decide))
  have h0 : (0 : Int) ∈ r := (rm 0).2 (Rch.base (firstAt_some _ _ _ (List.mem_map.2 ⟨_, getD_mem hpos, hfirst⟩)))
  have hge : ∀ x ∈ r, 0 ≤ x := fun x hx => by
    have h1 := ((rm x).1 hx).there
    cases hf : firstAt ls 0 x with
    | none => rw [hf] at h1; cases h1
    | some v =>
      obtain ⟨y, hy, e⟩ := List.mem_map.1 (firstAt_mem ls 0 x v hf)
      rw [← e]
      exact (hs.all y hy).1
  have hrl : 0 < r.length := List.length_pos_of_mem h0
  have hr0 : rd r 0 = 0 := by
    cases r with
    | nil => cases h0
    | cons y q =>
      show y = 0
      rcases List.mem_cons.1 h0 with h | h
      · exact h.symm
      · have h3 := (List.pairwise_cons.1 rs).1 0 h
        have h4 := hge y List.mem_cons_self
        omega
  have hl0 := inside_l0 r (by omega) ls (by omega) hok2.1 (fun i hi hm b hb => (rm b).2 (Rch.step ((rm _).1 hm) (by unfold nxA; rw [hs.place hi]; simp only [rd_T46, Int.toNat_natCast]; exact hb) (next_there hs hg2 hi hb))) ls.length 0 (by omega) (by omega)
  refine Ev.step (f := fun k => (flow_Reach.f k ls 0).bind (fun t => (if (t.length : Int) = 0 then (provisolaw05_FlowInside.j1 k ls t true) else (if 0 < (t.length : Int) then (provisolaw05_FlowInside.j1 k ls t ((rd t 0) != 0)) else (none))))) (fun k => ?_) (Ev.bind r1 ?_)
  · simp only [provisolaw05_FlowInside.j0]
    rw [if_neg (by decide)]
  · have hb : (rd r 0 != 0) = false := by rw [hr0]; rfl
    refine Ev.congr (f := fun k => provisolaw05_FlowInside.j1 k ls r false) (fun k => by rw [if_neg (by omega), if_pos (by omega), hb]) (Ev.step (fun k => ?_) hl0)
    simp only [provisolaw05_FlowInside.j1]
    rw [if_neg (by decide)]
    rfl
end Go.Proofs.Ytcffniaieegbgaa.Pure

end

section
namespace Go.Proofs.Ytcffniaieegbgaa.flowInside
open Go.ChangeShapes Go.WideShapes Go.ChangeAt Go.RowKit Go.Proofs.YtcffniaieegbgaaW.PrintWords Go.Proofs.Ytcffniaieegbgaa.Sees Go.Proofs.Ytcffniaieegbgaa.P
open Go.ChangeMaps (open_string shut_string)
set_option linter.unusedVariables false
set_option linter.unusedSimpArgs false
theorem own : ownKnob Try.prog.godebug = none := by kernel_rfl
theorem laidOut : laidOutB Try.prog = true := by kernel_rfl
set_option maxRecDepth 100000 in
theorem lifted (os : Os) (started : os.Started) (H : Type) (enc : TypeId × Value → H) :
    ReturnsInHanded {} Try.checked os 11 .any (Rows.flowInsideSpec.pre6 enc Try.prog Try.f11 Rows.flowInsideRow.domain false) (Rows.flowInsideSpec.post enc Try.prog Try.f11 false true false false) := by
  refine returnsInHanded_of_change_sized (C := Try.checked) own started (by kernel_rfl) Try.func11
    (ChangeSpec.witness6 (enc := enc) (C := Try.checked) false ⟨#[], #[.slice none 0 0], []⟩ 8 (by kernel_rfl) (by kernel_rfl) (by kernel_rfl) (by kernel_rfl)) ?_
  intro W base args ds gs before hval0 hW hcnd hsz0 _
  have hsz : (DataW.weightsEach Try.prog (Try.f11.params.toList ++ Rows.flowInsideSpec.plain.varTypes Try.prog) (ds ++ gs)).all (· ≤ reachBytes) = true := hsz0
  have hval : ∀ (j : Nat) t v, Try.f11.params[j]? = some t → args[j]? = some v → Value.okWide Try.prog W .any base t v := hval0
  have hW' := hW
  obtain ⟨p, q, hA0, hV, rfl, hfz, hnd⟩ := hW
  have hA : DataW.TrodAll enc Try.prog W 0 (fun _ => true) true Try.f11.params.toList args.toList ds p := hA0
  rw [Try.params11] at hA hval hsz
  obtain ⟨v0, vs0, d0, ds0, p0, q0, hargs, rfl, rfl, h0, r0⟩ := trodAll_cons hA
  obtain ⟨rfl, rfl, rfl⟩ := trodAll_nil r0
  obtain rfl : args = #[v0] := by cases args; simp_all
  obtain ⟨rfl, rfl⟩ := trodVars_none hV
  have k0 := h0
  have lt0 : ∀ x ∈ p0, x.block < W.heap.size := by obtain ⟨m, hm⟩ := k0; exact DataW.trod_lt m _ _ _ hm
  obtain ⟨y0, hy0, oy0⟩ := see_arg (j := 0) (t := 22) (sees_slice (B := 1) Try.underlying22 (by kernel_rfl) (by kernel_rfl) (sees_int Try.underlying5)) hsz rfl rfl h0
  obtain ⟨a0, len0, cap0, rfl⟩ := okWide_slice Try.underlying22 (hval 0 22 v0 rfl rfl)
  obtain ⟨rfl, hc0, hr0⟩ := see_slice rfl hy0
  clear hA0 hval0 hsz0 hsz
  obtain ⟨k, hk⟩ := Pure.FlowInside y0 oy0
  refine (provisolaw05_FlowInside.calls k _ _ y0 true W hr0 hc0 hk).mono ?_
  rintro e W' ⟨rfl, bel0⟩
  have bel : Below W.heap.size W W' := bel0
  exact ⟨_, rfl, _, _, _, [], _, [], hW', trodAll_mk1 (shut_bool Try.underlying4 _), (trodAll_cons_mk (Below.trod laidOut (by kernel_rfl) (of_decide_eq_true (by kernel_rfl)) k0 bel lt0) trodAll_mk0), rfl, bel.frame _, fun h => by cases h⟩
theorem over : Rows.flowInsideRow.holds Try.pinned (OpenSpec.ofChange Rows.flowInsideSpec) :=
  OpenClaim.holds_of_wide 11 Try.f11 rfl rfl rfl rfl rfl rfl rfl ⟨rfl, rfl, rfl, rfl, rfl⟩ rfl rfl rfl rfl rfl (by kernel_rfl) Try.func11 (by kernel_rfl)
    (of_decide_eq_true (by kernel_rfl)) (by unfold Func.isWrapper; first | (rw [if_pos (by decide +kernel)]; kernel_rfl) | (rw [if_neg (by decide +kernel)]; exact ⟨rfl, rfl⟩))
    (fun os started H enc _ => lifted os started H enc)
theorem proved : Rows.FlowInsideSaid := over
end Go.Proofs.Ytcffniaieegbgaa.flowInside
namespace Go.Proofs.Ytcffniaieegbgaa
theorem flowInside_holds : Rows.FlowInsideSaid := flowInside.proved
end Go.Proofs.Ytcffniaieegbgaa

end

