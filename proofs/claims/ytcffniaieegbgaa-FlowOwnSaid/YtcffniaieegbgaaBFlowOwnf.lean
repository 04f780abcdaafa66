/- Proved: the law FlowOwn holds for every input that the row lets in. No condition of ours. -/
import Derived.Test.YtcffniaieegbgaaBFlowOwne
section
namespace Go.Proofs.Ytcffniaieegbgaa.P
open Go.RowKit Go.Proofs.YtcffniaieegbgaaW.PrintWords Go.Proofs.YtcffniaieegbgaaW.PrintLast Go.Proofs.YtcffniaieegbgaaW.PrintMore
attribute [local go_sem] max2_int min2_int max_two min_two max_three min_three max_four min_four   -- for this text's walks alone
set_option linter.unusedVariables false
set_option linter.unusedSimpArgs false

set_option maxHeartbeats 1600000 in
set_option maxRecDepth 100000 in
theorem flow_Targets.calls (A0 : Option Addr) (c0 : Nat) (l0 : List S46) (r : List Int) (w : World) (hr0 : Kd.C k46 w A0 l0.length l0) (hc0 : l0.length ≤ c0) (h : flow_Targets.f l0 = some r) :
    Calls Try.prog 34 #[.slice A0 l0.length c0] w fun e w' => ∃ v0_ : Value, e = .returned (v0_) ∧ Kd.R (Kd.int .i64) 3 w' w.heap.size (fun _ => True) v0_ r ∧ Below w.heap.size w w' := by
  unfold flow_Targets.f at h
  by_cases hlen : l0.length < 4398046511104
  case neg => rw [if_neg hlen] at h; cases h
  rw [if_pos hlen] at h
  by_cases hok : asOk l0 = true
  case neg => rw [if_neg hok] at h; cases h
  rw [if_pos hok] at h
  have H := Aside0.mk (Option.some.inj h).symm
  have HR := Aside0.mk hr0
  have HO := Aside0.mk hok
  have HL := Aside0.mk hlen
  have HM := Aside0.mk (Rws.nil w)
  clear hr0 hok h hc0
  go_enter Try.func34, Try.ntmps34
  go_wp2_with (first | ((with_reducible refine gate_dst (N := 6) rfl ?_); refine mp_make rfl rfl HM.out ?_; intro B w_ hM; replace HM := Aside0.mk hM; clear hM))
  go_loopw [9] (fun v9 wr => ∃ (i : Nat), v9 = .int .i64 (i : Int) ∧ i ≤ l0.length ∧ Aside0 (Mp w B i (mark (tgts (l0.take i))) [] wr)) (fun v9 _ => ((l0.length : Int) - intOf v9).toNat)
  case atStart => exact ⟨0, rfl, Nat.zero_le _, ⟨mark_nil ▸ HM.out⟩⟩
  case round =>
    rename_i wr
    clear HM
    obtain ⟨i, rfl, hi, HM⟩ := hrel
    by_cases c1 : i < l0.length
    · obtain ⟨x, hx⟩ : ∃ x, x = rd_T46 l0 (i : Int) := ⟨_, rfl⟩
      obtain ⟨ad, e1, hx0, hx1, hx2, hx3⟩ := at_I HR.out HM.out.below c1 hx
      cases e1
      have HX := Aside0.mk hx
      have HI : Aside0 (i < l0.length) := ⟨c1⟩
      have c1b : decide ((i : Int) < (l0.length : Int)) = true := decide_eq_true (by omega)
      have p5 : (0 ≤ (i : Int)) = True := eq_true (by omega)
      have p6 : ((i : Int) < (l0.length : Int)) = True := eq_true (by omega)
      clear hx
      have hk : I64 x.f2 := by have := asOk_at HO.out c1; rw [← HX.out] at this; exact this
      have HK := Aside0.mk hk
      have hs := take_snoc c1 z46
      have hs : l0.take (i + 1) = l0.take i ++ [x] := by rw [hs, HX.out]; rfl
      have HS := Aside0.mk hs
      have hW := wrap_next (show i < 4398046511104 by omega)
      have HW := Aside0.mk hW
      clear hk hs hW
      go_wp2_with (first | ((with_reducible refine gate_dst (N := 5) rfl ?_); refine mp_alloc rfl 46 rfl (cs := #[.int .i64 0, .int .u8 0, .int .i64 0, .int .i64 0]) (by kernel_rfl) HM.out ?_; intro b w_ hM; replace HM := Aside0.mk hM; clear hM) | (refine mp_store rfl 46 rfl rfl (cs' := #[.int .i64 x.f0, .int .u8 x.f1, .int .i64 x.f2, .int .i64 x.f3]) rfl HM.out (by kernel_rfl) rfl (by show _ = _; kernel_rfl) ?_; intro w_ hM; have f0 := blk_cell (hM.rows.mem List.mem_cons_self) 0; have f1 := blk_cell (hM.rows.mem List.mem_cons_self) 1; have f2 := blk_cell (hM.rows.mem List.mem_cons_self) 2; have f3 := blk_cell (hM.rows.mem List.mem_cons_self) 3; replace HM := Aside0.mk hM; clear hM hx0 hx1 hx2 hx3))
      refine (code_Jumps.calls x.f1 (jumpsB x.f1) _ (jumps_is x.f1)).mono ?_
      rintro e w_ ⟨rfl, hd⟩
      clear f0 f1 f2 f3
      replace HM := Aside0.mk (HM.out.step hd.below)
      clear hd
      cases qj : jumpsB x.f1 with
      | false =>
        have HS9 : Aside0 (tgts (l0.take (i + 1)) = tgts (l0.take i)) := ⟨by rw [HS.out, tgts_snoc, qj, if_neg (by decide), List.append_nil]⟩
        clear qj
        go_wp2
        go_roundw
        case rel => exact ⟨i + 1, by have := HW.out; first | rfl | (simp; done), by omega, ⟨by rw [HS9.out]; exact HM.out.clear.more⟩⟩
        case measure => simp [intOf]; omega
      | true =>
        have HS9 : Aside0 (tgts (l0.take (i + 1)) = tgts (l0.take i) ++ [x.f2]) := ⟨by rw [HS.out, tgts_snoc, qj, if_pos rfl]⟩
        clear qj
        have f0 := blk_cell (HM.out.rows.mem List.mem_cons_self) 0
        have f1 := blk_cell (HM.out.rows.mem List.mem_cons_self) 1
        have f2 := blk_cell (HM.out.rows.mem List.mem_cons_self) 2
        have f3 := blk_cell (HM.out.rows.mem List.mem_cons_self) 3
        go_wp2_with (first | (at_mapUpdate; refine mp_map rfl rfl rfl HM.out (by have := HL.out; have := HI.out; unfold maxLen; omega) rfl rfl HK.out (by constructor <;> omega) ?_; intro w_ hM; replace HM := Aside0.mk hM; clear hM f0 f1 f2 f3))
        go_roundw
        case rel => exact ⟨i + 1, by have := HW.out; first | rfl | (simp; done), by omega, ⟨by rw [HS9.out, ← mark_upd]; exact HM.out.clear⟩⟩
        case measure => simp [intOf]; omega
    · have e : i = l0.length := by omega
      have HE := Aside0.mk e
      clear e
      go_wp2_with fail
      refine (rising_calls B i _ _ HM.out.own (by have := HE.out; have := HL.out; omega)).mono ?_
      rintro e w_ ⟨v, rr, rfl, hr, hs, hb⟩
      have HW := Aside0.mk hr
      have HS := Aside0.mk hs
      have HBB := Aside0.mk (below_step HM.out.below hb)
      have HSZ := Aside0.mk HM.out.below.size
      clear hr hs hb
      go_wp2
      go_ret
      refine ⟨v, rfl, ?_, HBB.out⟩
      rw [H.out, ← srt_is HS.out.1 (fun y => by rw [HS.out.2, mark_some, HE.out, List.take_of_length_le (Nat.le_refl _)])]
      exact Kd.R_lower HW.out HSZ.out

def provisoref05_Targets.l0 : Nat → List Int → List (S46) → Int → Int → Option (List Int)
  | 0, _, _, _, _ => none
  | k + 1, x3, x6, x7, x8 => if x8 < x7 then (if 0 ≤ x8 then (if x8 < (x6.length : Int) then ((provisoref04_Jumps.f ((rd_T46 x6 x8).f1)).bind fun t343 => (if t343 = true then ((provisoref05_put.f k x3 ((rd_T46 x6 x8).f2)).bind fun t344 => (provisoref05_Targets.l0 k t344 x6 x7 (wrap64 (x8 + 1)))) else (provisoref05_Targets.l0 k x3 x6 x7 (wrap64 (x8 + 1))))) else (none)) else (none)) else (some x3)
def provisoref05_Targets.f (k : Nat) (l0 : List (S46)) : Option (List Int) := provisoref05_Targets.l0 k ([] : List Int) l0 (l0.length : Int) 0
set_option maxHeartbeats 8000000 in
set_option maxRecDepth 100000 in
theorem provisoref05_Targets.calls (k : Nat) (A0 : Option Addr) (c0 : Nat) (l0 : List (S46)) (r : List Int) (w : World) (hr0 : Kd.C k46 w A0 l0.length l0) (hc0 : l0.length ≤ c0) (h : provisoref05_Targets.f k l0 = some r) :
    Calls Try.prog 35 #[.slice A0 l0.length c0] w fun e w' => ∃ v0_ : Value, e = .returned (v0_) ∧ Kd.R (Kd.int .i64) 3 w' w.heap.size (fun _ => True) v0_ r ∧ Below w.heap.size w w' := by
  have hu46 := Try.underlying46
  have HR0 := Aside0.mk hr0
  have HC0 := Aside0.mk hc0
  clear hr0 hc0
  have HB := Aside0.mk (Below.refl w.heap.size w)
  have H : (provisoref05_Targets.l0 k ([] : List Int) l0 (l0.length : Int) 0) = some r := h
  clear h
  have H' := Aside0.mk H
  clear H
  go_enter Try.func35, Try.ntmps35
  go_wp2
  go_loopg [3, 8] k (fun kq v3 v8 w' => ∃ (x3_1 : List Int) (x8_1 : Int), v8 = .int .i64 x8_1 ∧ Aside0 (provisoref05_Targets.l0 kq x3_1 l0 (l0.length : Int) x8_1 = some r) ∧ Aside0 (kq ≤ k) ∧ Aside0 (Kd.R (Kd.int .i64) 3 w' w.heap.size (fun _ => True) v3 x3_1) ∧ Aside0 (Below w.heap.size w w'))
  case atStart => exact ⟨(([] : List Int)), (0), (by first | rfl | (simp; done) | (simp [*]; done)), H', ⟨Nat.le_refl _⟩, ⟨by first | exact Kd.R_nil _ _ _ _ _ | exact Kd.N_nil _ _ _ _ _ | exact Kd.V_nil _ _ _ _ _ | exact Kd.Q_nil _ _ _ _ _ | exact Kd.S_nil _ _ _ _ _⟩, ⟨by repeat (first | (with_reducible first | exact HB.out | apply below_alloc | apply pw_below_drewN | apply below_drew1) | exact HB.out)⟩⟩
  case round =>
    clear H'
    obtain ⟨x3_1, x8_1, rfl, HA, HK1, HO_3, HB⟩ := hrel
    cases gk with
    | zero => exact absurd HA.out (by simp [provisoref05_Targets.l0])
    | succ k1 =>
      have H := HA.out
      clear HA
      simp only [provisoref05_Targets.l0] at H
      by_cases c2 : x8_1 < (l0.length : Int)
      · rw [if_pos c2] at H
        have c2b0 : decide (x8_1 < (l0.length : Int)) = true := decide_eq_true c2
        clear c2
        by_cases c3 : 0 ≤ x8_1
        · rw [if_pos c3] at H
          have c3b0 : decide (0 ≤ x8_1) = true := decide_eq_true c3
          clear c3
          by_cases c4 : x8_1 < (l0.length : Int)
          · rw [if_pos c4] at H
            have c4b0 : decide (x8_1 < (l0.length : Int)) = true := decide_eq_true c4
            clear c4
            replace H := Option.bind_eq_some_iff.mp H
            obtain ⟨t343, A50, H⟩ := H
            replace H : (if t343 = true then ((provisoref05_put.f k1 x3_1 ((rd_T46 l0 x8_1).f2)).bind fun t344 => (provisoref05_Targets.l0 k1 t344 l0 (l0.length : Int) (wrap64 (x8_1 + 1)))) else (provisoref05_Targets.l0 k1 x3_1 l0 (l0.length : Int) (wrap64 (x8_1 + 1)))) = some r := H
            have A5 := Aside0.mk A50
            clear A50
            by_cases c6 : t343 = true
            · subst c6
              have H1 : ((provisoref05_put.f k1 x3_1 ((rd_T46 l0 x8_1).f2)).bind fun t344 => (provisoref05_Targets.l0 k1 t344 l0 (l0.length : Int) (wrap64 (x8_1 + 1)))) = some r := by rw [if_pos rfl] at H; exact H
              clear H
              have H := H1
              clear H1
              replace H := Option.bind_eq_some_iff.mp H
              obtain ⟨t344, A70, H⟩ := H
              replace H : (provisoref05_Targets.l0 k1 t344 l0 (l0.length : Int) (wrap64 (x8_1 + 1))) = some r := H
              have A7 := Aside0.mk A70
              clear A70
              have H' := Aside0.mk H
              clear H
              have p341 : 0 ≤ (x8_1 : Int) := of_decide_eq_true (by first | (with_reducible assumption) | assumption)
              have q341 : x8_1 < (l0.length : Int) := of_decide_eq_true (by first | (with_reducible assumption) | assumption)
              obtain ⟨ad341, e341, hx341_0, hx341_1, hx341_2, hx341_3⟩ := at_T46 HR0.out x8_1 p341 q341
              cases e341
              replace hx341_0 := (HB.out.cell (World.block_lt_of_cell? w _ hx341_0)).trans hx341_0
              replace hx341_1 := (HB.out.cell (World.block_lt_of_cell? w _ hx341_1)).trans hx341_1
              replace hx341_2 := (HB.out.cell (World.block_lt_of_cell? w _ hx341_2)).trans hx341_2
              replace hx341_3 := (HB.out.cell (World.block_lt_of_cell? w _ hx341_3)).trans hx341_3
              replace p341 := eq_true p341
              replace q341 := eq_true q341
              go_wp2_with (first | ((with_reducible refine gate_dst (N := 5) rfl ?_); refine box_event ?hg (N := 5) ?hd (cs := #[.int .i64 0, .int .u8 0, .int .i64 0, .int .i64 0]) (t := 46) ?hr ?_; (case hd => rfl); (case hg => rfl); (case hr => first | (go_simp; done) | (go_simp; rfl)); intro gb342 hg w8 hbox hb; have n0_ := Aside0.mk (Kd.R_below (by (with_reducible repeat (first | apply Kd.R_alloc | apply Kd.R_drewN | apply Kd.R_drew)); exact HO_3.out) hb); have n1_ := Aside0.mk (below_step (by repeat (first | (with_reducible first | exact HB.out | apply below_alloc | apply pw_below_drewN | apply below_drew1) | exact HB.out)) hb); have n2_ := Aside0.mk (hbox); have n3_ := Aside0.mk ((by rw [hg]; exact (below_size (by repeat (first | (with_reducible first | exact HB.out | apply below_alloc | apply pw_below_drewN | apply below_drew1) | exact HB.out))) : w.heap.size ≤ gb342)); have n4_ := Aside0.mk ((by rw [hg]; exact (below_size (by repeat (first | (with_reducible first | exact HB.out | apply below_alloc | apply pw_below_drewN | apply below_drew1) | exact HB.out))) : w.heap.size ≤ gb342)); clear HO_3; clear HB; have HO_3 := n0_; have HB := n1_; have BK342 := n2_; have GW342 := n3_; have GE342 := n4_; clear n0_ n1_ n2_ n3_ n4_; clear hb hbox hg; have hcz9_0 : w8.cell? ⟨gb342, 0, none⟩ = some (.int .i64 0) := (blk_cell BK342.out 0).trans rfl; have hcz9_1 : w8.cell? ⟨gb342, 1, none⟩ = some (.int .u8 0) := (blk_cell BK342.out 1).trans rfl; have hcz9_2 : w8.cell? ⟨gb342, 2, none⟩ = some (.int .i64 0) := (blk_cell BK342.out 2).trans rfl; have hcz9_3 : w8.cell? ⟨gb342, 3, none⟩ = some (.int .i64 0) := (blk_cell BK342.out 3).trans rfl; have hfz9_0 := blk_frozen BK342.out 0; have hfz9_1 := blk_frozen BK342.out 1; have hfz9_2 := blk_frozen BK342.out 2; have hfz9_3 := blk_frozen BK342.out 3) | ((with_reducible refine gate_callee (f := 47) rfl ?_); refine goesL_ (some 14) rfl rfl Try.func47 (by kernel_rfl) rfl #[.int .u8 ((rd_T46 l0 x8_1).f1)] rfl (by (try simp only [List.map_toArray, List.map_cons, List.map_nil]); first | done | rfl | (simp only [List.length_drop, List.length_take]; rfl)) ?_; (with_reducible refine (provisoref04_Jumps.calls ((rd_T46 l0 x8_1).f1) true _ A5.out).mono ?_); rintro e w' ⟨rfl, ⟨nd, rfl⟩⟩; refine ⟨_, rfl, ?_⟩; obtain ⟨Ao10, co10, eo10⟩ := Kd.R_slice HO_3.out; subst eo10) | ((with_reducible refine gate_callee (f := 50) rfl ?_); refine goesL_ (some 18) rfl rfl Try.func50 (by kernel_rfl) rfl #[.slice Ao10 x3_1.length co10, .int .i64 ((rd_T46 l0 x8_1).f2)] rfl (by (try simp only [List.map_toArray, List.map_cons, List.map_nil]); first | done | rfl | (simp only [List.length_drop, List.length_take]; rfl)) ?_; (with_reducible refine (provisoref05_put.calls k1 _ _ x3_1 ((rd_T46 l0 x8_1).f2) t344 _ ?side1 ?side2 A7.out).mono ?_); (case side1 => refine (Kd.R_reads' (e := 3) (base := w.heap.size) (ok := fun k_ => True) (n := x3_1.length) (c := co10) ?_).2.2; exact (by (with_reducible repeat (first | apply Kd.R_alloc | apply Kd.R_drewN | apply Kd.R_drew)); exact (Kd.R_mono (Kd.R_far (p := ⟨gb342, 3, none⟩) (Kd.R_far (p := ⟨gb342, 2, none⟩) (Kd.R_far (p := ⟨gb342, 1, none⟩) (Kd.R_far (p := ⟨gb342, 0, none⟩) (Kd.R_types HO_3.out BK342.out (by decide)) (fun _ hk => hk.2) (.int .i64 ((rd_T46 l0 x8_1).f0))) (fun _ hk => hk.2) (.int .u8 ((rd_T46 l0 x8_1).f1))) (fun _ hk => hk.2) (.int .i64 ((rd_T46 l0 x8_1).f2))) (fun _ hk => hk.2) (.int .i64 ((rd_T46 l0 x8_1).f3))) (fun _ h_ => h_.1)))); (case side2 => exact (Kd.R_reads' HO_3.out).2.1); rintro e w11 ⟨v345, rfl, ho0, hb⟩; refine ⟨_, rfl, ?_⟩; have n0_ := Aside0.mk (Kd.R_elder' (by (with_reducible repeat (first | apply Kd.R_alloc | apply Kd.R_drewN | apply Kd.R_drew)); exact (Kd.R_mono (Kd.R_far (p := ⟨gb342, 3, none⟩) (Kd.R_far (p := ⟨gb342, 2, none⟩) (Kd.R_far (p := ⟨gb342, 1, none⟩) (Kd.R_far (p := ⟨gb342, 0, none⟩) (Kd.R_types HO_3.out BK342.out (by decide)) (fun _ hk => hk.2) (.int .i64 ((rd_T46 l0 x8_1).f0))) (fun _ hk => hk.2) (.int .u8 ((rd_T46 l0 x8_1).f1))) (fun _ hk => hk.2) (.int .i64 ((rd_T46 l0 x8_1).f2))) (fun _ hk => hk.2) (.int .i64 ((rd_T46 l0 x8_1).f3))) (fun _ h_ => h_.1))) (Kd.R_base ho0) hb); have n1_ := Aside0.mk (Kd.R_lower (Kd.R_new' ho0 (Kd.R_lt (by (with_reducible repeat (first | apply Kd.R_alloc | apply Kd.R_drewN | apply Kd.R_drew)); exact (Kd.R_mono (Kd.R_far (p := ⟨gb342, 3, none⟩) (Kd.R_far (p := ⟨gb342, 2, none⟩) (Kd.R_far (p := ⟨gb342, 1, none⟩) (Kd.R_far (p := ⟨gb342, 0, none⟩) (Kd.R_types HO_3.out BK342.out (by decide)) (fun _ hk => hk.2) (.int .i64 ((rd_T46 l0 x8_1).f0))) (fun _ hk => hk.2) (.int .u8 ((rd_T46 l0 x8_1).f1))) (fun _ hk => hk.2) (.int .i64 ((rd_T46 l0 x8_1).f2))) (fun _ hk => hk.2) (.int .i64 ((rd_T46 l0 x8_1).f3))) (fun _ h_ => h_.1))))) (below_size (by repeat (first | (with_reducible first | exact HB.out | apply below_alloc | apply pw_below_drewN | apply below_drew1 | refine below_set ?_ GE342.out) | exact HB.out)))); have n2_ := Aside0.mk (blk_below (g := gb342) (o := .cells #[.int .i64 ((rd_T46 l0 x8_1).f0), .int .u8 ((rd_T46 l0 x8_1).f1), .int .i64 ((rd_T46 l0 x8_1).f2), .int .i64 ((rd_T46 l0 x8_1).f3)] 46 (0, 0)) (by (with_reducible repeat (first | refine blk_drewN ?_ _ | refine blk_drew ?_ | refine blk_alloc ?_ _)); refine blk_put (cs := #[.int .i64 ((rd_T46 l0 x8_1).f0), .int .u8 ((rd_T46 l0 x8_1).f1), .int .i64 ((rd_T46 l0 x8_1).f2), .int .i64 0]) ?_ 3 _ rfl; (with_reducible repeat (first | refine blk_drewN ?_ _ | refine blk_drew ?_ | refine blk_alloc ?_ _)); refine blk_put (cs := #[.int .i64 ((rd_T46 l0 x8_1).f0), .int .u8 ((rd_T46 l0 x8_1).f1), .int .i64 0, .int .i64 0]) ?_ 2 _ rfl; (with_reducible repeat (first | refine blk_drewN ?_ _ | refine blk_drew ?_ | refine blk_alloc ?_ _)); refine blk_put (cs := #[.int .i64 ((rd_T46 l0 x8_1).f0), .int .u8 0, .int .i64 0, .int .i64 0]) ?_ 1 _ rfl; (with_reducible repeat (first | refine blk_drewN ?_ _ | refine blk_drew ?_ | refine blk_alloc ?_ _)); refine blk_put (cs := #[.int .i64 0, .int .u8 0, .int .i64 0, .int .i64 0]) ?_ 0 _ rfl; (with_reducible repeat (first | refine blk_drewN ?_ _ | refine blk_drew ?_ | refine blk_alloc ?_ _)); exact BK342.out) hb); have n3_ := Aside0.mk (below_step (by repeat (first | (with_reducible first | exact HB.out | apply below_alloc | apply pw_below_drewN | apply below_drew1 | refine below_set ?_ GE342.out) | exact HB.out)) hb); clear HO_3; clear BK342; clear HB; have HO_3 := n0_; have HO346 := n1_; have BK342 := n2_; have HB := n3_; clear n0_ n1_ n2_ n3_; (try clear hb); (try clear hb2); (try clear hk); (try clear hi); (try clear ho0)))
              go_roundg k1
              case measure => have := HK1.out; omega
              case rel => exact ⟨(t344), (wrap64 (x8_1 + 1)), (by first | rfl | (simp; done) | (simp [*]; done)), H', ⟨by have := HK1.out; omega⟩, ⟨by (with_reducible repeat (first | apply Kd.R_alloc | apply Kd.R_drewN | apply Kd.R_drew)); exact Kd.R_mono HO346.out (fun _ hk => trivial)⟩, ⟨by repeat (first | (with_reducible first | exact HB.out | apply below_alloc | apply pw_below_drewN | apply below_drew1 | refine below_set ?_ GE342.out) | exact HB.out)⟩⟩
            · replace c6 := Bool.eq_false_iff.mpr c6
              subst c6
              have H1 : (provisoref05_Targets.l0 k1 x3_1 l0 (l0.length : Int) (wrap64 (x8_1 + 1))) = some r := by rw [if_neg (show ¬ (false = true) by decide)] at H; exact H
              clear H
              have H := H1
              clear H1
              have H' := Aside0.mk H
              clear H
              have p341 : 0 ≤ (x8_1 : Int) := of_decide_eq_true (by first | (with_reducible assumption) | assumption)
              have q341 : x8_1 < (l0.length : Int) := of_decide_eq_true (by first | (with_reducible assumption) | assumption)
              obtain ⟨ad341, e341, hx341_0, hx341_1, hx341_2, hx341_3⟩ := at_T46 HR0.out x8_1 p341 q341
              cases e341
              replace hx341_0 := (HB.out.cell (World.block_lt_of_cell? w _ hx341_0)).trans hx341_0
              replace hx341_1 := (HB.out.cell (World.block_lt_of_cell? w _ hx341_1)).trans hx341_1
              replace hx341_2 := (HB.out.cell (World.block_lt_of_cell? w _ hx341_2)).trans hx341_2
              replace hx341_3 := (HB.out.cell (World.block_lt_of_cell? w _ hx341_3)).trans hx341_3
              replace p341 := eq_true p341
              replace q341 := eq_true q341
              go_wp2_with (first | ((with_reducible refine gate_dst (N := 5) rfl ?_); refine box_event ?hg (N := 5) ?hd (cs := #[.int .i64 0, .int .u8 0, .int .i64 0, .int .i64 0]) (t := 46) ?hr ?_; (case hd => rfl); (case hg => rfl); (case hr => first | (go_simp; done) | (go_simp; rfl)); intro gb342 hg w12 hbox hb; have n0_ := Aside0.mk (Kd.R_below (by (with_reducible repeat (first | apply Kd.R_alloc | apply Kd.R_drewN | apply Kd.R_drew)); exact HO_3.out) hb); have n1_ := Aside0.mk (below_step (by repeat (first | (with_reducible first | exact HB.out | apply below_alloc | apply pw_below_drewN | apply below_drew1) | exact HB.out)) hb); have n2_ := Aside0.mk (hbox); have n3_ := Aside0.mk ((by rw [hg]; exact (below_size (by repeat (first | (with_reducible first | exact HB.out | apply below_alloc | apply pw_below_drewN | apply below_drew1) | exact HB.out))) : w.heap.size ≤ gb342)); have n4_ := Aside0.mk ((by rw [hg]; exact (below_size (by repeat (first | (with_reducible first | exact HB.out | apply below_alloc | apply pw_below_drewN | apply below_drew1) | exact HB.out))) : w.heap.size ≤ gb342)); clear HO_3; clear HB; have HO_3 := n0_; have HB := n1_; have BK342 := n2_; have GW342 := n3_; have GE342 := n4_; clear n0_ n1_ n2_ n3_ n4_; clear hb hbox hg; have hcz13_0 : w12.cell? ⟨gb342, 0, none⟩ = some (.int .i64 0) := (blk_cell BK342.out 0).trans rfl; have hcz13_1 : w12.cell? ⟨gb342, 1, none⟩ = some (.int .u8 0) := (blk_cell BK342.out 1).trans rfl; have hcz13_2 : w12.cell? ⟨gb342, 2, none⟩ = some (.int .i64 0) := (blk_cell BK342.out 2).trans rfl; have hcz13_3 : w12.cell? ⟨gb342, 3, none⟩ = some (.int .i64 0) := (blk_cell BK342.out 3).trans rfl; have hfz13_0 := blk_frozen BK342.out 0; have hfz13_1 := blk_frozen BK342.out 1; have hfz13_2 := blk_frozen BK342.out 2; have hfz13_3 := blk_frozen BK342.out 3) | ((with_reducible refine gate_callee (f := 47) rfl ?_); refine goesL_ (some 14) rfl rfl Try.func47 (by kernel_rfl) rfl #[.int .u8 ((rd_T46 l0 x8_1).f1)] rfl (by (try simp only [List.map_toArray, List.map_cons, List.map_nil]); first | done | rfl | (simp only [List.length_drop, List.length_take]; rfl)) ?_; (with_reducible refine (provisoref04_Jumps.calls ((rd_T46 l0 x8_1).f1) false _ A5.out).mono ?_); rintro e w' ⟨rfl, ⟨nd, rfl⟩⟩; refine ⟨_, rfl, ?_⟩))
              go_roundg k1
              case measure => have := HK1.out; omega
              case rel => exact ⟨(x3_1), (wrap64 (x8_1 + 1)), (by first | rfl | (simp; done) | (simp [*]; done)), H', ⟨by have := HK1.out; omega⟩, ⟨by (with_reducible repeat (first | apply Kd.R_alloc | apply Kd.R_drewN | apply Kd.R_drew)); exact Kd.R_mono (Kd.R_far (p := ⟨gb342, 3, none⟩) (Kd.R_far (p := ⟨gb342, 2, none⟩) (Kd.R_far (p := ⟨gb342, 1, none⟩) (Kd.R_far (p := ⟨gb342, 0, none⟩) (Kd.R_types HO_3.out BK342.out (by decide)) (fun _ hk => hk.2) (.int .i64 ((rd_T46 l0 x8_1).f0))) (fun _ hk => hk.2) (.int .u8 ((rd_T46 l0 x8_1).f1))) (fun _ hk => hk.2) (.int .i64 ((rd_T46 l0 x8_1).f2))) (fun _ hk => hk.2) (.int .i64 ((rd_T46 l0 x8_1).f3))) (fun _ hk => trivial)⟩, ⟨by repeat (first | (with_reducible first | exact HB.out | apply below_alloc | apply pw_below_drewN | apply below_drew1 | refine below_set ?_ GE342.out) | exact HB.out)⟩⟩
          · rw [if_neg c4] at H
            exact absurd H (by simp)
        · rw [if_neg c3] at H
          exact absurd H (by simp)
      · rw [if_neg c2] at H
        have c2b0 : decide (x8_1 < (l0.length : Int)) = false := decide_eq_false c2
        clear c2
        obtain rfl := Option.some.inj H
        go_wp2
        go_ret
        exact ⟨_, by first | rfl | (simp [errW_none, errW_some] <;> rfl) | (simp [*, errW_none, errW_some] <;> rfl), by (with_reducible repeat (first | apply Kd.R_alloc | apply Kd.R_drewN | apply Kd.R_drew)); exact HO_3.out, by repeat (first | (with_reducible first | exact HB.out | apply below_alloc | apply pw_below_drewN | apply below_drew1) | exact HB.out)⟩

def bhds (l : List S46) : List Int := (l.filter fun x => endsB x.f1 && placedB x.f0).map (fun x => x.f0 + szOf x.f1)
theorem bhds_snoc (l : List S46) (x : S46) : bhds (l ++ [x]) = bhds l ++ (if (endsB x.f1 && placedB x.f0) = true then [x.f0 + szOf x.f1] else []) := by
  unfold bhds
  rw [List.filter_append, List.map_append]
  cases h : (endsB x.f1 && placedB x.f0) <;> simp [h]
def flow_Behind.f (l0 : List S46) : Option (List Int) := if l0.length < 4398046511104 then some (srt (bhds l0)) else none
set_option maxHeartbeats 1600000 in
set_option maxRecDepth 100000 in
theorem flow_Behind.calls (A0 : Option Addr) (c0 : Nat) (l0 : List S46) (r : List Int) (w : World) (hr0 : Kd.C k46 w A0 l0.length l0) (hc0 : l0.length ≤ c0) (h : flow_Behind.f l0 = some r) :
    Calls Try.prog 36 #[.slice A0 l0.length c0] w fun e w' => ∃ v0_ : Value, e = .returned (v0_) ∧ Kd.R (Kd.int .i64) 3 w' w.heap.size (fun _ => True) v0_ r ∧ Below w.heap.size w w' := by
  unfold flow_Behind.f at h
  by_cases hlen : l0.length < 4398046511104
  case neg => rw [if_neg hlen] at h; cases h
  rw [if_pos hlen] at h
  have H := Aside0.mk (Option.some.inj h).symm
  have HR := Aside0.mk hr0
  have HL := Aside0.mk hlen
  have HM := Aside0.mk (Rws.nil w)
  clear hr0 h hc0
  go_enter Try.func36, Try.ntmps36
  go_wp2_with (first | ((with_reducible refine gate_dst (N := 6) rfl ?_); refine mp_make rfl rfl HM.out ?_; intro B w_ hM; replace HM := Aside0.mk hM; clear hM))
  go_loopw [9] (fun v9 wr => ∃ (i : Nat), v9 = .int .i64 (i : Int) ∧ i ≤ l0.length ∧ Aside0 (Mp w B i (mark (bhds (l0.take i))) [] wr)) (fun v9 _ => ((l0.length : Int) - intOf v9).toNat)
  case atStart => exact ⟨0, rfl, Nat.zero_le _, ⟨mark_nil ▸ HM.out⟩⟩
  case round =>
    rename_i wr
    clear HM
    obtain ⟨i, rfl, hi, HM⟩ := hrel
    by_cases c1 : i < l0.length
    · obtain ⟨x, hx⟩ : ∃ x, x = rd_T46 l0 (i : Int) := ⟨_, rfl⟩
      obtain ⟨ad, e1, hx0, hx1, hx2, hx3⟩ := at_I HR.out HM.out.below c1 hx
      cases e1
      have HX := Aside0.mk hx
      have HI : Aside0 (i < l0.length) := ⟨c1⟩
      have c1b : decide ((i : Int) < (l0.length : Int)) = true := decide_eq_true (by omega)
      have p5 : (0 ≤ (i : Int)) = True := eq_true (by omega)
      have p6 : ((i : Int) < (l0.length : Int)) = True := eq_true (by omega)
      clear hx
      have hs := take_snoc c1 z46
      have hs : l0.take (i + 1) = l0.take i ++ [x] := by rw [hs, HX.out]; rfl
      have HS := Aside0.mk hs
      have hW := wrap_next (show i < 4398046511104 by omega)
      have HW := Aside0.mk hW
      clear hs hW
      go_wp2_with (first | ((with_reducible refine gate_dst (N := 5) rfl ?_); refine mp_alloc rfl 46 rfl (cs := #[.int .i64 0, .int .u8 0, .int .i64 0, .int .i64 0]) (by kernel_rfl) HM.out ?_; intro b w_ hM; replace HM := Aside0.mk hM; clear hM) | (refine mp_store rfl 46 rfl rfl (cs' := #[.int .i64 x.f0, .int .u8 x.f1, .int .i64 x.f2, .int .i64 x.f3]) rfl HM.out (by kernel_rfl) rfl (by show _ = _; kernel_rfl) ?_; intro w_ hM; have f0 := blk_cell (hM.rows.mem List.mem_cons_self) 0; have f1 := blk_cell (hM.rows.mem List.mem_cons_self) 1; have f2 := blk_cell (hM.rows.mem List.mem_cons_self) 2; have f3 := blk_cell (hM.rows.mem List.mem_cons_self) 3; replace HM := Aside0.mk hM; clear hM hx0 hx1 hx2 hx3))
      refine (code_Ends.calls x.f1 (endsB x.f1) _ (ends_is x.f1)).mono ?_
      rintro e w_ ⟨rfl, hd⟩
      clear f0 f1 f2 f3
      replace HM := Aside0.mk (HM.out.step hd.below)
      clear hd
      cases qj : endsB x.f1 with
      | false =>
        have HS9 : Aside0 (bhds (l0.take (i + 1)) = bhds (l0.take i)) := ⟨by rw [HS.out, bhds_snoc, qj]; simp⟩
        clear qj
        go_wp2
        go_roundw
        case rel => exact ⟨i + 1, by have := HW.out; first | rfl | (simp; done), by omega, ⟨by rw [HS9.out]; exact HM.out.clear.more⟩⟩
        case measure => simp [intOf]; omega
      | true =>
        have f0 := blk_cell (HM.out.rows.mem List.mem_cons_self) 0
        have f1 := blk_cell (HM.out.rows.mem List.mem_cons_self) 1
        have f2 := blk_cell (HM.out.rows.mem List.mem_cons_self) 2
        have f3 := blk_cell (HM.out.rows.mem List.mem_cons_self) 3
        go_wp2_with fail
        refine (flow_placed.calls x.f0 x.f1 x.f2 x.f3 (placedB x.f0) _ (placed_is x.f0 x.f1 x.f2 x.f3)).mono ?_
        rintro e w_ ⟨rfl, hd⟩
        clear f0 f1 f2 f3
        replace HM := Aside0.mk (HM.out.step (by first | exact hd | exact hd.below))
        clear hd
        cases qp : placedB x.f0 with
        | false =>
          have HS9 : Aside0 (bhds (l0.take (i + 1)) = bhds (l0.take i)) := ⟨by rw [HS.out, bhds_snoc, qj, qp]; simp⟩
          clear qj qp
          go_wp2
          go_roundw
          case rel => exact ⟨i + 1, by have := HW.out; first | rfl | (simp; done), by omega, ⟨by rw [HS9.out]; exact HM.out.clear.more⟩⟩
          case measure => simp [intOf]; omega
        | true =>
          have HS9 : Aside0 (bhds (l0.take (i + 1)) = bhds (l0.take i) ++ [x.f0 + szOf x.f1]) := ⟨by rw [HS.out, bhds_snoc, qj, qp]; simp⟩
          have HP : Aside0 (0 ≤ x.f0 ∧ x.f0 < 4096) := ⟨by unfold placedB at qp; simpa using qp⟩
          clear qj qp
          have HSZ := szOf_range x.f1
          have hkey : I64 (x.f0 + szOf x.f1) := by have := HP.out; constructor <;> omega
          have hkw : IntKind.i64.wrap (x.f0 + szOf x.f1) = x.f0 + szOf x.f1 := IntWalk.i64_in _ (by have := HP.out; omega)
          have HKEY := Aside0.mk hkey
          have HKW := Aside0.mk hkw
          clear hkey HSZ hkw
          go_wp2_with fail
          have hM := HM.out
          (try simp only [Act.put, List.setIfInBounds_toArray, List.set_cons_zero, List.set_cons_succ])
          refine wp_region_held_drew (S := fun w' => Rws w [(b, 46, #[.int .i64 x.f0, .int .u8 x.f1, .int .i64 x.f2, .int .i64 x.f3])] w') (by kernel_rfl) ?_ (fun hHeld => ?_)
          · exact (hM.step (pw_below_drewN (Below.refl _ _) 1)).rows
          replace HM := Aside0.mk (hM.step (pw_below_drewN (Below.refl _ _) 1))
          clear hM
          refine take_dst (i := 0) (v := ?_) 20 rfl rfl (by kernel_rfl) (by kernel_rfl) (by kernel_rfl) (fun _ _ _ h => h) (Or.inl ⟨by rfl, ?_⟩) (by assumption) ?_
          rotate_left
          · intro w hSw
            have f0 := blk_cell (hSw.mem List.mem_cons_self) 0
            have f1 := blk_cell (hSw.mem List.mem_cons_self) 1
            have f2 := blk_cell (hSw.mem List.mem_cons_self) 2
            have f3 := blk_cell (hSw.mem List.mem_cons_self) 3
            go_simp
            try with_reducible rfl
          (try simp only [Act.put, List.setIfInBounds_toArray, List.set_cons_zero, List.set_cons_succ])
          refine take_dst (i := 1) (v := ?_) 21 rfl rfl (by kernel_rfl) (by kernel_rfl) (by kernel_rfl) (fun _ _ _ h => h) (Or.inl ⟨by rfl, ?_⟩) (by assumption) ?_
          rotate_left
          · intro w hSw
            have f0 := blk_cell (hSw.mem List.mem_cons_self) 0
            have f1 := blk_cell (hSw.mem List.mem_cons_self) 1
            have f2 := blk_cell (hSw.mem List.mem_cons_self) 2
            have f3 := blk_cell (hSw.mem List.mem_cons_self) 3
            go_simp
            try with_reducible rfl
          (try simp only [Act.put, List.setIfInBounds_toArray, List.set_cons_zero, List.set_cons_succ])
          refine take_dst (i := 2) (v := ?_) 22 rfl rfl (by kernel_rfl) (by kernel_rfl) (by kernel_rfl) (fun _ _ _ h => h) (Or.inl ⟨by rfl, ?_⟩) (by assumption) ?_
          rotate_left
          · intro w hSw
            have f0 := blk_cell (hSw.mem List.mem_cons_self) 0
            have f1 := blk_cell (hSw.mem List.mem_cons_self) 1
            have f2 := blk_cell (hSw.mem List.mem_cons_self) 2
            have f3 := blk_cell (hSw.mem List.mem_cons_self) 3
            go_simp
            try with_reducible rfl
          (try simp only [Act.put, List.setIfInBounds_toArray, List.set_cons_zero, List.set_cons_succ])
          refine take_dst (i := 3) (v := ?_) 23 rfl rfl (by kernel_rfl) (by kernel_rfl) (by kernel_rfl) (fun _ _ _ h => h) (Or.inl ⟨by rfl, ?_⟩) (by assumption) ?_
          rotate_left
          · intro w hSw
            have f0 := blk_cell (hSw.mem List.mem_cons_self) 0
            have f1 := blk_cell (hSw.mem List.mem_cons_self) 1
            have f2 := blk_cell (hSw.mem List.mem_cons_self) 2
            have f3 := blk_cell (hSw.mem List.mem_cons_self) 3
            go_simp
            try with_reducible rfl
          (try simp only [Act.put, List.setIfInBounds_toArray, List.set_cons_zero, List.set_cons_succ])
          refine take_dst (i := 4) (v := ?_) 24 rfl rfl (by kernel_rfl) (by kernel_rfl) (by kernel_rfl) (fun _ _ _ h => h) (Or.inl ⟨by rfl, ?_⟩) (by assumption) ?_
          rotate_left
          · intro w hSw
            have f0 := blk_cell (hSw.mem List.mem_cons_self) 0
            have f1 := blk_cell (hSw.mem List.mem_cons_self) 1
            have f2 := blk_cell (hSw.mem List.mem_cons_self) 2
            have f3 := blk_cell (hSw.mem List.mem_cons_self) 3
            go_simp
            try with_reducible rfl
          (try simp only [Act.put, List.setIfInBounds_toArray, List.set_cons_zero, List.set_cons_succ])
          refine wpAnyH_ready (rs := [5]) (by kernel_rfl) (by simp) ?_
          refine AllReadyH.cons rfl (fun K hK => ?_) AllReadyH.nil
          go_simp
          refine (code_Size.calls 3 x.f1 (szOf x.f1) _ (size_is 0 x.f1)).mono ?_
          rintro e w9 ⟨rfl, hd⟩
          have hb : Below _ _ w9 := hd.below
          have h9 : Rws w [(b, 46, #[.int .i64 x.f0, .int .u8 x.f1, .int .i64 x.f2, .int .i64 x.f3])] w9 := hHeld.step hb
          replace HM := Aside0.mk (HM.out.step hb)
          go_simp
          refine hK.out _ _ h9 (fun hHeld => ?_)
          (try simp only [Act.put, List.setIfInBounds_toArray, List.set_cons_zero, List.set_cons_succ])
          clear hK K h9 hb hd
          refine take_dst (i := 6) (v := ?_) 26 rfl rfl (by kernel_rfl) (by kernel_rfl) (by kernel_rfl) (fun _ _ _ h => h) (Or.inl ⟨by rfl, ?_⟩) (by assumption) ?_
          rotate_left
          · intro w hSw
            have f0 := blk_cell (hSw.mem List.mem_cons_self) 0
            have f1 := blk_cell (hSw.mem List.mem_cons_self) 1
            have f2 := blk_cell (hSw.mem List.mem_cons_self) 2
            have f3 := blk_cell (hSw.mem List.mem_cons_self) 3
            go_simp
            try with_reducible rfl
          (try simp only [Act.put, List.setIfInBounds_toArray, List.set_cons_zero, List.set_cons_succ])
          refine wpAnyH_ready (rs := [7]) (by kernel_rfl) (by simp) ?_
          refine AllReadyH.cons rfl (fun K hK => ?_) AllReadyH.nil
          refine Eq.mpr (if_pos (by rfl)) ?_
          refine im_store_wp rfl rfl HM.out.own (by have := HL.out; have := HI.out; unfold maxLen; omega) (k := x.f0 + szOf x.f1) (c := 1) (by show Value.int .i64 (IntKind.i64.wrap (x.f0 + szOf x.f1)) = _; rw [HKW.out]) rfl HKEY.out (by constructor <;> omega) ?_
          intro w10 r1 r2
          have hM9 := HM.out.stored r1 r2
          replace HM := Aside0.mk hM9
          refine hK.out _ _ hM9.rows (fun hHeld => ?_)
          (try simp only [Act.put, List.setIfInBounds_toArray, List.set_cons_zero, List.set_cons_succ])
          clear hK K hM9 r1 r2
          refine wpAnyH_done (by kernel_rfl) ?_ _
          go_wp2
          go_roundw
          case rel => exact ⟨i + 1, by have := HW.out; first | rfl | (simp; done), by omega, ⟨by rw [HS9.out, ← mark_upd]; exact HM.out.clear⟩⟩
          case measure => simp [intOf]; omega
    · have e : i = l0.length := by omega
      have HE := Aside0.mk e
      clear e
      go_wp2_with fail
      refine (rising_calls B i _ _ HM.out.own (by have := HE.out; have := HL.out; omega)).mono ?_
      rintro e w_ ⟨v, rr, rfl, hr, hs, hb⟩
      have HW := Aside0.mk hr
      have HS := Aside0.mk hs
      have HBB := Aside0.mk (below_step HM.out.below hb)
      have HSZ := Aside0.mk HM.out.below.size
      clear hr hs hb
      go_wp2
      go_ret
      refine ⟨v, rfl, ?_, HBB.out⟩
      rw [H.out, ← srt_is HS.out.1 (fun y => by rw [HS.out.2, mark_some, HE.out, List.take_of_length_le (Nat.le_refl _)])]
      exact Kd.R_lower HW.out HSZ.out

end Go.Proofs.Ytcffniaieegbgaa.P

end

section
namespace Go.Proofs.Ytcffniaieegbgaa.P
open Go.RowKit Go.Proofs.YtcffniaieegbgaaW.PrintWords Go.Proofs.YtcffniaieegbgaaW.PrintLast Go.Proofs.YtcffniaieegbgaaW.PrintMore
attribute [local go_sem] max2_int min2_int max_two min_two max_three min_three max_four min_four   -- for this text's walks alone
set_option linter.unusedVariables false
set_option linter.unusedSimpArgs false

def reachL : Nat → List S46 → List Int → List Int → Option (List Int)
  | 0, _, _, _ => none
  | k + 1, l, st, come => match st.getLast? with
    | none => if come.length < 4398046511104 then some (srt come) else none
    | some at_ => match firstAt l 0 at_ with
      | none => reachL k l st.dropLast come
      | some i => if at_ ∈ come then reachL k l st.dropLast come else if st.length + (nextL (rd_T46 l i)).length ≤ 17592186044416 ∧ come.length < 17592186044416 then reachL k l (st.dropLast ++ nextL (rd_T46 l i)) (come ++ [at_]) else none
theorem firstAt_lt : ∀ (l : List S46) (j : Nat) (x v : Int), firstAt l j x = some v → ∃ i : Nat, v = ((j + i : Nat) : Int) ∧ i < l.length
  | [], j, x, v, h => by cases h
  | y :: r, j, x, v, h => by
    unfold firstAt at h
    split at h
    · cases h; exact ⟨0, rfl, by simp⟩
    · obtain ⟨i, h1, h2⟩ := firstAt_lt r (j + 1) x v h
      exact ⟨i + 1, by rw [h1]; congr 1; omega, by simpa using h2⟩
theorem nextL_ok {x : S46} (h : I64 x.f2) : ∀ y ∈ nextL x, I64 y := by
  intro y hy
  unfold nextL at hy
  split at hy
  · cases hy
  · split at hy
    · rename_i hp
      rw [srt_mem] at hy
      have hp : 0 ≤ x.f0 ∧ x.f0 < 4096 := by unfold placedB at hp; simpa using hp
      have hz := szOf_range x.f1
      unfold nextKeys at hy
      rcases List.mem_append.1 hy with hy | hy
      · split at hy
        · cases hy
        · rw [List.mem_singleton.1 hy]; constructor <;> omega
      · split at hy
        · rw [List.mem_singleton.1 hy]; exact h
        · cases hy
    · cases hy
def flow_Reach.f (k : Nat) (l0 : List S46) (a1 : Int) : Option (List Int) := if l0.length < 4398046511104 then (if asOk l0 = true ∧ atsOk l0 = true ∧ okB a1 = true then reachL k l0 [a1] [] else none) else none
theorem reachL_snoc (k : Nat) (l : List S46) (s come : List Int) (a : Int) : reachL (k + 1) l (s ++ [a]) come = match firstAt l 0 a with
      | none => reachL k l s come
      | some i => if a ∈ come then reachL k l s come else if (s ++ [a]).length + (nextL (rd_T46 l i)).length ≤ 17592186044416 ∧ come.length < 17592186044416 then reachL k l (s ++ nextL (rd_T46 l i)) (come ++ [a]) else none := by
  conv => lhs; unfold reachL
  rw [List.getLast?_concat, List.dropLast_concat]
theorem reachL_nil (k : Nat) (l : List S46) (come : List Int) : reachL (k + 1) l [] come = if come.length < 4398046511104 then some (srt come) else none := rfl
theorem snoc_cases (st : List Int) : st = [] ∨ ∃ s a, st = s ++ [a] := by
  rcases List.eq_nil_or_concat st with h | ⟨s, a, h⟩
  · exact .inl h
  · exact .inr ⟨s, a, by rw [h, List.concat_eq_append]⟩
theorem below_none {W W1 : World} (hg : W.grownBy W1 none) : Below W.heap.size W W1 := ⟨hg.os, hg.tape, hg.output, hg.size, fun k hk => hg.block k hk (by simp)⟩
structure Mq (w0 : World) (B1 n1 : Nat) (g1 : Int → Option Int) (B2 n2 : Nat) (g2 : Int → Option Int) (W : World) : Prop where
  own1 : IMap W B1 n1 g1
  own2 : IMap W B2 n2 g2
  ne : B1 ≠ B2
  base1 : w0.heap.size ≤ B1
  base2 : w0.heap.size ≤ B2
  below : Below w0.heap.size w0 W
theorem Mq.step {w0 W W1 : World} {B1 n1 B2 n2 : Nat} {g1 g2 : Int → Option Int} (h : Mq w0 B1 n1 g1 B2 n2 g2 W) (hb : Below W.heap.size W W1) : Mq w0 B1 n1 g1 B2 n2 g2 W1 := ⟨h.own1.below hb, h.own2.below hb, h.ne, h.base1, h.base2, below_step h.below hb⟩
theorem Mq.stored {w0 W W1 : World} {B1 n1 B2 n2 n3 : Nat} {g1 g2 g3 : Int → Option Int} (h : Mq w0 B1 n1 g1 B2 n2 g2 W) (h3 : IMap W1 B2 n3 g3) (hg : W.grownBy W1 (some B2)) : Mq w0 B1 n1 g1 B2 n3 g3 W1 :=
  ⟨h.own1.grown hg (fun e => h.ne (by cases e; rfl)), h3, h.ne, h.base1, h.base2, h.below.grown hg h.below.size (fun k hk => by cases hk; exact h.base2)⟩
theorem Mq.grown {w0 W W1 : World} {B1 n1 B2 n2 : Nat} {g1 g2 : Int → Option Int} (h : Mq w0 B1 n1 g1 B2 n2 g2 W) {v : Value} {e : Nat} (ht : ∀ k, v.ownBlock = some k → ∃ cells, W.heap[k]? = some (.cells cells e (0, 0))) (hg : W.grownBy W1 v.ownBlock) (hb : Below w0.heap.size w0 W1) : Mq w0 B1 n1 g1 B2 n2 g2 W1 :=
  ⟨h.own1.grown hg (fun q => by obtain ⟨cs, hc⟩ := ht _ q.symm; exact h.own1.ne hc rfl), h.own2.grown hg (fun q => by obtain ⟨cs, hc⟩ := ht _ q.symm; exact h.own2.ne hc rfl), h.ne, h.base1, h.base2, hb⟩
theorem R_beside {α : Type} {d : Kd α} {e base : Nat} {W W1 : World} {v : Value} {xs : List α} (h : d.R e W base (fun _ => True) v xs) {B n : Nat} {g : Int → Option Int} (hm : IMap W B n g) (hg : W.grownBy W1 (some B)) : d.R e W1 base (fun _ => True) v xs :=
  Kd.R_mono (Kd.R_grown (Kd.R_bound h) hg (fun k hk q => by
    cases q
    obtain ⟨q, _, cs, hc⟩ := hk.2.2.2
    exact hm.ne hc rfl)) (fun _ _ => trivial)
set_option maxHeartbeats 1600000 in
set_option maxRecDepth 100000 in
theorem flow_Reach.calls (k : Nat) (A0 : Option Addr) (c0 : Nat) (l0 : List S46) (a1 : Int) (r : List Int) (w : World) (hr0 : Kd.C k46 w A0 l0.length l0) (hc0 : l0.length ≤ c0) (h : flow_Reach.f k l0 a1 = some r) :
    Calls Try.prog 38 #[.slice A0 l0.length c0, .int .i64 a1] w fun e w' => ∃ v0_ : Value, e = .returned (v0_) ∧ Kd.R (Kd.int .i64) 3 w' w.heap.size (fun _ => True) v0_ r ∧ Below w.heap.size w w' := by
  unfold flow_Reach.f at h
  by_cases hlen : l0.length < 4398046511104
  case neg => rw [if_neg hlen] at h; cases h
  rw [if_pos hlen] at h
  by_cases hok : asOk l0 = true ∧ atsOk l0 = true ∧ okB a1 = true
  case neg => rw [if_neg hok] at h; cases h
  rw [if_pos hok] at h
  have H := Aside0.mk h
  have HR := Aside0.mk hr0
  have HO := Aside0.mk hok.1
  have HOA := Aside0.mk hok.2.1
  have HA1 := Aside0.mk (okB_is hok.2.2)
  have HL := Aside0.mk hlen
  clear hr0 hok h hc0
  go_enter Try.func38, Try.ntmps38
  go_wp2_with fail
  refine (addresses_calls A0 c0 l0 _ HR.out HOA.out HL.out).mono ?_
  rintro e w1 ⟨B1, rfl, hM⟩
  have HM1 := Aside0.mk hM
  clear hM
  go_wp2_with (first | ((with_reducible refine gate_dst (N := 13) rfl ?_); refine im_make rfl rfl ?_; intro hM; have hM2 : Mq w B1 l0.length (firstAt l0 0) w1.heap.size 0 (fun _ => none) (w1.alloc (.map #[] 0)) := ⟨HM1.out.own.below (below_alloc (Below.refl _ _) _), hM, Nat.ne_of_lt HM1.out.own.lt, HM1.out.base, HM1.out.below.size, below_alloc HM1.out.below _⟩; generalize w1.alloc (.map #[] 0) = w2 at hM hM2 ⊢; generalize w1.heap.size = B2 at hM hM2 ⊢; clear hM; have HQ := Aside0.mk hM2; clear hM2) | ((with_reducible refine gate_dst (N := 15) rfl ?_); refine Kd.R_lit (Kd.int .i64) _ 3 ?hg (N := 15) ?hd (xs := ([a1] : List Int)) (inner := [.int .i64 a1]) (ok := fun _ => True) (okp := fun _ => True) ?hr ?hp (fun _ hk => hk) trivial HQ.out.below HQ.out.below.size (by simp) ?_; (case hd => rfl); (case hg => rfl); (case hr => first | (go_simp; done) | (go_simp; rfl)); (case hp => exact (Reps.one (show Kd.M (Kd.int .i64) _ _ _ a1 [.int .i64 a1] from rfl) (Reps.none _ _))); intro v1 w3 ho1 hb1 hg1 _; replace HQ := Aside0.mk (HQ.out.step (below_none hg1)); have HV := Aside0.mk ho1; clear ho1 hb1 hg1))
  go_loopg [7] k (fun kq v7 wr => ∃ (st come : List Int), Aside0 (reachL kq l0 st come = some r) ∧ Aside0 (Kd.R (Kd.int .i64) 3 wr w.heap.size (fun _ => True) v7 st) ∧ Aside0 (∀ y ∈ st, I64 y) ∧ Aside0 (Mq w B1 l0.length (firstAt l0 0) B2 come.length (mark come) wr))
  case atStart => exact ⟨[a1], [], H, HV, ⟨fun y hy => by rw [List.mem_singleton.1 hy]; exact HA1.out⟩, ⟨by rw [mark_nil]; exact HQ.out⟩⟩
  case round =>
    clear HQ HV
    obtain ⟨st, come, HH, HV, HY, HQ⟩ := hrel
    cases gk with
    | zero => exact absurd HH.out (by simp [reachL])
    | succ gk =>
    rcases snoc_cases st with rfl | ⟨s, a, rfl⟩
    · obtain ⟨A7, c7, e7⟩ := Kd.R_slice HV.out
      subst e7
      have hh := HH.out
      rw [reachL_nil] at hh
      by_cases hcl : come.length < 4398046511104
      case neg => rw [if_neg hcl] at hh; cases hh
      rw [if_pos hcl] at hh
      have HE := Aside0.mk (Option.some.inj hh).symm
      have HCL := Aside0.mk hcl
      clear HH hh hcl HV
      go_wp2_with fail
      refine (rising_calls B2 come.length _ _ HQ.out.own2 HCL.out).mono ?_
      rintro e w_ ⟨v, rr, rfl, hr, hs, hb⟩
      have HW := Aside0.mk hr
      have HS := Aside0.mk hs
      have HBB := Aside0.mk (below_step HQ.out.below hb)
      have HSZ := Aside0.mk HQ.out.below.size
      clear hr hs hb
      go_wp2
      go_ret
      refine ⟨v, rfl, ?_, HBB.out⟩
      rw [HE.out, ← srt_is HS.out.1 (fun y => by rw [HS.out.2, mark_some])]
      exact Kd.R_lower HW.out HSZ.out
    · obtain ⟨g7, c7, e7, _, _, _⟩ := Kd.R_form HV.out (by simp)
      subst e7
      obtain ⟨m, hm⟩ : ∃ m, m = s.length := ⟨_, rfl⟩
      have hlen1 : (s ++ [a]).length = m + 1 := by rw [hm]; simp
      have hcap := (Kd.R_reads' HV.out).2.1
      have hcell := (Kd.R_cell 0 HV.out (m : Int) (by omega) (by rw [hlen1]; omega)).1
      have hrd : rdOf (0 : Int) (s ++ [a]) (m : Int) = a := by unfold rdOf; rw [hm]; simp
      rw [hrd] at hcell
      simp only [Int.toNat_natCast] at hcell
      have hmx := (Kd.C_max (Kd.R_reads' HV.out).2.2)
      rw [hlen1] at hmx hcap ⊢
      have HM := Aside0.mk hm
      have HLN := Aside0.mk hlen1
      have hA : I64 a := HY.out a (by simp)
      have HA := Aside0.mk hA
      have HH1 := HH.out
      rw [reachL_snoc] at HH1
      have HHS := Aside0.mk HH1
      have t1 : decide (((m + 1 : Nat) : Int) > 0) = true := decide_eq_true (by omega)
      have t2 : decide ((0 : Int) < ((m + 1 : Nat) : Int)) = true := decide_eq_true (by omega)
      have t3 : decide (0 < m + 1) = true := decide_eq_true (by omega)
      clear hm hlen1 hrd hA HH1 HH
      cases hf : firstAt l0 0 a with
      | none =>
        have HF := Aside0.mk hf
        clear hf
        go_wp2_with (first | ((with_reducible refine gate_dst (N := 33) rfl ?_); refine im_look_ok rfl rfl rfl HQ.out.own1 rfl HA.out ?_; rw [HF.out]; simp only [Option.getD_none, Option.isSome_none]))
        go_roundg gk
        case measure => omega
        case rel => exact ⟨s, come, ⟨by have := HHS.out; rw [HF.out] at this; exact this⟩, ⟨by have := Kd.R_take HV.out (m := m) (by rw [HLN.out]; omega); rwa [show (s ++ [a]).take m = s by rw [HM.out]; simp] at this⟩, ⟨fun y hy => HY.out y (List.mem_append.2 (.inl hy))⟩, HQ⟩
      | some iz =>
        obtain ⟨i, rfl, hi⟩ := firstAt_lt l0 0 a iz hf
        rw [Nat.zero_add] at hf
        have HF := Aside0.mk hf
        have HI := Aside0.mk hi
        have HHS2 : Aside0 ((if a ∈ come then reachL gk l0 s come else if (s ++ [a]).length + (nextL (rd_T46 l0 (i : Int))).length ≤ 17592186044416 ∧ come.length < 17592186044416 then reachL gk l0 (s ++ nextL (rd_T46 l0 (i : Int))) (come ++ [a]) else none) = some r) := ⟨by have := HHS.out; rw [HF.out] at this; exact this⟩
        clear hf hi HHS
        by_cases hm : a ∈ come
        · have hmk : mark come a = some 1 := by unfold mark; rw [if_pos hm]
          have HMK := Aside0.mk hmk
          have HH3 : Aside0 (reachL gk l0 s come = some r) := ⟨by have := HHS2.out; rw [if_pos hm] at this; exact this⟩
          clear hmk HHS2 hm
          go_wp2_with (first | ((with_reducible refine gate_dst (N := 33) rfl ?_); refine im_look_ok rfl rfl rfl HQ.out.own1 rfl HA.out ?_; rw [HF.out]; simp only [Option.getD_none, Option.isSome_none, Option.getD_some, Option.isSome_some]) | ((with_reducible refine gate_dst (N := 41) rfl ?_); refine gate_guard (by rfl) ?_; dsimp only; refine im_look rfl rfl rfl HQ.out.own2 rfl HA.out ?_; rw [HMK.out]; simp only [Option.getD_none, Option.getD_some]))
          go_roundg gk
          case measure => omega
          case rel => exact ⟨s, come, HH3, ⟨by have := Kd.R_take HV.out (m := m) (by rw [HLN.out]; omega); rwa [show (s ++ [a]).take m = s by rw [HM.out]; simp] at this⟩, ⟨fun y hy => HY.out y (List.mem_append.2 (.inl hy))⟩, HQ⟩
        · have hmk : mark come a = none := by unfold mark; rw [if_neg hm]
          have HMK := Aside0.mk hmk
          have HMB := Aside0.mk hm
          obtain ⟨x, hx⟩ : ∃ x, x = rd_T46 l0 (i : Int) := ⟨_, rfl⟩
          have HX := Aside0.mk hx
          have hx2 : I64 x.f2 := by have := asOk_at HO.out HI.out; rw [← hx] at this; exact this
          have hxk : okB x.f2 = true := by have := hx2; unfold okB; simp only [Bool.and_eq_true, decide_eq_true_eq]; exact this
          have hnf : flow_Next.f x.f0 x.f1 x.f2 x.f3 = some (nextL x) := by unfold flow_Next.f; rw [if_pos hxk]
          have HNF := Aside0.mk hnf
          have HNK := Aside0.mk (nextL_ok hx2)
          have h4 := HHS2.out
          rw [if_neg hm, ← hx] at h4
          by_cases h5 : (s ++ [a]).length + (nextL x).length ≤ 17592186044416 ∧ come.length < 17592186044416
          case neg => rw [if_neg h5] at h4; cases h4
          rw [if_pos h5] at h4
          have HH3 := Aside0.mk h4
          have H5 := Aside0.mk h5
          have hpop : Kd.R (Kd.int .i64) 3 wr w.heap.size (fun _ => True) (.slice (some ⟨g7, 0, none⟩) m c7) s := by have := Kd.R_take HV.out (m := m) (by rw [HLN.out]; omega); rwa [show (s ++ [a]).take m = s by rw [HM.out]; simp] at this
          have HV := Aside0.mk hpop
          obtain ⟨ad, e1, _⟩ := at_I HR.out HQ.out.below HI.out hx
          cases e1
          have hi := HI.out
          have p5 : (0 ≤ (i : Int)) = True := eq_true (by omega)
          have p6 : ((i : Int) < (l0.length : Int)) = True := eq_true (by omega)
          clear hmk HHS2 hm hx hx2 hxk hnf h4 h5 hpop
          go_wp2_with (first | ((with_reducible refine gate_dst (N := 33) rfl ?_); refine im_look_ok rfl rfl rfl HQ.out.own1 rfl HA.out ?_; rw [HF.out]; simp only [Option.getD_none, Option.isSome_none, Option.getD_some, Option.isSome_some]) | ((with_reducible refine gate_dst (N := 41) rfl ?_); refine gate_guard (by rfl) ?_; dsimp only; refine im_look rfl rfl rfl HQ.out.own2 rfl HA.out ?_; rw [HMK.out]; simp only [Option.getD_none, Option.getD_some]) | (at_mapUpdate; refine im_store rfl rfl rfl HQ.out.own2 (by have := H5.out.2; unfold maxLen; omega) rfl rfl HA.out (by constructor <;> omega) ?_; intro w4 r1 r2; replace HV := Aside0.mk (R_beside HV.out HQ.out.own2 r2); replace HQ := Aside0.mk (HQ.out.stored r1 r2); rw [mark_upd] at HQ; obtain ⟨ad', e1, hx0, hx1, hx2, hx3⟩ := at_I HR.out HQ.out.below HI.out HX.out; cases e1; clear r1 r2 hcell))
          refine (flow_Next.calls x.f0 x.f1 x.f2 x.f3 (nextL x) _ HNF.out).mono ?_
          rintro e w5 ⟨v5, rfl, ho5, hb5⟩
          obtain ⟨A5, c5, e5, hc5, hC5⟩ := Kd.R_reads ho5
          subst e5
          have HC5 := Aside0.mk hC5
          replace HV := Aside0.mk (Kd.R_below HV.out hb5)
          replace HQ := Aside0.mk (HQ.out.step hb5)
          clear ho5 hb5 hc5 hC5 hx0 hx1 hx2 hx3
          go_wp2_with (first | (at_builtin; refine Kd.R_append_rows (Kd.int .i64) (w0 := w) w.heap.size rfl (.tmp 46) (.tmp 51) 27 3 (.int .i64 0) 8 rfl Try.underlying27 info3 rfl (by decide) (by omega) (.slice (some ⟨g7, 0, none⟩) m c7) s (nextL x) _ _ _ (fun _ => True) (fun _ => False) rfl rfl HV.out HC5.out (fun _ _ h => h) (fun _ h => h.elim) (fun _ _ => trivial) HQ.out.below HQ.out.below.size (by have := H5.out.1; rw [List.length_append] at this; simp at this; omega) ?_; intro v8 w6 ho hb hg _; replace HQ := Aside0.mk (HQ.out.grown (Kd.R_typed HV.out) hg hb); replace HV := Aside0.mk ho; clear ho hb hg))
          go_roundg gk
          case measure => omega
          case rel => exact ⟨s ++ nextL x, come ++ [a], HH3, HV, ⟨fun y hy => by
            rcases List.mem_append.1 hy with hy | hy
            · exact HY.out y (List.mem_append.2 (.inl hy))
            · exact HNK.out y hy⟩, ⟨by rw [List.length_append]; exact HQ.out⟩⟩

end Go.Proofs.Ytcffniaieegbgaa.P

end

section
namespace Go.Proofs.Ytcffniaieegbgaa.P
open Go.RowKit Go.Proofs.YtcffniaieegbgaaW.PrintWords Go.Proofs.YtcffniaieegbgaaW.PrintLast Go.Proofs.YtcffniaieegbgaaW.PrintMore
attribute [local go_sem] max2_int min2_int max_two min_two max_three min_three max_four min_four   -- for this text's walks alone
set_option linter.unusedVariables false
set_option linter.unusedSimpArgs false

def provisoplain_mark.f (a0 : Int) : Option (Int) := some (wrap64 ((Int.tmod a0 250) + 1))
set_option maxHeartbeats 8000000 in
set_option maxRecDepth 100000 in
theorem provisoplain_mark.calls (a0 : Int) (r : Int) (w : World) (h : provisoplain_mark.f a0 = some r) :
    Calls Try.prog 62 #[.int .i64 a0] w fun e w' => e = .returned (.int .i64 r) ∧ Drawn0 w w' := by
  have H : (some (wrap64 ((Int.tmod a0 250) + 1))) = some r := h
  clear h
  obtain rfl := Option.some.inj H
  go_enter Try.func62, Try.ntmps62
  go_wp2
  go_ret
  exact ⟨by first | rfl | (simp; done) | (simp [*]; done), by repeat (first | exact Drawn0.refl _ | apply Drawn0.step)⟩




end Go.Proofs.Ytcffniaieegbgaa.P

end

section
namespace Go.Proofs.Ytcffniaieegbgaa.P
open Go.RowKit Go.Proofs.YtcffniaieegbgaaW.PrintWords Go.Proofs.YtcffniaieegbgaaW.PrintLast Go.Proofs.YtcffniaieegbgaaW.PrintMore
attribute [local go_sem] max2_int min2_int max_two min_two max_three min_three max_four min_four   -- for this text's walks alone
set_option linter.unusedVariables false
set_option linter.unusedSimpArgs false

def flow_ordered.l0 : Nat → List (S46) → Int → Option (Bool)
  | 0, _, _ => none
  | k + 1, x0, x3 => if x3 < (x0.length : Int) then (if 0 ≤ x3 then (if 0 ≤ (wrap64 (x3 - 1)) then (if (wrap64 (x3 - 1)) < (x0.length : Int) then (if ((rd_T46 x0 x3).f0) ≤ ((rd_T46 x0 (wrap64 (x3 - 1))).f0) then (some false) else (flow_ordered.l0 k x0 (wrap64 (x3 + 1)))) else (none)) else (none)) else (none)) else (some true)
def flow_ordered.f (k : Nat) (l0 : List (S46)) : Option (Bool) := flow_ordered.l0 k l0 1
set_option maxHeartbeats 8000000 in
set_option maxRecDepth 100000 in
theorem flow_ordered.calls (k : Nat) (A0 : Option Addr) (c0 : Nat) (l0 : List (S46)) (r : Bool) (w : World) (hr0 : Kd.C k46 w A0 l0.length l0) (hc0 : l0.length ≤ c0) (h : flow_ordered.f k l0 = some r) :
    Calls Try.prog 61 #[.slice A0 l0.length c0] w fun e w' => e = .returned (.bool r) ∧ Drawn0 w w' := by
  have HR0 := Aside0.mk hr0
  have HC0 := Aside0.mk hc0
  clear hr0 hc0
  have H : (flow_ordered.l0 k l0 1) = some r := h
  clear h
  have H' := Aside0.mk H
  clear H
  go_enter Try.func61, Try.ntmps61
  go_wp2
  repeat (go_quiet (fail); try go_wp2)
  go_loopg [3] k (fun kq v3 w' => ∃ (x3_1 : Int), v3 = .int .i64 x3_1 ∧ Aside0 (flow_ordered.l0 kq l0 x3_1 = some r) ∧ Aside0 (kq ≤ k) ∧ Drawn0 w w')
  case atStart => exact ⟨(1), (by first | rfl | (simp; done) | (simp [*]; done)), H', ⟨Nat.le_refl _⟩, by repeat (first | exact Drawn0.refl _ | apply Drawn0.step)⟩
  case round =>
    clear H'
    obtain ⟨x3_1, rfl, HA, HK1, ⟨m1, rfl⟩⟩ := hrel
    cases gk with
    | zero => exact absurd HA.out (by simp [flow_ordered.l0])
    | succ k1 =>
      have H := HA.out
      clear HA
      simp only [flow_ordered.l0] at H
      by_cases c2 : x3_1 < (l0.length : Int)
      · rw [if_pos c2] at H
        have c2b0 : decide (x3_1 < (l0.length : Int)) = true := decide_eq_true c2
        clear c2
        by_cases c3 : 0 ≤ x3_1
        · rw [if_pos c3] at H
          have c3b0 : decide (0 ≤ x3_1) = true := decide_eq_true c3
          clear c3
          obtain ⟨ji4, hji4⟩ : ∃ j_ : Int, (wrap64 (x3_1 - 1)) = j_ := ⟨_, rfl⟩
          replace H : (if 0 ≤ (ji4) then (if (ji4) < (l0.length : Int) then (if ((rd_T46 l0 x3_1).f0) ≤ ((rd_T46 l0 (ji4)).f0) then (some false) else (flow_ordered.l0 k1 l0 (wrap64 (x3_1 + 1)))) else (none)) else (none)) = some r := by first | (rw [hji4] at H; exact H) | (simp only [hji4] at H ⊢; exact H)
          have hji4w : (IntKind.i64.wrap (x3_1 - 1)) = ji4 := (i64_w _).trans hji4
          by_cases c5 : 0 ≤ (ji4)
          · rw [if_pos c5] at H
            have c5b0 : decide (0 ≤ (ji4)) = true := decide_eq_true c5
            clear c5
            by_cases c6 : (ji4) < (l0.length : Int)
            · rw [if_pos c6] at H
              have c6b0 : decide ((ji4) < (l0.length : Int)) = true := decide_eq_true c6
              clear c6
              by_cases c7 : ((rd_T46 l0 x3_1).f0) ≤ ((rd_T46 l0 (ji4)).f0)
              · rw [if_pos c7] at H
                have c7b0 : decide (((rd_T46 l0 x3_1).f0) ≤ ((rd_T46 l0 (ji4)).f0)) = true := decide_eq_true c7
                clear c7
                obtain rfl := Option.some.inj H
                have p384 : 0 ≤ (x3_1 : Int) := of_decide_eq_true (by first | (with_reducible assumption) | assumption)
                have q384 : x3_1 < (l0.length : Int) := of_decide_eq_true (by first | (with_reducible assumption) | assumption)
                obtain ⟨ad384, e384, hx384_0, hx384_1, hx384_2, hx384_3⟩ := at_T46 HR0.out x3_1 p384 q384
                cases e384
                replace p384 := eq_true p384
                replace q384 := eq_true q384
                have p385 : 0 ≤ ((ji4) : Int) := of_decide_eq_true (by first | (with_reducible assumption) | assumption)
                have q385 : (ji4) < (l0.length : Int) := of_decide_eq_true (by first | (with_reducible assumption) | assumption)
                obtain ⟨ad385, e385, hx385_0, hx385_1, hx385_2, hx385_3⟩ := at_T46 HR0.out (ji4) p385 q385
                obtain rfl : ad384 = ad385 := (by injection e385)
                replace p385 := eq_true p385
                replace q385 := eq_true q385
                go_wp2
                repeat (go_quiet (fail); try go_wp2)
                go_ret
                exact ⟨by first | rfl | (simp; done) | (simp only [← hji4] <;> (first | rfl | simp)) | (simp [*]; done), by repeat (first | exact Drawn0.refl _ | apply Drawn0.step)⟩
              · rw [if_neg c7] at H
                have c7b0 : decide (((rd_T46 l0 x3_1).f0) ≤ ((rd_T46 l0 (ji4)).f0)) = false := decide_eq_false c7
                clear c7
                have H' := Aside0.mk H
                clear H
                have p384 : 0 ≤ (x3_1 : Int) := of_decide_eq_true (by first | (with_reducible assumption) | assumption)
                have q384 : x3_1 < (l0.length : Int) := of_decide_eq_true (by first | (with_reducible assumption) | assumption)
                obtain ⟨ad384, e384, hx384_0, hx384_1, hx384_2, hx384_3⟩ := at_T46 HR0.out x3_1 p384 q384
                cases e384
                replace p384 := eq_true p384
                replace q384 := eq_true q384
                have p385 : 0 ≤ ((ji4) : Int) := of_decide_eq_true (by first | (with_reducible assumption) | assumption)
                have q385 : (ji4) < (l0.length : Int) := of_decide_eq_true (by first | (with_reducible assumption) | assumption)
                obtain ⟨ad385, e385, hx385_0, hx385_1, hx385_2, hx385_3⟩ := at_T46 HR0.out (ji4) p385 q385
                obtain rfl : ad384 = ad385 := (by injection e385)
                replace p385 := eq_true p385
                replace q385 := eq_true q385
                go_wp2
                repeat (go_quiet (fail); try go_wp2)
                go_roundg k1
                case measure => have := HK1.out; omega
                case rel => exact ⟨(wrap64 (x3_1 + 1)), (by first | rfl | (simp; done) | (simp [*]; done)), H', ⟨by have := HK1.out; omega⟩, by repeat (first | exact Drawn0.refl _ | apply Drawn0.step)⟩
            · rw [if_neg c6] at H
              exact absurd H (by simp)
          · rw [if_neg c5] at H
            exact absurd H (by simp)
        · rw [if_neg c3] at H
          exact absurd H (by simp)
      · rw [if_neg c2] at H
        have c2b0 : decide (x3_1 < (l0.length : Int)) = false := decide_eq_false c2
        clear c2
        obtain rfl := Option.some.inj H
        go_wp2
        repeat (go_quiet (fail); try go_wp2)
        go_ret
        exact ⟨by first | rfl | (simp; done) | (simp [*]; done), by repeat (first | exact Drawn0.refl _ | apply Drawn0.step)⟩

end Go.Proofs.Ytcffniaieegbgaa.P

end

section
namespace Go.Proofs.Ytcffniaieegbgaa.P
open Go.RowKit Go.Proofs.YtcffniaieegbgaaW.PrintWords Go.Proofs.YtcffniaieegbgaaW.PrintLast Go.Proofs.YtcffniaieegbgaaW.PrintMore
attribute [local go_sem] max2_int min2_int max_two min_two max_three min_three max_four min_four   -- for this text's walks alone
set_option linter.unusedVariables false
set_option linter.unusedSimpArgs false

section
variable {P : Program}
theorem run_append1 (w : World) (base : Nat) (t ty e : TypeId) (i : TypeInfo) (z : Value) (ht : P.underlying t = some (.slice e)) (hi : P.info? e = some i) (hz : i.zero = some z) (hzs : z.cells.size = i.size) (hsz : 0 < i.size)
    (v : Value) (n : Nat) (xs : List Value) (hown : w.ownsRow base e i.size v n xs) (a : Addr) (c : Nat) (news : List Value) (hl : news.length = 1 * i.size) (hnews : ∀ j u, news[j]? = some u → w.cell? (a.add j) = some u) (h1 : ∀ u ∈ news, u.oneCell' = true)
    (h63 : n + 1 ≤ maxLen) (hb1 : i.bytes ≤ 140737488355328) (hfit : Builtin.nextslicecap (n + 1) n * i.bytes ≤ 281474976710656) (hbase : base ≤ w.heap.size) :
    ∃ v' w', (Builtin.append_ #[t, t] ty #[v, .slice (some a) 1 c]).run P w = .ok v' w' ∧ w'.ownsRow base e i.size v' (n + 1) (xs ++ news) ∧ w.grownBy w' v.ownBlock ∧ (v'.ownBlock = v.ownBlock ∨ v'.ownBlock = some w.heap.size) := by
  rcases hown.2 with ⟨rfl, rfl⟩ | ⟨g, cap, cur, rfl, hbg, hg, hnc, hcm, hcs, htake⟩
  · obtain ⟨v', w', h2, h3, h4, _, h5⟩ := run_append_own_at (P := P) w base t ty e i z i.size i.bytes ht hi hz rfl rfl hzs hsz _ 0 xs hown a 1 c news hl hnews h1 (by omega) (by omega) hbase
    exact ⟨v', w', h2, h3, h4, h5⟩
  · have hsmall : n + 1 ≤ 9223372036854775807 := by simp only [maxLen] at h63; omega
    have hlen : (xs ++ news).length = (n + 1) * i.size := by rw [List.length_append, hown.1, hl, Nat.add_mul]
    by_cases hroom : n + 1 ≤ cap
    · have hfit2 : n * i.size + news.length ≤ cur.size := by rw [hl, hcs, ← Nat.add_mul]; exact Nat.mul_le_mul_right _ hroom
      have hr := run_append_room (P := P) w t ty e i ht hi g n cap cur hg a 1 c news hl hnews h1 hroom hfit2
      refine ⟨_, _, hr, ⟨hlen, .inr ⟨g, cap, _, rfl, hbg, setRow_heap w g cur _ e _ hg, hroom, hcm, ?_, ?_⟩⟩, ⟨rfl, rfl, rfl, by simp, fun k _ hk => setRow_other w g k _ (fun e => hk (by simp [Value.ownBlock, e]))⟩, Or.inl rfl⟩
      · simp only [List.size_toArray, List.length_append, List.length_take, List.length_drop, Array.length_toList]
        omega
      · rw [htake, ← hlen]
        exact List.take_left
    · have hcap : cap = n := by omega
      subst hcap
      have holds : ∀ j u, xs[j]? = some u → w.cell? ((⟨g, 0, none⟩ : Addr).add j) = some u := hown.cells (g := g) rfl
      have hr := run_append_grow (P := P) w t ty e i z ht hi hz ⟨g, 0, none⟩ cap cap xs hown.1 holds a 1 c news hl hnews (by omega) (by omega) hfit
      have hge := grownCap_ge w (cap + 1) cap e
      have hcm2 : grownCap w (cap + 1) cap e ≤ maxLen := grownCap_le_maxLen w (cap + 1) cap e h63
      refine ⟨_, _, hr, ⟨hlen, .inr ⟨w.heap.size, _, _, rfl, hbase, heap_alloc_new w.drew _, hge, hcm2, ?_, ?_⟩⟩, ⟨rfl, rfl, rfl, by simp, fun k hk _ => heap_alloc_old w.drew _ hk⟩, Or.inr rfl⟩
      · simp only [Array.size_append, List.size_toArray, size_zeroCells, hzs, hown.1, hl, ← Nat.add_mul]
        congr 1
        omega
      · simp only [Array.toList_append, List.append_assoc]
        rw [← List.append_assoc, ← hlen]
        exact List.take_left
section
variable {ops : Array Oper} {rest : List Oper} {o : Oper} {a : Act} {Q : Exit → Act → World → Prop}
theorem R_append1 {α : Type} (d : Kd α) {w0 W : World} (base : Nat) (hgd : o.guard = none) (s x : Operand) (t e : TypeId) (z : Value) (bytes : Nat)
    (ho : o.op = .call { callee := .builtin .append, args := #[s, x], argTypes := #[t, t] })
    (ht : P.underlying t = some (.slice e)) (hinfo : (P.info? e).map (fun i => (i.zero, i.size, i.bytes)) = some (some z, d.sz, bytes)) (hz : z.cells.size = d.sz) (hs0 : 0 < d.sz) (hb1 : bytes ≤ 140737488355328)
    (v : Value) (xs : List α) (p : α) (cs : List Value) (ok okp : Nat → Prop) (hs : a.eval s = v) (hx : a.eval x = .slice (some ⟨W.heap.size, 0, none⟩) 1 1) (hp : d.M W base okp p cs) (hokp : ∀ k, okp k → ok k ∧ some k ≠ v.ownBlock) (hfresh : ∀ k, W.heap.size ≤ k → ok k)
    (HO : d.R e W base ok v xs) (HB : Below base w0 W) (hbase : base ≤ W.heap.size) (hl : xs.length + 1 ≤ maxLen) (hfit : Builtin.nextslicecap (xs.length + 1) xs.length * bytes ≤ 281474976710656)
    (h : ∀ v1 w1, d.R e w1 base ok v1 (xs ++ [p]) → Below base w0 w1 → W.grownBy w1 v.ownBlock → (v1.ownBlock = v.ownBlock ∨ ∃ b, v1.ownBlock = some b ∧ W.heap.size ≤ b) → wpList P ops Q rest (a.put o.dst v1) w1) :
    wpList P ops Q (o :: rest) a (W.alloc (.cells cs.toArray e)) := by
  obtain ⟨h0, inner, hown, hr⟩ := HO
  obtain ⟨i0, hi, hzz⟩ := Option.map_eq_some_iff.1 hinfo
  simp only [Prod.mk.injEq] at hzz
  obtain ⟨hz0, hz1, hz2⟩ := hzz
  have hcl : cs.length = d.sz := d.K_len (d.K_of_M hp)
  rw [← hz1] at hown hz hs0 hcl
  refine wpList_plain hgd fun K hK => ?_
  obtain ⟨v1, w1, hrun, hown1, hg, hat⟩ := run_append1 (P := P) (W.alloc (.cells cs.toArray e)) base t o.type e i0 z ht hi hz0 hz hs0 v xs.length inner (hown.alloc _) ⟨W.heap.size, 0, none⟩ 1 cs (by rw [hcl]; simp)
    (by simpa using World.news_of_block (cs := cs.toArray) (t := e) (fr := (0, 0)) (heap_alloc_new W (.cells cs.toArray e))) (d.K_one (d.K_of_M hp)) hl (by rw [hz2]; exact hb1) (by rw [hz2]; exact hfit) (by simp; omega)
  unfold Oper.wp execOp
  simp only [ho, resolve, invoke, builtin, Sem.run_bind, Sem.run_pure, Result.andThen_ok, List.map_toArray, List.map_cons, List.map_nil, hs, hx, hrun]
  have hg2 : W.grownBy w1 v.ownBlock := World.grownBy.trans (World.grownBy_alloc W _ _) hg
  have hat2 : v1.ownBlock = v.ownBlock ∨ ∃ b, v1.ownBlock = some b ∧ W.heap.size ≤ b := by
    rcases hat with hat | hat
    · exact .inl hat
    · exact .inr ⟨_, hat, by simp⟩
  rw [hz1] at hown1 hown
  exact hK _ _ (h v1 w1 (Kd.R_appended h0 hr hp hokp hfresh hown1 hg2 hat2) ((HB.alloc hbase _).grown hg (by simp; omega) (own_base hown)) hg2 hat2)
end
end

def followB (x : S46) : Bool := jumpsB x.f1 || endsB x.f1
def follow (l : List S46) : Nat → List Int
  | 0 => []
  | i + 1 => follow l i ++ (if (decide (i + 1 < l.length) && followB (rd_T46 l (i : Int))) = true then [(rd_T46 l ((i + 1 : Nat) : Int)).f0] else [])
def leadK (l : List S46) : List Int := srt (tgts l) ++ follow l l.length
def blkOf (l : List S46) (fr i : Nat) : S35 := ⟨(rd_T46 l (fr : Int)).f0, (rd_T46 l (i : Int)).f0, (nextL (rd_T46 l (i : Int))).filter fun a => (firstAt l 0 a).isSome⟩
def goesOn (l : List S46) (i : Nat) : Bool := decide (i + 1 < l.length) && !decide ((rd_T46 l ((i + 1 : Nat) : Int)).f0 ∈ leadK l)
def blocksL (l : List S46) (fr i : Nat) : Nat → List S35
  | 0 => []
  | d + 1 => if goesOn l i = true then blocksL l fr (i + 1) d else blkOf l fr i :: blocksL l (i + 1) (i + 1) d
def flow_Blocks.f (k : Nat) (l0 : List S46) : Option (List S35) := if l0.length < 4398046511104 ∧ asOk l0 = true ∧ atsOk l0 = true then ((flow_ordered.f k l0).bind fun b => if b = true then some (blocksL l0 0 0 l0.length) else some []) else none
theorem ins_length (n : Int) : ∀ l : List Int, (ins n l).length ≤ l.length + 1
  | [] => by simp [ins]
  | x :: r => by
    unfold ins
    split
    · simp
    · split
      · simp
      · have := ins_length n r
        simp
        omega
theorem srt_length : ∀ (l acc : List Int), (l.foldl (fun acc n => ins n acc) acc).length ≤ l.length + acc.length
  | [], acc => by simp
  | x :: r, acc => by
    have h := srt_length r (ins x acc)
    have h2 := ins_length x acc
    simp only [List.foldl_cons, List.length_cons]
    omega
theorem tgts_facts (l : List S46) (h : asOk l = true) : (srt (tgts l)).length ≤ l.length ∧ ∀ y ∈ srt (tgts l), I64 y := by
  constructor
  · have h1 := srt_length (tgts l) []
    have h2 : (tgts l).length ≤ l.length := by unfold tgts; rw [List.length_map]; exact List.length_filter_le _ _
    unfold srt
    simp at h1
    omega
  · intro y hy
    rw [srt_mem] at hy
    unfold tgts at hy
    obtain ⟨x, hx, rfl⟩ := List.mem_map.1 hy
    have h9 := List.all_eq_true.1 h x (List.mem_filter.1 hx).1
    simp only [Bool.and_eq_true, decide_eq_true_eq] at h9
    exact h9
theorem take_snocI {l : List Int} {i : Nat} (h : i < l.length) : l.take (i + 1) = l.take i ++ [rd l (i : Int)] := by
  rw [List.take_succ_eq_append_getElem h]
  congr 2
  show _ = l.getD (i : Int).toNat 0
  rw [Int.toNat_natCast, List.getD_eq_getElem?_getD, List.getElem?_eq_getElem h]
  rfl
theorem rd_memI {l : List Int} {i : Nat} (h : i < l.length) : rd l (i : Int) ∈ l := by
  have hr : rd l (i : Int) = l[i] := by simp [rd, List.getD_eq_getElem?_getD, h]
  rw [hr]; exact List.getElem_mem h
theorem blk_M {W : World} {base : Nat} {ok : Nat → Prop} {f t : Int} {v : Value} {ns : List Int} (h : Kd.R (Kd.int .i64) 3 W base ok v ns) : Kd.M k35 W base ok (⟨f, t, ns⟩ : S35) [.int .i64 f, .int .i64 t, v] :=
  ⟨[.int .i64 f], [.int .i64 t, v], rfl, rfl, [.int .i64 t], [v], rfl, rfl, v, rfl, h⟩
theorem blk_fits {n : Nat} (h : n ≤ 4398046511104) : Builtin.nextslicecap (n + 1) n * 40 ≤ 281474976710656 := by
  unfold Builtin.nextslicecap
  split
  · omega
  · split
    · omega
    · have h1 : ∀ r c : Nat, n + 1 ≤ c → Builtin.growBy (n + 1) r c = c := fun r c hc => by
        cases r with
        | zero => rfl
        | succ r => unfold Builtin.growBy; rw [if_pos hc]
      unfold Builtin.growBy
      rw [if_neg (by omega), h1 3 _ (by omega)]
      omega
theorem Mq.kept {w0 W W1 : World} {B1 n1 B2 n2 : Nat} {g1 g2 : Int → Option Int} (h : Mq w0 B1 n1 g1 B2 n2 g2 W) {b : Nat} {cs : Array Value} {t : TypeId} (hb : W.heap[b]? = some (.cells cs t (0, 0))) (hk : Kept W W1 (fun k => k = b)) (hl : Below w0.heap.size w0 W1) : Mq w0 B1 n1 g1 B2 n2 g2 W1 :=
  ⟨h.own1.block (hk.2 B1 h.own1.lt (h.own1.ne hb)), h.own2.block (hk.2 B2 h.own2.lt (h.own2.ne hb)), h.ne, h.base1, h.base2, hl⟩
theorem Rws.besides {w0 W W1 : World} {l : List (Nat × TypeId × Array Value)} (h : Rws w0 l W) {v : Value} {e : Nat} (ht : ∀ k, v.ownBlock = some k → ∃ cells, W.heap[k]? = some (.cells cells e (0, 0))) (hne : ∀ p ∈ l, p.2.1 ≠ e) (hg : W.grownBy W1 v.ownBlock) (hb : Below w0.heap.size w0 W1) : Rws w0 l W1 :=
  ⟨fun p hp => ⟨blk_grown (h.lies p hp).1 hg (fun q => by
    obtain ⟨cs, hc⟩ := ht _ q.symm
    rw [(h.lies p hp).1] at hc
    injection hc with hc
    injection hc with _ hc
    exact hne p hp hc), (h.lies p hp).2⟩, h.ne, hb⟩
section
variable {ops : Array Oper} {rest : List Oper} {o : Oper} {a : Act} {Q : Exit → Act → World → Prop}
theorem mp_map2 (hgd : o.guard = none) {m x v : Operand} (ho : o.op = .mapUpdate 68 m x v) {w0 W : World} {B n : Nat} {g : Int → Option Int} {l : List (Nat × TypeId × Array Value)} (hm : a.eval m = .map (some B)) (hl : Mp w0 B n g l W) (hn : n < maxLen) {k c : Int} (hx : a.eval x = .int .i64 k) (hv : a.eval v = .int .i64 c) (hk : I64 k) (hc : I64 c)
    (h : ∀ w1, Mp w0 B (n + 1) (upd g k c) l w1 → W.grownBy w1 (some B) → wpList Try.prog ops Q rest (a.put o.dst undef) w1) : wpList Try.prog ops Q (o :: rest) a W :=
  im_store hgd ho hm hl.own hn hx hv hk hc (fun w1 r1 r2 => h w1 (hl.stored r1 r2) r2)
end
theorem mark_get (ks : List Int) (y : Int) : (mark ks y).getD 0 = if y ∈ ks then 1 else 0 := by
  unfold mark
  by_cases h : y ∈ ks
  · rw [if_pos h, if_pos h]; rfl
  · rw [if_neg h, if_neg h]; rfl
theorem filter_take (p : Int → Bool) {l : List Int} {i : Nat} (h : i < l.length) : (l.take (i + 1)).filter p = (l.take i).filter p ++ (if p (rd l (i : Int)) = true then [rd l (i : Int)] else []) := by
  rw [take_snocI h, List.filter_append]
  congr 1
  cases hp : p (rd l (i : Int)) <;> simp [hp]
theorem nextL_le2 (x : S46) : (nextL x).length ≤ 2 := by
  unfold nextL
  split
  · simp
  · split
    · unfold nextKeys srt
      have h1 := ins_length (x.f0 + szOf x.f1) []
      have h2 := ins_length x.f2 []
      have h3 := ins_length x.f2 (ins (x.f0 + szOf x.f1) [])
      split <;> split <;> simp at * <;> omega
    · simp
section
variable {P : Program} {ops : Array Oper} {rest : List Oper} {o : Oper} {a : Act} {Q : Exit → Act → World → Prop}
theorem S_append1 {α : Type} (d : Kd α) {w0 W : World} (base : Nat) (hgd : o.guard = none) (s x : Operand) (t e : TypeId) (z : Value) (bytes : Nat)
    (ho : o.op = .call { callee := .builtin .append, args := #[s, x], argTypes := #[t, t] })
    (ht : P.underlying t = some (.slice e)) (hinfo : (P.info? e).map (fun i => (i.zero, i.size, i.bytes)) = some (some z, d.sz, bytes)) (hz : z.cells.size = d.sz) (hs0 : 0 < d.sz) (hb1 : bytes ≤ 140737488355328)
    (v : Value) (xs : List α) (p : α) (cs : List Value) (ok okp : Nat → Prop) (hs : a.eval s = v) (hx : a.eval x = .slice (some ⟨W.heap.size, 0, none⟩) 1 1) (hp : d.M W base okp p cs) (hokp : ∀ k, okp k → ok k ∧ some k ≠ v.ownBlock) (hfresh : ∀ k, W.heap.size ≤ k → ok k)
    (HO : Kd.S d e W base (fun k => ok k ∧ ¬ okp k) v xs) (HB : Below base w0 W) (hbase : base ≤ W.heap.size) (hl : xs.length + 1 ≤ maxLen) (hfit : Builtin.nextslicecap (xs.length + 1) xs.length * bytes ≤ 281474976710656)
    (h : ∀ v1 w1, Kd.S d e w1 base ok v1 (xs ++ [p]) → Below base w0 w1 → W.grownBy w1 v.ownBlock → (v1.ownBlock = v.ownBlock ∨ ∃ b, v1.ownBlock = some b ∧ W.heap.size ≤ b) → wpList P ops Q rest (a.put o.dst v1) w1) :
    wpList P ops Q (o :: rest) a (W.alloc (.cells cs.toArray e)) := by
  obtain ⟨f, hf, hR⟩ := Kd.S_tag HO xs.length okp (fun _ hk h2 => h2.2 hk)
  refine R_append1 (Kd.tag f d) base hgd s x t e z bytes ho ht hinfo hz hs0 hb1 v xs.zipIdx (p, xs.length) cs ok okp hs hx (d.M_mono (fun k hk => ⟨hk, hf k hk⟩) hp) hokp hfresh (Kd.R_mono hR (fun _ hk => hk.1)) HB hbase (by rw [List.length_zipIdx]; exact hl) (by rw [List.length_zipIdx]; exact hfit) ?_
  intro v1 w1 hr
  rw [← Kd.zip_snoc] at hr
  exact h v1 w1 ⟨f, hr⟩
end
theorem int_own {W : World} {base : Nat} {ok okk : Nat → Prop} {v : Value} {xs : List Int} (h : Kd.R (Kd.int .i64) 3 W base (fun k => ok k ∧ okk k) v xs) : Kd.R (Kd.int .i64) 3 W base (fun k => some k = v.ownBlock ∧ okk k) v xs := ⟨fun k hk => ⟨hk.symm, (h.1 k hk).2⟩, h.2⟩
set_option maxHeartbeats 6400000 in
set_option maxRecDepth 100000 in
theorem flow_Blocks.calls (k : Nat) (A0 : Option Addr) (c0 : Nat) (l0 : List S46) (r : List S35) (w : World) (hr0 : Kd.C k46 w A0 l0.length l0) (hc0 : l0.length ≤ c0) (h : flow_Blocks.f k l0 = some r) :
    Calls Try.prog 39 #[.slice A0 l0.length c0] w fun e w' => ∃ v0_ : Value, e = .returned (v0_) ∧ Kd.S k35 35 w' w.heap.size (fun _ => True) v0_ r ∧ Below w.heap.size w w' := by
  unfold flow_Blocks.f at h
  by_cases hok : l0.length < 4398046511104 ∧ asOk l0 = true ∧ atsOk l0 = true
  case neg => rw [if_neg hok] at h; cases h
  rw [if_pos hok] at h
  obtain ⟨ob, hob, h⟩ := Option.bind_eq_some_iff.1 h
  have HOB := Aside0.mk hob
  have HR := Aside0.mk hr0
  have HCC := Aside0.mk hc0
  have HL := Aside0.mk hok.1
  have HO0 := Aside0.mk hok.2.1
  have HOA := Aside0.mk hok.2.2
  have hlen : l0.length < 4398046511104 := hok.1
  have HRES := Aside0.mk h
  clear hr0 hc0 hob hok h
  go_enter Try.func39, Try.ntmps39
  go_wp2_with fail
  refine (flow_ordered.calls k A0 c0 l0 ob _ HR.out HCC.out HOB.out).mono ?_
  rintro e w1 ⟨rfl, hd⟩
  have HB1 := Aside0.mk hd.below
  clear hd
  cases ob with
  | false =>
    have HV : Aside0 (r = []) := ⟨by have := HRES.out; rw [if_neg (by decide)] at this; exact (Option.some.inj this).symm⟩
    clear HRES
    go_wp2
    go_ret
    exact ⟨_, rfl, by rw [HV.out]; exact Kd.S_nil _ _ _ _ _, HB1.out⟩
  | true =>
    have HV : Aside0 (r = blocksL l0 0 0 l0.length) := ⟨by have := HRES.out; rw [if_pos rfl] at this; exact (Option.some.inj this).symm⟩
    clear HRES
    have HM : Aside0 (Rws w [] w1) := ⟨(Rws.nil w).step HB1.out⟩
    go_wp2_with (first | ((with_reducible refine gate_dst (N := 21) rfl ?_); refine mp_make rfl rfl HM.out ?_; intro B3 w_ hM; replace HM := Aside0.mk hM; clear hM))
    obtain ⟨htl, hti⟩ := tgts_facts l0 HO0.out
    have HTI := Aside0.mk hti
    obtain ⟨ts, hts⟩ : ∃ ts, ts = srt (tgts l0) := ⟨_, rfl⟩
    have hft : flow_Targets.f l0 = some ts := by unfold flow_Targets.f; rw [if_pos HL.out, if_pos HO0.out, hts]
    rw [← hts] at htl hti
    have HTS := Aside0.mk hts
    have HTI := Aside0.mk hti
    have HTL := Aside0.mk htl
    have HFT := Aside0.mk hft
    clear hti hts hft
    refine (flow_Targets.calls A0 c0 l0 ts _ (Kd.C_below HR.out HM.out.below) HCC.out HFT.out).mono ?_
    rintro e w2 ⟨v23, rfl, hR, hb⟩
    obtain ⟨A23, c23, rfl⟩ := Kd.R_slice hR
    have HV23 := Aside0.mk hR
    replace HM := Aside0.mk (HM.out.step hb)
    have hts9 : ts.length < 4398046511104 := by omega
    clear hR hb
    go_wp2_with fail
    go_loopw [25] (fun v25 wr => ∃ (i : Nat), v25 = .int .i64 (i : Int) ∧ i ≤ ts.length ∧ Aside0 (Mp w B3 i (mark (ts.take i)) [] wr) ∧ Aside0 (∃ bb, Kd.R (Kd.int .i64) 3 wr bb (fun _ => True) (.slice A23 ts.length c23) ts)) (fun v25 _ => ((ts.length : Int) - intOf v25).toNat)
    case atStart => exact ⟨0, rfl, Nat.zero_le _, ⟨mark_nil ▸ HM.out⟩, ⟨⟨_, HV23.out⟩⟩⟩
    case round =>
      rename_i wr
      clear HM HV23
      obtain ⟨i, rfl, hi, HM, HV23⟩ := hrel
      by_cases c1 : i < ts.length
      · have c1b : decide ((i : Int) < (ts.length : Int)) = true := decide_eq_true (by omega)
        obtain ⟨bb, hV23⟩ := HV23.out
        obtain ⟨ad, e1, hx⟩ := Kd.at_int (Kd.R_reads' hV23).2.2 (i : Int) (by omega) (by omega)
        have HV := Aside0.mk hV23
        cases e1
        simp only [Int.toNat_natCast] at hx
        have p5 : (0 ≤ (i : Int)) = True := eq_true (by omega)
        have p6 : ((i : Int) < (ts.length : Int)) = True := eq_true (by omega)
        have HK := Aside0.mk (HTI.out _ (rd_memI c1))
        have HS := Aside0.mk (take_snocI c1)
        have HW := Aside0.mk (wrap_next (show i < 4398046511104 by omega))
        generalize rd ts (i : Int) = t at hx HK HS
        clear HV23 hV23
        go_wp2_with (first | (at_mapUpdate; refine mp_map2 rfl rfl rfl HM.out (by unfold maxLen; omega) rfl rfl HK.out (by constructor <;> omega) ?_; intro w_ hM hg9; replace HV := Aside0.mk (R_beside HV.out HM.out.own hg9); replace HM := Aside0.mk hM; clear hM hx hg9))
        go_roundw
        case rel => exact ⟨i + 1, by have := HW.out; first | rfl | (simp; done), by omega, ⟨by rw [HS.out, ← mark_upd]; exact HM.out⟩, ⟨⟨_, HV.out⟩⟩⟩
        case measure => simp [intOf]; omega
      · have e9 : i = ts.length := by omega
        have c1b : decide ((i : Int) < (ts.length : Int)) = false := decide_eq_false (by omega)
        have c1c : decide (i < ts.length) = false := decide_eq_false (by omega)
        have HM : Aside0 (Mp w B3 (ts.length + 0) (mark (ts ++ follow l0 0)) [] wr) := ⟨by have := HM.out; rw [e9, List.take_of_length_le (Nat.le_refl _)] at this; show Mp w B3 ts.length (mark (ts ++ [])) [] wr; rw [List.append_nil]; exact this⟩
        clear e9 c1 hi HV23
        go_wp2
        go_loopw [34] (fun v34 wr => ∃ (i : Nat), v34 = .int .i64 (i : Int) ∧ i ≤ l0.length ∧ Aside0 (Mp w B3 (ts.length + i) (mark (ts ++ follow l0 i)) [] wr)) (fun v34 _ => ((l0.length : Int) - intOf v34).toNat)
        case atStart => exact ⟨0, rfl, Nat.zero_le _, HM⟩
        case round =>
          clear HM
          obtain ⟨i, rfl, hi, HM⟩ := hrel
          by_cases c1 : i < l0.length
          · obtain ⟨x, hx⟩ : ∃ x, x = rd_T46 l0 (i : Int) := ⟨_, rfl⟩
            obtain ⟨ad, e1, hx0, hx1, hx2, hx3⟩ := at_I HR.out HM.out.below c1 hx
            cases e1
            have HX := Aside0.mk hx
            have HI : Aside0 (i < l0.length) := ⟨c1⟩
            have c1b : decide ((i : Int) < (l0.length : Int)) = true := decide_eq_true (by omega)
            have p5 : (0 ≤ (i : Int)) = True := eq_true (by omega)
            have p6 : ((i : Int) < (l0.length : Int)) = True := eq_true (by omega)
            have HW := Aside0.mk (wrap_next (show i < 4398046511104 by omega))
            have HFO : Aside0 (follow l0 (i + 1) = follow l0 i ++ (if (decide (i + 1 < l0.length) && (jumpsB x.f1 || endsB x.f1)) = true then [(rd_T46 l0 ((i + 1 : Nat) : Int)).f0] else [])) := ⟨by rw [hx]; rfl⟩
            clear hx
            by_cases c2 : i + 1 < l0.length
            · have c2b : decide ((i : Int) + 1 < (l0.length : Int)) = true := decide_eq_true (by omega)
              have HFO : Aside0 (follow l0 (i + 1) = follow l0 i ++ (if (jumpsB x.f1 || endsB x.f1) = true then [(rd_T46 l0 ((i + 1 : Nat) : Int)).f0] else [])) := ⟨by rw [HFO.out, decide_eq_true c2, Bool.true_and]⟩
              have HC2 := Aside0.mk c2
              clear c2
              go_wp2_with (first | ((with_reducible refine gate_dst (N := 7) rfl ?_); refine mp_alloc rfl 46 rfl (cs := #[.int .i64 0, .int .u8 0, .int .i64 0, .int .i64 0]) (by kernel_rfl) HM.out ?_; intro b w_ hM; replace HM := Aside0.mk hM; clear hM) | ((with_reducible refine gate_store (t := 46) (p := 7) rfl ?_); refine mp_store rfl 46 rfl rfl (cs' := #[.int .i64 x.f0, .int .u8 x.f1, .int .i64 x.f2, .int .i64 x.f3]) rfl HM.out (by kernel_rfl) rfl (by show _ = _; kernel_rfl) ?_; intro w_ hM; have f0 := blk_cell (hM.rows.mem List.mem_cons_self) 0; have f1 := blk_cell (hM.rows.mem List.mem_cons_self) 1; have f2 := blk_cell (hM.rows.mem List.mem_cons_self) 2; have f3 := blk_cell (hM.rows.mem List.mem_cons_self) 3; replace HM := Aside0.mk hM; clear hM hx0 hx1 hx2 hx3))
              refine (code_Jumps.calls x.f1 (jumpsB x.f1) _ (jumps_is x.f1)).mono ?_
              rintro e w_ ⟨rfl, hd⟩
              clear f0 f1 f2 f3
              replace HM := Aside0.mk (HM.out.step hd.below)
              clear hd
              obtain ⟨y, hy⟩ : ∃ y, y = rd_T46 l0 ((i + 1 : Nat) : Int) := ⟨_, rfl⟩
              have HY := Aside0.mk hy
              have HKY : Aside0 (I64 y.f0) := ⟨by have := atsOk_at HOA.out HC2.out; rw [← hy] at this; exact this⟩
              rw [← hy] at HFO
              clear hy
              have p7 : (0 ≤ (i : Int) + 1) = True := eq_true (by omega)
              have p8 : ((i : Int) + 1 < (l0.length : Int)) = True := eq_true (by have := HC2.out; omega)
              have p9 : ((i : Int) + 1).toNat = i + 1 := by omega
              cases qj : jumpsB x.f1 with
              | true =>
                have HFO : Aside0 (follow l0 (i + 1) = follow l0 i ++ [y.f0]) := ⟨by rw [HFO.out, qj]; rfl⟩
                clear qj
                obtain ⟨ad', e1, hy0, hy1, hy2, hy3⟩ := at_I HR.out HM.out.below HC2.out HY.out
                cases e1
                go_wp2_with (first | (at_mapUpdate; refine mp_map rfl rfl rfl HM.out (by unfold maxLen; omega) rfl rfl HKY.out (by constructor <;> omega) ?_; intro w_ hM; replace HM := Aside0.mk hM; clear hM hy0 hy1 hy2 hy3))
                go_roundw
                case rel => exact ⟨i + 1, by have := HW.out; first | rfl | (simp; done), by omega, ⟨by have h9 := HM.out.clear; rw [mark_upd, List.append_assoc, ← HFO.out] at h9; exact h9⟩⟩
                case measure => simp [intOf]; omega
              | false =>
                have f0 := blk_cell (HM.out.rows.mem List.mem_cons_self) 0
                have f1 := blk_cell (HM.out.rows.mem List.mem_cons_self) 1
                have f2 := blk_cell (HM.out.rows.mem List.mem_cons_self) 2
                have f3 := blk_cell (HM.out.rows.mem List.mem_cons_self) 3
                go_wp2_with fail
                refine (code_Ends.calls x.f1 (endsB x.f1) _ (ends_is x.f1)).mono ?_
                rintro e w_ ⟨rfl, hd⟩
                clear f0 f1 f2 f3
                replace HM := Aside0.mk (HM.out.step hd.below)
                clear hd
                cases qe : endsB x.f1 with
                | true =>
                  have HFO : Aside0 (follow l0 (i + 1) = follow l0 i ++ [y.f0]) := ⟨by rw [HFO.out, qj, qe]; rfl⟩
                  clear qj qe
                  obtain ⟨ad', e1, hy0, hy1, hy2, hy3⟩ := at_I HR.out HM.out.below HC2.out HY.out
                  cases e1
                  go_wp2_with (first | (at_mapUpdate; refine mp_map rfl rfl rfl HM.out (by unfold maxLen; omega) rfl rfl HKY.out (by constructor <;> omega) ?_; intro w_ hM; replace HM := Aside0.mk hM; clear hM hy0 hy1 hy2 hy3))
                  go_roundw
                  case rel => exact ⟨i + 1, by have := HW.out; first | rfl | (simp; done), by omega, ⟨by have h9 := HM.out.clear; rw [mark_upd, List.append_assoc, ← HFO.out] at h9; exact h9⟩⟩
                  case measure => simp [intOf]; omega
                | false =>
                  have HFO : Aside0 (follow l0 (i + 1) = follow l0 i) := ⟨by rw [HFO.out, qj, qe]; simp⟩
                  clear qj qe
                  go_wp2
                  go_roundw
                  case rel => exact ⟨i + 1, by have := HW.out; first | rfl | (simp; done), by omega, ⟨by rw [HFO.out]; exact HM.out.clear.more⟩⟩
                  case measure => simp [intOf]; omega
            · have c2b : decide ((i : Int) + 1 < (l0.length : Int)) = false := decide_eq_false (by omega)
              have HFO : Aside0 (follow l0 (i + 1) = follow l0 i) := ⟨by rw [HFO.out, decide_eq_false c2]; simp⟩
              clear c2
              go_wp2_with (first | ((with_reducible refine gate_dst (N := 7) rfl ?_); refine mp_alloc rfl 46 rfl (cs := #[.int .i64 0, .int .u8 0, .int .i64 0, .int .i64 0]) (by kernel_rfl) HM.out ?_; intro b w_ hM; replace HM := Aside0.mk hM; clear hM) | ((with_reducible refine gate_store (t := 46) (p := 7) rfl ?_); refine mp_store rfl 46 rfl rfl (cs' := #[.int .i64 x.f0, .int .u8 x.f1, .int .i64 x.f2, .int .i64 x.f3]) rfl HM.out (by kernel_rfl) rfl (by show _ = _; kernel_rfl) ?_; intro w_ hM; have f0 := blk_cell (hM.rows.mem List.mem_cons_self) 0; have f1 := blk_cell (hM.rows.mem List.mem_cons_self) 1; have f2 := blk_cell (hM.rows.mem List.mem_cons_self) 2; have f3 := blk_cell (hM.rows.mem List.mem_cons_self) 3; replace HM := Aside0.mk hM; clear hM hx0 hx1 hx2 hx3))
              clear f0 f1 f2 f3
              go_roundw
              case rel => exact ⟨i + 1, by have := HW.out; first | rfl | (simp; done), by omega, ⟨by rw [HFO.out]; exact HM.out.clear.more⟩⟩
              case measure => simp [intOf]; omega
          · have e9 : i = l0.length := by omega
            have c1b : decide ((i : Int) < (l0.length : Int)) = false := decide_eq_false (by omega)
            have c1c : decide (i < l0.length) = false := decide_eq_false (by omega)
            have HM : Aside0 (Mp w B3 (ts.length + l0.length) (mark (leadK l0)) [] wr) := ⟨by have := HM.out; rw [e9, HTS.out] at this; rw [HTS.out]; exact this⟩
            clear e9 c1 hi
            go_wp2_with fail
            refine (addresses_calls A0 c0 l0 _ (Kd.C_below HR.out HM.out.below) HOA.out HL.out).mono ?_
            rintro e w5 ⟨B8, rfl, hM8⟩
            have hQ : Mq w B8 l0.length (firstAt l0 0) B3 (ts.length + l0.length) (mark (leadK l0)) w5 := ⟨hM8.own, HM.out.own.below hM8.below, fun e => by have := hM8.base; have := HM.out.own.lt; omega, Nat.le_trans HM.out.below.size hM8.base, HM.out.base, below_then HM.out.below HM.out.below.size hM8.below⟩
            have HQ := Aside0.mk hQ
            have HO9 : Aside0 (Kd.S k35 35 w5 w.heap.size (fun _ => True) (.slice none 0 0) []) := ⟨Kd.S_nil _ _ _ _ _⟩
            clear hM8 hQ HM
            go_wp2_with fail
            go_loopw [9, 10, 66] (fun v9 v10 v66 wr => ∃ (i fr : Nat) (bs : List S35), v66 = .int .i64 (i : Int) ∧ v10 = .int .i64 (fr : Int) ∧ i ≤ l0.length ∧ Aside0 (fr ≤ i ∧ bs.length ≤ i) ∧ Aside0 (r = bs ++ blocksL l0 fr i (l0.length - i)) ∧ Aside0 (Mq w B8 l0.length (firstAt l0 0) B3 (ts.length + l0.length) (mark (leadK l0)) wr) ∧ Aside0 (Kd.S k35 35 wr w.heap.size (fun _ => True) v9 bs)) (fun _ _ v66 _ => ((l0.length : Int) - intOf v66).toNat)
            case atStart => exact ⟨0, 0, [], rfl, rfl, Nat.zero_le _, ⟨by simp⟩, HV, HQ, HO9⟩
            case round =>
              clear HQ HO9 HV
              obtain ⟨i, fr, bs, rfl, rfl, hi, HF, HG, HQ, HO⟩ := hrel
              by_cases c1 : i < l0.length
              · obtain ⟨x, hx⟩ : ∃ x, x = rd_T46 l0 (i : Int) := ⟨_, rfl⟩
                obtain ⟨ad, e1, hx0, hx1, hx2, hx3⟩ := at_I HR.out HQ.out.below c1 hx
                cases e1
                have HX := Aside0.mk hx
                have HI : Aside0 (i < l0.length) := ⟨c1⟩
                have c1b : decide ((i : Int) < (l0.length : Int)) = true := decide_eq_true (by omega)
                have p5 : (0 ≤ (i : Int)) = True := eq_true (by omega)
                have p6 : ((i : Int) < (l0.length : Int)) = True := eq_true (by omega)
                have HW := Aside0.mk (wrap_next (show i < 4398046511104 by omega))
                have HRW : Aside0 (Rws w [] wr) := ⟨⟨fun _ h => by simp at h, by simp, HQ.out.below⟩⟩
                have HG : Aside0 (r = bs ++ (if goesOn l0 i = true then blocksL l0 fr (i + 1) (l0.length - (i + 1)) else blkOf l0 fr i :: blocksL l0 (i + 1) (i + 1) (l0.length - (i + 1)))) := ⟨by rw [HG.out, show l0.length - i = (l0.length - (i + 1)) + 1 by omega]; rfl⟩
                clear hx
                by_cases c2 : i + 1 < l0.length
                · have c2b : decide ((i : Int) + 1 < (l0.length : Int)) = true := decide_eq_true (by omega)
                  obtain ⟨y, hy⟩ : ∃ y, y = rd_T46 l0 ((i + 1 : Nat) : Int) := ⟨_, rfl⟩
                  have HY := Aside0.mk hy
                  have HC2 := Aside0.mk c2
                  have HKY : Aside0 (I64 y.f0) := ⟨by have := atsOk_at HOA.out c2; rw [← hy] at this; exact this⟩
                  have p7 : (0 ≤ (i : Int) + 1) = True := eq_true (by omega)
                  have p8 : ((i : Int) + 1 < (l0.length : Int)) = True := eq_true (by omega)
                  have p9 : ((i : Int) + 1).toNat = i + 1 := by omega
                  by_cases c3 : y.f0 ∈ leadK l0
                  · have hgo : goesOn l0 i = false := by unfold goesOn; rw [← hy, decide_eq_true c3]; simp
                    have HG : Aside0 (r = bs ++ (blkOf l0 fr i :: blocksL l0 (i + 1) (i + 1) (l0.length - (i + 1)))) := ⟨by rw [HG.out, hgo, if_neg (by decide)]⟩
                    have HMG : Aside0 ((mark (leadK l0) y.f0).getD 0 = 1) := ⟨by rw [mark_get, if_pos c3]⟩
                    clear hy c2 c3 hgo
                    go_wp2_with (first | ((with_reducible refine gate_dst (N := 12) rfl ?_); refine rw_alloc rfl 46 rfl (cs := #[.int .i64 0, .int .u8 0, .int .i64 0, .int .i64 0]) (by kernel_rfl) HRW.out ?_; intro b12 w_ hg9 hX hb9; replace HO := Aside0.mk (Kd.S_below (Kd.S_elderB HO.out b12 (by omega)) hb9); replace HQ := Aside0.mk (HQ.out.step hb9); replace HRW := Aside0.mk hX; clear hX hg9 hb9) | ((with_reducible refine gate_store (t := 46) (p := 12) rfl ?_); refine rw_store rfl 46 rfl rfl (cs' := #[.int .i64 x.f0, .int .u8 x.f1, .int .i64 x.f2, .int .i64 x.f3]) rfl [] HRW.out (by kernel_rfl) rfl (by show _ = _; kernel_rfl) ?_; intro w_ hX hk9; (try simp only [List.nil_append] at hX); replace HO := Aside0.mk (Kd.S_mono (Kd.S_step HO.out (fun j hj hlt => hk9.2 j hlt hj.2)) (fun _ _ => trivial) : Kd.S k35 35 w_ w.heap.size (fun _ => True) _ bs); replace HQ := Aside0.mk (HQ.out.kept (HRW.out.mem List.mem_cons_self) hk9 hX.below); replace HRW := Aside0.mk hX; clear hX hk9 hx0 hx1 hx2 hx3; obtain ⟨ad', e1, hy0, _, _, _⟩ := at_I HR.out HQ.out.below HC2.out HY.out; cases e1) | ((with_reducible refine gate_dst (N := 84) rfl ?_); refine gate_guard (by rfl) ?_; dsimp only; refine im_look rfl rfl rfl HQ.out.own2 rfl HKY.out ?_; rw [HMG.out]))
                    obtain ⟨z, hz⟩ : ∃ z, z = rd_T46 l0 (fr : Int) := ⟨_, rfl⟩
                    have HZ := Aside0.mk hz
                    have HFL : Aside0 (fr < l0.length) := ⟨by have := HF.out; have := HI.out; omega⟩
                    have pf5 : (0 ≤ (fr : Int)) = True := eq_true (by omega)
                    have pf6 : ((fr : Int) < (l0.length : Int)) = True := eq_true (by have := HFL.out; omega)
                    have HG : Aside0 (r = bs ++ (⟨z.f0, x.f0, (nextL x).filter fun a => (firstAt l0 0 a).isSome⟩ :: blocksL l0 (i + 1) (i + 1) (l0.length - (i + 1)))) := ⟨by rw [HG.out]; unfold blkOf; rw [← hz, ← HX.out]⟩
                    clear hz
                    (try simp only [Act.put, List.setIfInBounds_toArray, List.set_cons_zero, List.set_cons_succ])
                    refine wp_region_held_drew (S := fun w' => Rws w [(b12, 46, #[.int .i64 x.f0, .int .u8 x.f1, .int .i64 x.f2, .int .i64 x.f3])] w') (by kernel_rfl) ?_ (fun hHeld => ?_)
                    · exact HRW.out.drewN 1
                    replace HRW := Aside0.mk (HRW.out.drewN 1)
                    replace HQ := Aside0.mk (HQ.out.step (pw_below_drewN (Below.refl _ _) 1))
                    replace HO := Aside0.mk (Kd.S_drewN HO.out 1)
                    refine take_dst (i := 0) (v := ?_) 87 rfl rfl (by kernel_rfl) (by kernel_rfl) (by kernel_rfl) (fun _ _ _ h => h) (Or.inl ⟨by rfl, ?_⟩) (by assumption) ?_
                    rotate_left
                    · intro w9 hSw
                      have f0 := blk_cell (hSw.mem List.mem_cons_self) 0
                      obtain ⟨ad', e1, hz0, _⟩ := at_I HR.out hSw.below HFL.out HZ.out
                      cases e1
                      go_simp
                      try with_reducible rfl
                    (try simp only [Act.put, List.setIfInBounds_toArray, List.set_cons_zero, List.set_cons_succ])
                    refine take_dst (i := 1) (v := ?_) 88 rfl rfl (by kernel_rfl) (by kernel_rfl) (by kernel_rfl) (fun _ _ _ h => h) (Or.inl ⟨by rfl, ?_⟩) (by assumption) ?_
                    rotate_left
                    · intro w9 hSw
                      have f0 := blk_cell (hSw.mem List.mem_cons_self) 0
                      obtain ⟨ad', e1, hz0, _⟩ := at_I HR.out hSw.below HFL.out HZ.out
                      cases e1
                      go_simp
                      try with_reducible rfl
                    (try simp only [Act.put, List.setIfInBounds_toArray, List.set_cons_zero, List.set_cons_succ])
                    refine take_dst (i := 2) (v := ?_) 89 rfl rfl (by kernel_rfl) (by kernel_rfl) (by kernel_rfl) (fun _ _ _ h => h) (Or.inl ⟨by rfl, ?_⟩) (by assumption) ?_
                    rotate_left
                    · intro w9 hSw
                      have f0 := blk_cell (hSw.mem List.mem_cons_self) 0
                      obtain ⟨ad', e1, hz0, _⟩ := at_I HR.out hSw.below HFL.out HZ.out
                      cases e1
                      go_simp
                      try with_reducible rfl
                    (try simp only [Act.put, List.setIfInBounds_toArray, List.set_cons_zero, List.set_cons_succ])
                    refine take_dst (i := 3) (v := ?_) 90 rfl rfl (by kernel_rfl) (by kernel_rfl) (by kernel_rfl) (fun _ _ _ h => h) (Or.inl ⟨by rfl, ?_⟩) (by assumption) ?_
                    rotate_left
                    · intro w9 hSw
                      have f0 := blk_cell (hSw.mem List.mem_cons_self) 0
                      obtain ⟨ad', e1, hz0, _⟩ := at_I HR.out hSw.below HFL.out HZ.out
                      cases e1
                      go_simp
                      try with_reducible rfl
                    (try simp only [Act.put, List.setIfInBounds_toArray, List.set_cons_zero, List.set_cons_succ])
                    refine take_dst (i := 4) (v := ?_) 91 rfl rfl (by kernel_rfl) (by kernel_rfl) (by kernel_rfl) (fun _ _ _ h => h) (Or.inl ⟨by rfl, ?_⟩) (by assumption) ?_
                    rotate_left
                    · intro w9 hSw
                      have f0 := blk_cell (hSw.mem List.mem_cons_self) 0
                      obtain ⟨ad', e1, hz0, _⟩ := at_I HR.out hSw.below HFL.out HZ.out
                      cases e1
                      go_simp
                      try with_reducible rfl
                    (try simp only [Act.put, List.setIfInBounds_toArray, List.set_cons_zero, List.set_cons_succ])
                    refine take_dst (i := 5) (v := ?_) 92 rfl rfl (by kernel_rfl) (by kernel_rfl) (by kernel_rfl) (fun _ _ _ h => h) (Or.inl ⟨by rfl, ?_⟩) (by assumption) ?_
                    rotate_left
                    · intro w9 hSw
                      have f0 := blk_cell (hSw.mem List.mem_cons_self) 0
                      obtain ⟨ad', e1, hz0, _⟩ := at_I HR.out hSw.below HFL.out HZ.out
                      cases e1
                      go_simp
                      try with_reducible rfl
                    (try simp only [Act.put, List.setIfInBounds_toArray, List.set_cons_zero, List.set_cons_succ])
                    refine take_dst (i := 6) (v := ?_) 93 rfl rfl (by kernel_rfl) (by kernel_rfl) (by kernel_rfl) (fun _ _ _ h => h) (Or.inl ⟨by rfl, ?_⟩) (by assumption) ?_
                    rotate_left
                    · intro w9 hSw
                      have f0 := blk_cell (hSw.mem List.mem_cons_self) 0
                      obtain ⟨ad', e1, hz0, _⟩ := at_I HR.out hSw.below HFL.out HZ.out
                      cases e1
                      go_simp
                      try with_reducible rfl
                    (try simp only [Act.put, List.setIfInBounds_toArray, List.set_cons_zero, List.set_cons_succ])
                    refine take_dst (i := 7) (v := ?_) 94 rfl rfl (by kernel_rfl) (by kernel_rfl) (by kernel_rfl) (fun _ _ _ h => h) (Or.inl ⟨by rfl, ?_⟩) (by assumption) ?_
                    rotate_left
                    · intro w9 hSw
                      have f0 := blk_cell (hSw.mem List.mem_cons_self) 0
                      obtain ⟨ad', e1, hz0, _⟩ := at_I HR.out hSw.below HFL.out HZ.out
                      cases e1
                      go_simp
                      try with_reducible rfl
                    (try simp only [Act.put, List.setIfInBounds_toArray, List.set_cons_zero, List.set_cons_succ])
                    refine wpAnyH_ready (rs := [8]) (by kernel_rfl) (by simp) ?_
                    refine AllReadyH.cons rfl (fun K hK => ?_) AllReadyH.nil
                    refine Eq.mpr (if_pos (by rfl)) ?_
                    refine rw_alloc_wp 35 rfl (cs := #[.int .i64 0, .int .i64 0, .slice none 0 0]) (by kernel_rfl) HRW.out ?_
                    intro b13 w7 hg9 hX hb9
                    replace HO := Aside0.mk (Kd.S_below (Kd.S_elderB HO.out b13 (Nat.le_of_eq hg9.symm)) hb9)
                    replace HQ := Aside0.mk (HQ.out.step hb9)
                    replace HRW := Aside0.mk hX
                    refine hK.out _ _ hX.tail (fun hHeld => ?_)
                    (try simp only [Act.put, List.setIfInBounds_toArray, List.set_cons_zero, List.set_cons_succ])
                    clear hK K hX hg9 hb9
                    refine wpAnyH_ready (rs := [9]) (by kernel_rfl) (by simp) ?_
                    refine AllReadyH.cons rfl (fun K hK => ?_) AllReadyH.nil
                    refine Eq.mpr (if_pos (by rfl)) ?_
                    refine rw_store_wp 35 rfl rfl (cs' := #[.int .i64 z.f0, .int .i64 x.f0, .slice none 0 0]) rfl [] HRW.out (by kernel_rfl) rfl (by show _ = _; kernel_rfl) ?_
                    intro w8 hX hk9
                    (try simp only [List.nil_append] at hX)
                    replace HO := Aside0.mk (Kd.S_step HO.out (fun j hj hlt => hk9.2 j hlt hj.2))
                    replace HQ := Aside0.mk (HQ.out.kept (HRW.out.mem List.mem_cons_self) hk9 hX.below)
                    replace HRW := Aside0.mk hX
                    refine hK.out _ _ hX.tail (fun hHeld => ?_)
                    (try simp only [Act.put, List.setIfInBounds_toArray, List.set_cons_zero, List.set_cons_succ])
                    clear hK K hX hk9
                    refine wpAnyH_done (by kernel_rfl) ?_ _
                    go_wp2_with (first | ((with_reducible refine gate_dst (N := 95) rfl ?_); refine rw_load rfl 46 rfl rfl HRW.out (List.mem_cons_of_mem _ List.mem_cons_self) _ Try.underlying46 rfl (by kernel_rfl) ?_))
                    have hxk : I64 x.f2 := by have := asOk_at HO0.out HI.out; rw [← HX.out] at this; exact this
                    have HNK := Aside0.mk (nextL_ok hxk)
                    have hnf : flow_Next.f x.f0 x.f1 x.f2 x.f3 = some (nextL x) := by
                      unfold flow_Next.f
                      rw [if_pos (by unfold okB; rw [decide_eq_true hxk.1, decide_eq_true hxk.2]; rfl)]
                    have HNF := Aside0.mk hnf
                    clear hxk hnf
                    refine (flow_Next.calls x.f0 x.f1 x.f2 x.f3 (nextL x) _ HNF.out).mono ?_
                    rintro e w9 ⟨v96, rfl, hR, hb⟩
                    obtain ⟨A96, c96, rfl⟩ := Kd.R_slice hR
                    obtain ⟨nx, hnx⟩ : ∃ nx, nx = nextL x := ⟨_, rfl⟩
                    rw [← hnx] at hR ⊢
                    have HNX := Aside0.mk hnx
                    have HNK : Aside0 (∀ y ∈ nx, I64 y) := ⟨by rw [hnx]; exact HNK.out⟩
                    have hnl : nx.length ≤ 2 := by rw [hnx]; exact nextL_le2 x
                    have HN : Aside0 (Kd.R (Kd.int .i64) 3 w9 w.heap.size (fun j => True ∧ some j ≠ (Value.slice none 0 0).ownBlock) (.slice A96 nx.length c96) nx) := ⟨Kd.R_apart_nil (Kd.R_lower hR HRW.out.below.size)⟩
                    replace HO : Aside0 (Kd.S k35 35 w9 w.heap.size (fun j => (True ∧ j ≠ b13) ∧ some j ≠ (Value.slice none 0 0).ownBlock) _ bs) := ⟨Kd.S_apart_nil (Kd.S_below HO.out hb)⟩
                    replace HQ := Aside0.mk (HQ.out.step hb)
                    replace HRW := Aside0.mk (HRW.out.step hb)
                    have HV2 : Aside0 (Kd.R (Kd.int .i64) 3 w9 w.heap.size (fun _ => True) (.slice none 0 0) []) := ⟨Kd.R_nil _ _ _ _ _⟩
                    clear hR hb hnx
                    go_wp2_with fail
                    go_loopw [98] (fun v98 wr => ∃ (j : Nat) (v2 : Value) (ns : List Int), v98 = .int .i64 (j : Int) ∧ j ≤ nx.length ∧ Aside0 (ns = (nx.take j).filter fun a => (firstAt l0 0 a).isSome) ∧ Aside0 (Mq w B8 l0.length (firstAt l0 0) B3 (ts.length + l0.length) (mark (leadK l0)) wr) ∧ Aside0 (Rws w [(b13, 35, #[.int .i64 z.f0, .int .i64 x.f0, v2]), (b12, 46, #[.int .i64 x.f0, .int .u8 x.f1, .int .i64 x.f2, .int .i64 x.f3])] wr) ∧ Aside0 (Kd.R (Kd.int .i64) 3 wr w.heap.size (fun _ => True) v2 ns) ∧ Aside0 (Kd.S k35 35 wr w.heap.size (fun j => (True ∧ j ≠ b13) ∧ some j ≠ v2.ownBlock) u9 bs) ∧ Aside0 (Kd.R (Kd.int .i64) 3 wr w.heap.size (fun j => True ∧ some j ≠ v2.ownBlock) (.slice A96 nx.length c96) nx)) (fun v98 _ => ((nx.length : Int) - intOf v98).toNat)
                    case atStart => exact ⟨0, _, [], rfl, Nat.zero_le _, ⟨by simp⟩, HQ, HRW, HV2, HO, HN⟩
                    case round =>
                      clear HQ HRW HV2 HO HN
                      obtain ⟨j, v2, ns, rfl, hj, HNS, HQ, HRW, HV2, HO, HN⟩ := hrel
                      obtain ⟨A2, c2', e2'⟩ := Kd.R_slice HV2.out
                      have HE2 := Aside0.mk e2'
                      by_cases d1 : j < nx.length
                      · have d1b : decide ((j : Int) < (nx.length : Int)) = true := decide_eq_true (by omega)
                        obtain ⟨ad2, e1, hc⟩ := Kd.at_int (Kd.R_reads' HN.out).2.2 (j : Int) (by omega) (by omega)
                        cases e1
                        simp only [Int.toNat_natCast] at hc
                        have q5 : (0 ≤ (j : Int)) = True := eq_true (by omega)
                        have q6 : ((j : Int) < (nx.length : Int)) = True := eq_true (by omega)
                        have HKA := Aside0.mk (HNK.out _ (rd_memI d1))
                        have HNT := Aside0.mk (filter_take (fun a => (firstAt l0 0 a).isSome) d1)
                        have HWJ := Aside0.mk (wrap_next (show j < 4398046511104 by omega))
                        generalize rd nx (j : Int) = a at hc HKA HNT
                        cases hf : firstAt l0 0 a with
                        | none =>
                          have HFA := Aside0.mk hf
                          have HNS2 : Aside0 (ns = (nx.take (j + 1)).filter fun a => (firstAt l0 0 a).isSome) := ⟨by rw [HNT.out, HFA.out, HNS.out]; simp⟩
                          clear hf e2'
                          go_wp2_with (first | ((with_reducible refine gate_dst (N := 105) rfl ?_); refine im_look_ok rfl rfl rfl HQ.out.own1 rfl HKA.out ?_; rw [HFA.out]; simp only [Option.getD_none, Option.isSome_none]))
                          clear hc
                          go_roundw
                          case rel => exact ⟨j + 1, v2, ns, by have := HWJ.out; first | rfl | (simp; done), by omega, HNS2, HQ, HRW, HV2, HO, HN⟩
                          case measure => simp [intOf]; omega
                        | some iz =>
                          have HFA := Aside0.mk hf
                          have HNS2 : Aside0 (ns ++ [a] = (nx.take (j + 1)).filter fun a => (firstAt l0 0 a).isSome) := ⟨by rw [HNT.out, HFA.out, HNS.out]; simp⟩
                          have HNL : Aside0 (ns.length ≤ 2) := ⟨by rw [HNS.out]; exact Nat.le_trans (List.length_filter_le _ _) (by rw [List.length_take]; omega)⟩
                          subst e2'
                          have g2 := blk_cell (HRW.out.mem List.mem_cons_self) 2
                          clear hf
                          go_wp2_with (first | ((with_reducible refine gate_dst (N := 105) rfl ?_); refine im_look_ok rfl rfl rfl HQ.out.own1 rfl HKA.out ?_; rw [HFA.out]; simp only [Option.getD_some, Option.isSome_some]) | ((with_reducible refine gate_dst (N := 112) rfl ?_); refine Kd.R_lit (Kd.int .i64) _ 3 ?hg (N := 112) ?hd (xs := ([a] : List Int)) (inner := [.int .i64 a]) (ok := fun _ => True) (okp := fun _ => True) ?hr ?hp (fun _ hk => hk) trivial HQ.out.below HQ.out.below.size (by simp) ?_; (case hd => rfl); (case hg => rfl); (case hr => first | (go_simp; done) | (go_simp; rfl)); (case hp => exact (Reps.one (show Kd.M (Kd.int .i64) _ _ _ a [.int .i64 a] from rfl) (Reps.none _ _))); intro v112 w3 ho1 hb1 hg1 _; have hbn := below_none hg1; obtain ⟨A3, c3', e3'⟩ := Kd.R_slice ho1; subst e3'; have HL1 := Aside0.mk (Kd.R_reads' ho1).2.2; replace HQ := Aside0.mk (HQ.out.step hbn); replace HRW := Aside0.mk (HRW.out.step hbn); replace HV2 := Aside0.mk (Kd.R_below HV2.out hbn); replace HO := Aside0.mk (Kd.S_below HO.out hbn); replace HN := Aside0.mk (Kd.R_below HN.out hbn); clear ho1 hb1 hg1 hbn hc g2) | (at_builtin; refine Kd.R_append_rows (Kd.int .i64) (w0 := w) w.heap.size rfl (.tmp 110) (.tmp 112) 27 3 (.int .i64 0) 8 rfl Try.underlying27 info3 rfl (by decide) (by omega) _ ns [a] _ _ _ (fun _ => True) (fun _ => False) rfl rfl HV2.out HL1.out (fun _ _ h => h) (fun _ h => h.elim) (fun _ _ => trivial) HQ.out.below HQ.out.below.size (by have := HNL.out; simp; omega) ?_; intro v5 w4 ho hb hg hat; replace HO := Aside0.mk (Kd.S_after HO.out hg hat); replace HN := Aside0.mk (Kd.R_after HN.out hg hat); replace HRW := Aside0.mk (HRW.out.besides (Kd.R_typed HV2.out) (by intro p hp; simp at hp; rcases hp with rfl | rfl; (show (35 : Nat) ≠ 3; decide); (show (46 : Nat) ≠ 3; decide)) hg hb); replace HQ := Aside0.mk (HQ.out.grown (Kd.R_typed HV2.out) hg hb); replace HV2 := Aside0.mk ho; clear ho hb hg hat; obtain ⟨A5, c5, e5⟩ := Kd.R_slice HV2.out; subst e5) | ((with_reducible refine gate_store (t := 27) (p := 114) rfl ?_); refine rw_cell rfl 27 rfl (i := 2) rfl rfl rfl [] HRW.out (by show (_ : Nat) < 3; decide) (by kernel_rfl) ?_; intro w6 hX hk9; replace HV2 := Aside0.mk (Kd.R_mono (Kd.R_step (Kd.R_types HV2.out (HRW.out.mem List.mem_cons_self) (by intro q hq; simp [Kd.int, Kd.scalar] at hq; rw [hq]; show (_ : Nat) ≠ _; decide)) (fun j hj hlt => hk9.2 j hlt hj.2)) (fun _ _ => trivial) : Kd.R (Kd.int .i64) 3 w6 w.heap.size (fun _ => True) _ (ns ++ [a])); replace HN := Aside0.mk (Kd.R_mono (Kd.R_step (Kd.R_types HN.out (HRW.out.mem List.mem_cons_self) (by intro q hq; simp [Kd.int, Kd.scalar] at hq; rw [hq]; show (_ : Nat) ≠ _; decide)) (fun j hj hlt => hk9.2 j hlt hj.2)) (fun _ h => h.1)); replace HO := Aside0.mk (Kd.S_step HO.out (fun j hj hlt => hk9.2 j hlt hj.1.2)); replace HQ := Aside0.mk (HQ.out.kept (HRW.out.mem List.mem_cons_self) hk9 hX.below); replace HRW := Aside0.mk hX; clear hX hk9))
                          go_roundw
                          case rel => exact ⟨j + 1, .slice A5 (ns ++ [a]).length c5, ns ++ [a], by have := HWJ.out; first | rfl | (simp; done), by omega, HNS2, HQ, ⟨by rw [show (ns ++ [a]).length = ns.length + 1 from by simp]; refine Eq.mp ?_ HRW.out; kernel_rfl⟩, HV2, HO, HN⟩
                          case measure => simp [intOf]; omega
                      · have d1b : decide ((j : Int) < (nx.length : Int)) = false := decide_eq_false (by omega)
                        have d1c : decide (j < nx.length) = false := decide_eq_false (by omega)
                        have HG : Aside0 (r = bs ++ [(⟨z.f0, x.f0, ns⟩ : S35)] ++ blocksL l0 (i + 1) (i + 1) (l0.length - (i + 1))) := ⟨by rw [HG.out, HNS.out, List.take_of_length_le (by omega), HNX.out]; simp⟩
                        subst e2'
                        obtain ⟨A9, c9, e9⟩ := Kd.S_slice HO.out
                        subst e9
                        clear d1 hj
                        go_wp2_with (first | ((with_reducible refine gate_dst (N := 117) rfl ?_); refine rw_load rfl 35 rfl rfl HRW.out List.mem_cons_self _ Try.underlying35 rfl (by kernel_rfl) ?_) | (at_builtin; (refine S_append1 k35 (w0 := w) w.heap.size rfl (.tmp 116) (.tmp 118) 29 35 (.agg #[.int .i64 0, .int .i64 0, .slice none 0 0]) 40 rfl Try.underlying29 (by kernel_rfl) rfl (by show (0 : Nat) < 3; decide) (by decide) (.slice A9 bs.length c9) bs (⟨z.f0, x.f0, ns⟩ : S35) [.int .i64 z.f0, .int .i64 x.f0, .slice A2 ns.length c2'] (fun _ => True) (fun j => some j = (Value.slice A2 ns.length c2').ownBlock ∧ some j ≠ (Value.slice A9 bs.length c9).ownBlock) rfl rfl (blk_M (int_own (Kd.R_apartR HV2.out (Kd.S_R HO.out) (by intro q hq; simp [Kd.int, Kd.scalar] at hq; rw [hq]; show (3 : Nat) ≠ 35; decide)))) (fun j hj => ⟨trivial, hj.2⟩) (fun _ _ => trivial) (Kd.S_mono HO.out (fun j hj => ⟨trivial, fun h9 => hj.2 h9.1⟩)) HQ.out.below HQ.out.below.size (by have := HF.out; have := HL.out; have := HI.out; unfold maxLen; omega) (blk_fits (by have := HF.out; have := HL.out; have := HI.out; omega)) ?_; intro v7 w7 ho hb hg hat; replace HQ := Aside0.mk (HQ.out.grown (Kd.S_typed HO.out) hg hb); replace HO := Aside0.mk ho; clear ho hb hg hat)))
                        go_roundw
                        case rel => exact ⟨i + 1, i + 1, bs ++ [(⟨z.f0, x.f0, ns⟩ : S35)], by have := HW.out; first | rfl | (simp; done), by have := HW.out; first | rfl | (simp; done), by omega, ⟨⟨Nat.le_refl _, by have := HF.out; simp; omega⟩⟩, ⟨HG.out⟩, HQ, HO⟩
                        case measure => simp [intOf]; omega
                  · have hgo : goesOn l0 i = true := by unfold goesOn; rw [← hy, decide_eq_true c2, decide_eq_false c3]; rfl
                    have HG : Aside0 (r = bs ++ blocksL l0 fr (i + 1) (l0.length - (i + 1))) := ⟨by rw [HG.out, hgo, if_pos rfl]⟩
                    have HMG : Aside0 ((mark (leadK l0) y.f0).getD 0 = 0) := ⟨by rw [mark_get, if_neg c3]⟩
                    clear hy c2 c3 hgo
                    go_wp2_with (first | ((with_reducible refine gate_dst (N := 12) rfl ?_); refine rw_alloc rfl 46 rfl (cs := #[.int .i64 0, .int .u8 0, .int .i64 0, .int .i64 0]) (by kernel_rfl) HRW.out ?_; intro b12 w_ hg9 hX hb9; replace HO := Aside0.mk (Kd.S_below (Kd.S_elderB HO.out b12 (by omega)) hb9); replace HQ := Aside0.mk (HQ.out.step hb9); replace HRW := Aside0.mk hX; clear hX hg9 hb9) | ((with_reducible refine gate_store (t := 46) (p := 12) rfl ?_); refine rw_store rfl 46 rfl rfl (cs' := #[.int .i64 x.f0, .int .u8 x.f1, .int .i64 x.f2, .int .i64 x.f3]) rfl [] HRW.out (by kernel_rfl) rfl (by show _ = _; kernel_rfl) ?_; intro w_ hX hk9; (try simp only [List.nil_append] at hX); replace HO := Aside0.mk (Kd.S_mono (Kd.S_step HO.out (fun j hj hlt => hk9.2 j hlt hj.2)) (fun _ _ => trivial) : Kd.S k35 35 w_ w.heap.size (fun _ => True) _ bs); replace HQ := Aside0.mk (HQ.out.kept (HRW.out.mem List.mem_cons_self) hk9 hX.below); replace HRW := Aside0.mk hX; clear hX hk9 hx0 hx1 hx2 hx3; obtain ⟨ad', e1, hy0, _, _, _⟩ := at_I HR.out HQ.out.below HC2.out HY.out; cases e1) | ((with_reducible refine gate_dst (N := 84) rfl ?_); refine gate_guard (by rfl) ?_; dsimp only; refine im_look rfl rfl rfl HQ.out.own2 rfl HKY.out ?_; rw [HMG.out]))
                    clear hy0
                    go_roundw
                    case rel => exact ⟨i + 1, fr, bs, by have := HW.out; first | rfl | (simp; done), rfl, by omega, ⟨⟨by have := HF.out; omega, by have := HF.out; omega⟩⟩, HG, HQ, HO⟩
                    case measure => simp [intOf]; omega
                · have c2b : decide ((i : Int) + 1 < (l0.length : Int)) = false := decide_eq_false (by omega)
                  have hgo : goesOn l0 i = false := by unfold goesOn; rw [decide_eq_false c2]; rfl
                  have HG : Aside0 (r = bs ++ (blkOf l0 fr i :: blocksL l0 (i + 1) (i + 1) (l0.length - (i + 1)))) := ⟨by rw [HG.out, hgo, if_neg (by decide)]⟩
                  clear c2 hgo
                  go_wp2_with (first | ((with_reducible refine gate_dst (N := 12) rfl ?_); refine rw_alloc rfl 46 rfl (cs := #[.int .i64 0, .int .u8 0, .int .i64 0, .int .i64 0]) (by kernel_rfl) HRW.out ?_; intro b12 w_ hg9 hX hb9; replace HO := Aside0.mk (Kd.S_below (Kd.S_elderB HO.out b12 (by omega)) hb9); replace HQ := Aside0.mk (HQ.out.step hb9); replace HRW := Aside0.mk hX; clear hX hg9 hb9) | ((with_reducible refine gate_store (t := 46) (p := 12) rfl ?_); refine rw_store rfl 46 rfl rfl (cs' := #[.int .i64 x.f0, .int .u8 x.f1, .int .i64 x.f2, .int .i64 x.f3]) rfl [] HRW.out (by kernel_rfl) rfl (by show _ = _; kernel_rfl) ?_; intro w_ hX hk9; (try simp only [List.nil_append] at hX); replace HO := Aside0.mk (Kd.S_mono (Kd.S_step HO.out (fun j hj hlt => hk9.2 j hlt hj.2)) (fun _ _ => trivial) : Kd.S k35 35 w_ w.heap.size (fun _ => True) _ bs); replace HQ := Aside0.mk (HQ.out.kept (HRW.out.mem List.mem_cons_self) hk9 hX.below); replace HRW := Aside0.mk hX; clear hX hk9 hx0 hx1 hx2 hx3))
                  obtain ⟨z, hz⟩ : ∃ z, z = rd_T46 l0 (fr : Int) := ⟨_, rfl⟩
                  have HZ := Aside0.mk hz
                  have HFL : Aside0 (fr < l0.length) := ⟨by have := HF.out; have := HI.out; omega⟩
                  have pf5 : (0 ≤ (fr : Int)) = True := eq_true (by omega)
                  have pf6 : ((fr : Int) < (l0.length : Int)) = True := eq_true (by have := HFL.out; omega)
                  have HG : Aside0 (r = bs ++ (⟨z.f0, x.f0, (nextL x).filter fun a => (firstAt l0 0 a).isSome⟩ :: blocksL l0 (i + 1) (i + 1) (l0.length - (i + 1)))) := ⟨by rw [HG.out]; unfold blkOf; rw [← hz, ← HX.out]⟩
                  clear hz
                  (try simp only [Act.put, List.setIfInBounds_toArray, List.set_cons_zero, List.set_cons_succ])
                  refine wp_region_held_drew (S := fun w' => Rws w [(b12, 46, #[.int .i64 x.f0, .int .u8 x.f1, .int .i64 x.f2, .int .i64 x.f3])] w') (by kernel_rfl) ?_ (fun hHeld => ?_)
                  · exact HRW.out.drewN 1
                  replace HRW := Aside0.mk (HRW.out.drewN 1)
                  replace HQ := Aside0.mk (HQ.out.step (pw_below_drewN (Below.refl _ _) 1))
                  replace HO := Aside0.mk (Kd.S_drewN HO.out 1)
                  refine take_dst (i := 0) (v := ?_) 87 rfl rfl (by kernel_rfl) (by kernel_rfl) (by kernel_rfl) (fun _ _ _ h => h) (Or.inl ⟨by rfl, ?_⟩) (by assumption) ?_
                  rotate_left
                  · intro w9 hSw
                    have f0 := blk_cell (hSw.mem List.mem_cons_self) 0
                    obtain ⟨ad', e1, hz0, _⟩ := at_I HR.out hSw.below HFL.out HZ.out
                    cases e1
                    go_simp
                    try with_reducible rfl
                  (try simp only [Act.put, List.setIfInBounds_toArray, List.set_cons_zero, List.set_cons_succ])
                  refine take_dst (i := 1) (v := ?_) 88 rfl rfl (by kernel_rfl) (by kernel_rfl) (by kernel_rfl) (fun _ _ _ h => h) (Or.inl ⟨by rfl, ?_⟩) (by assumption) ?_
                  rotate_left
                  · intro w9 hSw
                    have f0 := blk_cell (hSw.mem List.mem_cons_self) 0
                    obtain ⟨ad', e1, hz0, _⟩ := at_I HR.out hSw.below HFL.out HZ.out
                    cases e1
                    go_simp
                    try with_reducible rfl
                  (try simp only [Act.put, List.setIfInBounds_toArray, List.set_cons_zero, List.set_cons_succ])
                  refine take_dst (i := 2) (v := ?_) 89 rfl rfl (by kernel_rfl) (by kernel_rfl) (by kernel_rfl) (fun _ _ _ h => h) (Or.inl ⟨by rfl, ?_⟩) (by assumption) ?_
                  rotate_left
                  · intro w9 hSw
                    have f0 := blk_cell (hSw.mem List.mem_cons_self) 0
                    obtain ⟨ad', e1, hz0, _⟩ := at_I HR.out hSw.below HFL.out HZ.out
                    cases e1
                    go_simp
                    try with_reducible rfl
                  (try simp only [Act.put, List.setIfInBounds_toArray, List.set_cons_zero, List.set_cons_succ])
                  refine take_dst (i := 3) (v := ?_) 90 rfl rfl (by kernel_rfl) (by kernel_rfl) (by kernel_rfl) (fun _ _ _ h => h) (Or.inl ⟨by rfl, ?_⟩) (by assumption) ?_
                  rotate_left
                  · intro w9 hSw
                    have f0 := blk_cell (hSw.mem List.mem_cons_self) 0
                    obtain ⟨ad', e1, hz0, _⟩ := at_I HR.out hSw.below HFL.out HZ.out
                    cases e1
                    go_simp
                    try with_reducible rfl
                  (try simp only [Act.put, List.setIfInBounds_toArray, List.set_cons_zero, List.set_cons_succ])
                  refine take_dst (i := 4) (v := ?_) 91 rfl rfl (by kernel_rfl) (by kernel_rfl) (by kernel_rfl) (fun _ _ _ h => h) (Or.inl ⟨by rfl, ?_⟩) (by assumption) ?_
                  rotate_left
                  · intro w9 hSw
                    have f0 := blk_cell (hSw.mem List.mem_cons_self) 0
                    obtain ⟨ad', e1, hz0, _⟩ := at_I HR.out hSw.below HFL.out HZ.out
                    cases e1
                    go_simp
                    try with_reducible rfl
                  (try simp only [Act.put, List.setIfInBounds_toArray, List.set_cons_zero, List.set_cons_succ])
                  refine take_dst (i := 5) (v := ?_) 92 rfl rfl (by kernel_rfl) (by kernel_rfl) (by kernel_rfl) (fun _ _ _ h => h) (Or.inl ⟨by rfl, ?_⟩) (by assumption) ?_
                  rotate_left
                  · intro w9 hSw
                    have f0 := blk_cell (hSw.mem List.mem_cons_self) 0
                    obtain ⟨ad', e1, hz0, _⟩ := at_I HR.out hSw.below HFL.out HZ.out
                    cases e1
                    go_simp
                    try with_reducible rfl
                  (try simp only [Act.put, List.setIfInBounds_toArray, List.set_cons_zero, List.set_cons_succ])
                  refine take_dst (i := 6) (v := ?_) 93 rfl rfl (by kernel_rfl) (by kernel_rfl) (by kernel_rfl) (fun _ _ _ h => h) (Or.inl ⟨by rfl, ?_⟩) (by assumption) ?_
                  rotate_left
                  · intro w9 hSw
                    have f0 := blk_cell (hSw.mem List.mem_cons_self) 0
                    obtain ⟨ad', e1, hz0, _⟩ := at_I HR.out hSw.below HFL.out HZ.out
                    cases e1
                    go_simp
                    try with_reducible rfl
                  (try simp only [Act.put, List.setIfInBounds_toArray, List.set_cons_zero, List.set_cons_succ])
                  refine take_dst (i := 7) (v := ?_) 94 rfl rfl (by kernel_rfl) (by kernel_rfl) (by kernel_rfl) (fun _ _ _ h => h) (Or.inl ⟨by rfl, ?_⟩) (by assumption) ?_
                  rotate_left
                  · intro w9 hSw
                    have f0 := blk_cell (hSw.mem List.mem_cons_self) 0
                    obtain ⟨ad', e1, hz0, _⟩ := at_I HR.out hSw.below HFL.out HZ.out
                    cases e1
                    go_simp
                    try with_reducible rfl
                  (try simp only [Act.put, List.setIfInBounds_toArray, List.set_cons_zero, List.set_cons_succ])
                  refine wpAnyH_ready (rs := [8]) (by kernel_rfl) (by simp) ?_
                  refine AllReadyH.cons rfl (fun K hK => ?_) AllReadyH.nil
                  refine Eq.mpr (if_pos (by rfl)) ?_
                  refine rw_alloc_wp 35 rfl (cs := #[.int .i64 0, .int .i64 0, .slice none 0 0]) (by kernel_rfl) HRW.out ?_
                  intro b13 w7 hg9 hX hb9
                  replace HO := Aside0.mk (Kd.S_below (Kd.S_elderB HO.out b13 (Nat.le_of_eq hg9.symm)) hb9)
                  replace HQ := Aside0.mk (HQ.out.step hb9)
                  replace HRW := Aside0.mk hX
                  refine hK.out _ _ hX.tail (fun hHeld => ?_)
                  (try simp only [Act.put, List.setIfInBounds_toArray, List.set_cons_zero, List.set_cons_succ])
                  clear hK K hX hg9 hb9
                  refine wpAnyH_ready (rs := [9]) (by kernel_rfl) (by simp) ?_
                  refine AllReadyH.cons rfl (fun K hK => ?_) AllReadyH.nil
                  refine Eq.mpr (if_pos (by rfl)) ?_
                  refine rw_store_wp 35 rfl rfl (cs' := #[.int .i64 z.f0, .int .i64 x.f0, .slice none 0 0]) rfl [] HRW.out (by kernel_rfl) rfl (by show _ = _; kernel_rfl) ?_
                  intro w8 hX hk9
                  (try simp only [List.nil_append] at hX)
                  replace HO := Aside0.mk (Kd.S_step HO.out (fun j hj hlt => hk9.2 j hlt hj.2))
                  replace HQ := Aside0.mk (HQ.out.kept (HRW.out.mem List.mem_cons_self) hk9 hX.below)
                  replace HRW := Aside0.mk hX
                  refine hK.out _ _ hX.tail (fun hHeld => ?_)
                  (try simp only [Act.put, List.setIfInBounds_toArray, List.set_cons_zero, List.set_cons_succ])
                  clear hK K hX hk9
                  refine wpAnyH_done (by kernel_rfl) ?_ _
                  go_wp2_with (first | ((with_reducible refine gate_dst (N := 95) rfl ?_); refine rw_load rfl 46 rfl rfl HRW.out (List.mem_cons_of_mem _ List.mem_cons_self) _ Try.underlying46 rfl (by kernel_rfl) ?_))
                  have hxk : I64 x.f2 := by have := asOk_at HO0.out HI.out; rw [← HX.out] at this; exact this
                  have HNK := Aside0.mk (nextL_ok hxk)
                  have hnf : flow_Next.f x.f0 x.f1 x.f2 x.f3 = some (nextL x) := by
                    unfold flow_Next.f
                    rw [if_pos (by unfold okB; rw [decide_eq_true hxk.1, decide_eq_true hxk.2]; rfl)]
                  have HNF := Aside0.mk hnf
                  clear hxk hnf
                  refine (flow_Next.calls x.f0 x.f1 x.f2 x.f3 (nextL x) _ HNF.out).mono ?_
                  rintro e w9 ⟨v96, rfl, hR, hb⟩
                  obtain ⟨A96, c96, rfl⟩ := Kd.R_slice hR
                  obtain ⟨nx, hnx⟩ : ∃ nx, nx = nextL x := ⟨_, rfl⟩
                  rw [← hnx] at hR ⊢
                  have HNX := Aside0.mk hnx
                  have HNK : Aside0 (∀ y ∈ nx, I64 y) := ⟨by rw [hnx]; exact HNK.out⟩
                  have hnl : nx.length ≤ 2 := by rw [hnx]; exact nextL_le2 x
                  have HN : Aside0 (Kd.R (Kd.int .i64) 3 w9 w.heap.size (fun j => True ∧ some j ≠ (Value.slice none 0 0).ownBlock) (.slice A96 nx.length c96) nx) := ⟨Kd.R_apart_nil (Kd.R_lower hR HRW.out.below.size)⟩
                  replace HO : Aside0 (Kd.S k35 35 w9 w.heap.size (fun j => (True ∧ j ≠ b13) ∧ some j ≠ (Value.slice none 0 0).ownBlock) _ bs) := ⟨Kd.S_apart_nil (Kd.S_below HO.out hb)⟩
                  replace HQ := Aside0.mk (HQ.out.step hb)
                  replace HRW := Aside0.mk (HRW.out.step hb)
                  have HV2 : Aside0 (Kd.R (Kd.int .i64) 3 w9 w.heap.size (fun _ => True) (.slice none 0 0) []) := ⟨Kd.R_nil _ _ _ _ _⟩
                  clear hR hb hnx
                  go_wp2_with fail
                  go_loopw [98] (fun v98 wr => ∃ (j : Nat) (v2 : Value) (ns : List Int), v98 = .int .i64 (j : Int) ∧ j ≤ nx.length ∧ Aside0 (ns = (nx.take j).filter fun a => (firstAt l0 0 a).isSome) ∧ Aside0 (Mq w B8 l0.length (firstAt l0 0) B3 (ts.length + l0.length) (mark (leadK l0)) wr) ∧ Aside0 (Rws w [(b13, 35, #[.int .i64 z.f0, .int .i64 x.f0, v2]), (b12, 46, #[.int .i64 x.f0, .int .u8 x.f1, .int .i64 x.f2, .int .i64 x.f3])] wr) ∧ Aside0 (Kd.R (Kd.int .i64) 3 wr w.heap.size (fun _ => True) v2 ns) ∧ Aside0 (Kd.S k35 35 wr w.heap.size (fun j => (True ∧ j ≠ b13) ∧ some j ≠ v2.ownBlock) u9 bs) ∧ Aside0 (Kd.R (Kd.int .i64) 3 wr w.heap.size (fun j => True ∧ some j ≠ v2.ownBlock) (.slice A96 nx.length c96) nx)) (fun v98 _ => ((nx.length : Int) - intOf v98).toNat)
                  case atStart => exact ⟨0, _, [], rfl, Nat.zero_le _, ⟨by simp⟩, HQ, HRW, HV2, HO, HN⟩
                  case round =>
                    clear HQ HRW HV2 HO HN
                    obtain ⟨j, v2, ns, rfl, hj, HNS, HQ, HRW, HV2, HO, HN⟩ := hrel
                    obtain ⟨A2, c2', e2'⟩ := Kd.R_slice HV2.out
                    have HE2 := Aside0.mk e2'
                    by_cases d1 : j < nx.length
                    · have d1b : decide ((j : Int) < (nx.length : Int)) = true := decide_eq_true (by omega)
                      obtain ⟨ad2, e1, hc⟩ := Kd.at_int (Kd.R_reads' HN.out).2.2 (j : Int) (by omega) (by omega)
                      cases e1
                      simp only [Int.toNat_natCast] at hc
                      have q5 : (0 ≤ (j : Int)) = True := eq_true (by omega)
                      have q6 : ((j : Int) < (nx.length : Int)) = True := eq_true (by omega)
                      have HKA := Aside0.mk (HNK.out _ (rd_memI d1))
                      have HNT := Aside0.mk (filter_take (fun a => (firstAt l0 0 a).isSome) d1)
                      have HWJ := Aside0.mk (wrap_next (show j < 4398046511104 by omega))
                      generalize rd nx (j : Int) = a at hc HKA HNT
                      cases hf : firstAt l0 0 a with
                      | none =>
                        have HFA := Aside0.mk hf
                        have HNS2 : Aside0 (ns = (nx.take (j + 1)).filter fun a => (firstAt l0 0 a).isSome) := ⟨by rw [HNT.out, HFA.out, HNS.out]; simp⟩
                        clear hf e2'
                        go_wp2_with (first | ((with_reducible refine gate_dst (N := 105) rfl ?_); refine im_look_ok rfl rfl rfl HQ.out.own1 rfl HKA.out ?_; rw [HFA.out]; simp only [Option.getD_none, Option.isSome_none]))
                        clear hc
                        go_roundw
                        case rel => exact ⟨j + 1, v2, ns, by have := HWJ.out; first | rfl | (simp; done), by omega, HNS2, HQ, HRW, HV2, HO, HN⟩
                        case measure => simp [intOf]; omega
                      | some iz =>
                        have HFA := Aside0.mk hf
                        have HNS2 : Aside0 (ns ++ [a] = (nx.take (j + 1)).filter fun a => (firstAt l0 0 a).isSome) := ⟨by rw [HNT.out, HFA.out, HNS.out]; simp⟩
                        have HNL : Aside0 (ns.length ≤ 2) := ⟨by rw [HNS.out]; exact Nat.le_trans (List.length_filter_le _ _) (by rw [List.length_take]; omega)⟩
                        subst e2'
                        have g2 := blk_cell (HRW.out.mem List.mem_cons_self) 2
                        clear hf
                        go_wp2_with (first | ((with_reducible refine gate_dst (N := 105) rfl ?_); refine im_look_ok rfl rfl rfl HQ.out.own1 rfl HKA.out ?_; rw [HFA.out]; simp only [Option.getD_some, Option.isSome_some]) | ((with_reducible refine gate_dst (N := 112) rfl ?_); refine Kd.R_lit (Kd.int .i64) _ 3 ?hg (N := 112) ?hd (xs := ([a] : List Int)) (inner := [.int .i64 a]) (ok := fun _ => True) (okp := fun _ => True) ?hr ?hp (fun _ hk => hk) trivial HQ.out.below HQ.out.below.size (by simp) ?_; (case hd => rfl); (case hg => rfl); (case hr => first | (go_simp; done) | (go_simp; rfl)); (case hp => exact (Reps.one (show Kd.M (Kd.int .i64) _ _ _ a [.int .i64 a] from rfl) (Reps.none _ _))); intro v112 w3 ho1 hb1 hg1 _; have hbn := below_none hg1; obtain ⟨A3, c3', e3'⟩ := Kd.R_slice ho1; subst e3'; have HL1 := Aside0.mk (Kd.R_reads' ho1).2.2; replace HQ := Aside0.mk (HQ.out.step hbn); replace HRW := Aside0.mk (HRW.out.step hbn); replace HV2 := Aside0.mk (Kd.R_below HV2.out hbn); replace HO := Aside0.mk (Kd.S_below HO.out hbn); replace HN := Aside0.mk (Kd.R_below HN.out hbn); clear ho1 hb1 hg1 hbn hc g2) | (at_builtin; refine Kd.R_append_rows (Kd.int .i64) (w0 := w) w.heap.size rfl (.tmp 110) (.tmp 112) 27 3 (.int .i64 0) 8 rfl Try.underlying27 info3 rfl (by decide) (by omega) _ ns [a] _ _ _ (fun _ => True) (fun _ => False) rfl rfl HV2.out HL1.out (fun _ _ h => h) (fun _ h => h.elim) (fun _ _ => trivial) HQ.out.below HQ.out.below.size (by have := HNL.out; simp; omega) ?_; intro v5 w4 ho hb hg hat; replace HO := Aside0.mk (Kd.S_after HO.out hg hat); replace HN := Aside0.mk (Kd.R_after HN.out hg hat); replace HRW := Aside0.mk (HRW.out.besides (Kd.R_typed HV2.out) (by intro p hp; simp at hp; rcases hp with rfl | rfl; (show (35 : Nat) ≠ 3; decide); (show (46 : Nat) ≠ 3; decide)) hg hb); replace HQ := Aside0.mk (HQ.out.grown (Kd.R_typed HV2.out) hg hb); replace HV2 := Aside0.mk ho; clear ho hb hg hat; obtain ⟨A5, c5, e5⟩ := Kd.R_slice HV2.out; subst e5) | ((with_reducible refine gate_store (t := 27) (p := 114) rfl ?_); refine rw_cell rfl 27 rfl (i := 2) rfl rfl rfl [] HRW.out (by show (_ : Nat) < 3; decide) (by kernel_rfl) ?_; intro w6 hX hk9; replace HV2 := Aside0.mk (Kd.R_mono (Kd.R_step (Kd.R_types HV2.out (HRW.out.mem List.mem_cons_self) (by intro q hq; simp [Kd.int, Kd.scalar] at hq; rw [hq]; show (_ : Nat) ≠ _; decide)) (fun j hj hlt => hk9.2 j hlt hj.2)) (fun _ _ => trivial) : Kd.R (Kd.int .i64) 3 w6 w.heap.size (fun _ => True) _ (ns ++ [a])); replace HN := Aside0.mk (Kd.R_mono (Kd.R_step (Kd.R_types HN.out (HRW.out.mem List.mem_cons_self) (by intro q hq; simp [Kd.int, Kd.scalar] at hq; rw [hq]; show (_ : Nat) ≠ _; decide)) (fun j hj hlt => hk9.2 j hlt hj.2)) (fun _ h => h.1)); replace HO := Aside0.mk (Kd.S_step HO.out (fun j hj hlt => hk9.2 j hlt hj.1.2)); replace HQ := Aside0.mk (HQ.out.kept (HRW.out.mem List.mem_cons_self) hk9 hX.below); replace HRW := Aside0.mk hX; clear hX hk9))
                        go_roundw
                        case rel => exact ⟨j + 1, .slice A5 (ns ++ [a]).length c5, ns ++ [a], by have := HWJ.out; first | rfl | (simp; done), by omega, HNS2, HQ, ⟨by rw [show (ns ++ [a]).length = ns.length + 1 from by simp]; refine Eq.mp ?_ HRW.out; kernel_rfl⟩, HV2, HO, HN⟩
                        case measure => simp [intOf]; omega
                    · have d1b : decide ((j : Int) < (nx.length : Int)) = false := decide_eq_false (by omega)
                      have d1c : decide (j < nx.length) = false := decide_eq_false (by omega)
                      have HG : Aside0 (r = bs ++ [(⟨z.f0, x.f0, ns⟩ : S35)] ++ blocksL l0 (i + 1) (i + 1) (l0.length - (i + 1))) := ⟨by rw [HG.out, HNS.out, List.take_of_length_le (by omega), HNX.out]; simp⟩
                      subst e2'
                      obtain ⟨A9, c9, e9⟩ := Kd.S_slice HO.out
                      subst e9
                      clear d1 hj
                      go_wp2_with (first | ((with_reducible refine gate_dst (N := 117) rfl ?_); refine rw_load rfl 35 rfl rfl HRW.out List.mem_cons_self _ Try.underlying35 rfl (by kernel_rfl) ?_) | (at_builtin; (refine S_append1 k35 (w0 := w) w.heap.size rfl (.tmp 116) (.tmp 118) 29 35 (.agg #[.int .i64 0, .int .i64 0, .slice none 0 0]) 40 rfl Try.underlying29 (by kernel_rfl) rfl (by show (0 : Nat) < 3; decide) (by decide) (.slice A9 bs.length c9) bs (⟨z.f0, x.f0, ns⟩ : S35) [.int .i64 z.f0, .int .i64 x.f0, .slice A2 ns.length c2'] (fun _ => True) (fun j => some j = (Value.slice A2 ns.length c2').ownBlock ∧ some j ≠ (Value.slice A9 bs.length c9).ownBlock) rfl rfl (blk_M (int_own (Kd.R_apartR HV2.out (Kd.S_R HO.out) (by intro q hq; simp [Kd.int, Kd.scalar] at hq; rw [hq]; show (3 : Nat) ≠ 35; decide)))) (fun j hj => ⟨trivial, hj.2⟩) (fun _ _ => trivial) (Kd.S_mono HO.out (fun j hj => ⟨trivial, fun h9 => hj.2 h9.1⟩)) HQ.out.below HQ.out.below.size (by have := HF.out; have := HL.out; have := HI.out; unfold maxLen; omega) (blk_fits (by have := HF.out; have := HL.out; have := HI.out; omega)) ?_; intro v7 w7 ho hb hg hat; replace HQ := Aside0.mk (HQ.out.grown (Kd.S_typed HO.out) hg hb); replace HO := Aside0.mk ho; clear ho hb hg hat)))
                      go_roundw
                      case rel => exact ⟨i + 1, i + 1, bs ++ [(⟨z.f0, x.f0, ns⟩ : S35)], by have := HW.out; first | rfl | (simp; done), by have := HW.out; first | rfl | (simp; done), by omega, ⟨⟨Nat.le_refl _, by have := HF.out; simp; omega⟩⟩, ⟨HG.out⟩, HQ, HO⟩
                      case measure => simp [intOf]; omega
              · have c1b : decide ((i : Int) < (l0.length : Int)) = false := decide_eq_false (by omega)
                have c1c : decide (i < l0.length) = false := decide_eq_false (by omega)
                have HG : Aside0 (r = bs) := ⟨by rw [HG.out, show l0.length - i = 0 by omega]; exact List.append_nil _⟩
                clear c1 hi
                go_wp2
                go_ret
                exact ⟨_, rfl, by rw [HG.out]; exact HO.out, HQ.out.below⟩

end Go.Proofs.Ytcffniaieegbgaa.P

end

section
namespace Go.Proofs.Ytcffniaieegbgaa.P
open Go.RowKit Go.Proofs.YtcffniaieegbgaaW.PrintWords Go.Proofs.YtcffniaieegbgaaW.PrintLast Go.Proofs.YtcffniaieegbgaaW.PrintMore
attribute [local go_sem] max2_int min2_int max_two min_two max_three min_three max_four min_four   -- for this text's walks alone
set_option linter.unusedVariables false
set_option linter.unusedSimpArgs false

def placeI (l : List S46) (a : Int) : Int := (firstAt l 0 a).getD (-1)
def riseTo (l : List S46) : Nat → Bool
  | 0 => true
  | i + 1 => riseTo l i && !(decide (0 < i) && decide ((rd_T46 l (i : Int)).f0 ≤ (rd_T46 l ((i - 1 : Nat) : Int)).f0))
theorem riseTo_no {l : List S46} {i : Nat} (h : riseTo l i = false) : ∀ d, riseTo l (i + d) = false
  | 0 => h
  | d + 1 => by rw [show i + (d + 1) = (i + d) + 1 by omega, riseTo, riseTo_no h d]; rfl
def markR (l : List S46) : Nat → List Bool
  | 0 => List.replicate l.length false
  | i + 1 =>
    let x := rd_T46 l (i : Int)
    let m1 := if i = 0 then (markR l i).set i true else markR l i
    let m2 := if ((jumpsB x.f1 || endsB x.f1) && decide (i + 1 < l.length)) = true then m1.set (i + 1) true else m1
    if (jumpsB x.f1 && decide (0 ≤ placeI l x.f2)) = true then m2.set (placeI l x.f2).toNat true else m2
theorem markR_len (l : List S46) : ∀ i, (markR l i).length = l.length
  | 0 => by simp [markR]
  | i + 1 => by
    have ih := markR_len l i
    simp only [markR]
    split <;> split <;> split <;> simp [ih]
def outR (l : List S46) (m : List Bool) : Nat → List S35
  | 0 => []
  | i + 1 =>
    let x := rd_T46 l (i : Int)
    let o := if m.getD i false = true then outR l m i ++ [⟨x.f0, 0, []⟩] else outR l m i
    o.set (o.length - 1) ⟨(o.getD (o.length - 1) z35).f0, x.f0, if i + 1 = l.length ∨ m.getD (i + 1) false = true then (nextL x).filter (fun a => decide (0 ≤ placeI l a)) else []⟩
def okR (k : Nat) (l : List S46) : Bool := l.all fun x => decide (provisoref05_Next.f k x.f0 x.f1 x.f2 x.f3 = some (nextL x)) && (decide (provisoref05_Place.f k l x.f2 = some (placeI l x.f2)) && (nextL x).all fun b => decide (provisoref05_Place.f k l b = some (placeI l b)))
theorem okR_at {k : Nat} {l : List S46} (h : okR k l = true) {i : Nat} (hi : i < l.length) : provisoref05_Next.f k (rd_T46 l (i : Int)).f0 (rd_T46 l (i : Int)).f1 (rd_T46 l (i : Int)).f2 (rd_T46 l (i : Int)).f3 = some (nextL (rd_T46 l (i : Int))) ∧ provisoref05_Place.f k l (rd_T46 l (i : Int)).f2 = some (placeI l (rd_T46 l (i : Int)).f2) ∧ ∀ b ∈ nextL (rd_T46 l (i : Int)), provisoref05_Place.f k l b = some (placeI l b) := by
  have h9 := List.all_eq_true.1 h _ (List.getElem_mem hi)
  have hx : rd_T46 l (i : Int) = l[i] := by unfold rd_T46; rw [Int.toNat_natCast, List.getD_eq_getElem?_getD, List.getElem?_eq_getElem hi]; rfl
  rw [← hx] at h9
  rw [Bool.and_eq_true, Bool.and_eq_true] at h9
  exact ⟨of_decide_eq_true h9.1, of_decide_eq_true h9.2.1, fun b hb => of_decide_eq_true (List.all_eq_true.1 h9.2.2 b hb)⟩
def provisoref05_Blocks.f (k : Nat) (l0 : List S46) : Option (List S35) := if l0.length < 4398046511104 ∧ okR k l0 = true then (if riseTo l0 l0.length = true then some (outR l0 (markR l0 l0.length) l0.length) else some []) else none
theorem markR_step {l : List S46} {i : Nat} {x : S46} (hx : x = rd_T46 l (i : Int)) : markR l (i + 1) = if (jumpsB x.f1 && decide (0 ≤ placeI l x.f2)) = true then (if ((jumpsB x.f1 || endsB x.f1) && decide (i + 1 < l.length)) = true then (if i = 0 then (markR l i).set i true else markR l i).set (i + 1) true else (if i = 0 then (markR l i).set i true else markR l i)).set (placeI l x.f2).toNat true else (if ((jumpsB x.f1 || endsB x.f1) && decide (i + 1 < l.length)) = true then (if i = 0 then (markR l i).set i true else markR l i).set (i + 1) true else (if i = 0 then (markR l i).set i true else markR l i)) := by rw [hx]; rfl
theorem add0 (g m : Nat) : (⟨g, 0, none⟩ : Addr).add m = ⟨g, m, none⟩ := by
  unfold Addr.add
  split
  · rename_i h; first | (subst h; rfl) | (rw [h]) | simp_all
  · simp
theorem placeI_lt {l : List S46} {a : Int} (h : 0 ≤ placeI l a) : placeI l a < (l.length : Int) := by
  unfold placeI at h ⊢
  cases hf : firstAt l 0 a with
  | none => rw [hf] at h; exact absurd h (by decide)
  | some v => have := firstAt_lt l 0 a v hf; show v < _; omega
section
variable {ops : Array Oper} {rest : List Oper} {o : Oper} {a : Act} {Q : Exit → Act → World → Prop}
theorem bool_store (hgd : o.guard = none) {p x : Operand} (ho : o.op = .store 4 p x) (hN : o.dst = none) {w0 W : World} {base g n cap : Nat} {ok : Nat → Prop} {xs : List Bool} {b : Bool} (i : Nat) (HO : Kd.R Kd.bool 4 W base ok (.slice (some ⟨g, 0, none⟩) n cap) xs) (hi : i < n) (HB : Below base w0 W) (haddr : a.eval p = .pointer (some ⟨g, i, none⟩)) (hx : a.eval x = .bool b)
    (h : ∀ w1, Kd.R Kd.bool 4 w1 base ok (.slice (some ⟨g, 0, none⟩) n cap) (xs.set i b) → Below base w0 w1 → W.grownBy w1 (some g) → wpList Try.prog ops Q rest a w1) : wpList Try.prog ops Q (o :: rest) a W := by
  obtain ⟨c, hcl, _, hcc⟩ := Kd.R_getA HO false (i : Int) (by omega) (by omega)
  obtain ⟨q, rfl⟩ := List.length_eq_one_iff.1 (hcl.trans rfl)
  refine Kd.R_store Kd.bool base hN hgd 4 p x ho 4 (i : Int) 0 xs b (.bool b) [.bool b] [q] ok (fun _ => False) haddr (by show i = i * 1 + 0; omega) hx rfl (by kernel_rfl) (by intro q hq; rw [List.mem_singleton.1 hq]; rfl) HO (by omega) (by omega) rfl (fun j u hj => by have := hcc j u hj; rw [add0] at this; exact this) (by show 0 + 1 ≤ 1; omega) rfl (fun _ hk => hk.elim) HB ?_
  intro w1 h1 h2 h3
  exact h w1 (by rw [Int.toNat_natCast] at h1; exact h1) h2 h3
end
theorem set_true (m : List Bool) (j : Nat) (h : m.getD 0 false = true) : (m.set j true).getD 0 false = true := by
  cases m with
  | nil => exact h
  | cons b m =>
    cases j with
    | zero => rfl
    | succ j => exact h
theorem markR_zero (l : List S46) (hl : 0 < l.length) : ∀ i, (markR l (i + 1)).getD 0 false = true
  | 0 => by
    have h1 : ((markR l 0).set 0 true).getD 0 false = true := by
      have := markR_len l 0
      cases hm : markR l 0 with
      | nil => rw [hm, List.length_nil] at this; omega
      | cons b m => rfl
    rw [markR_step rfl, if_pos rfl]
    split <;> split <;> first | exact set_true _ _ (set_true _ _ h1) | exact set_true _ _ h1 | exact h1
  | i + 1 => by
    have h1 := markR_zero l hl i
    rw [markR_step rfl, if_neg (Nat.succ_ne_zero i)]
    split <;> split <;> first | exact set_true _ _ (set_true _ _ h1) | exact set_true _ _ h1 | exact h1
def addR (l : List S46) (m : List Bool) (i : Nat) : List S35 := if m.getD i false = true then outR l m i ++ [⟨(rd_T46 l (i : Int)).f0, 0, []⟩] else outR l m i
def nxR (l : List S46) (m : List Bool) (i : Nat) : List Int := if i + 1 = l.length ∨ m.getD (i + 1) false = true then (nextL (rd_T46 l (i : Int))).filter (fun a => decide (0 ≤ placeI l a)) else []
theorem outR_step (l : List S46) (m : List Bool) (i : Nat) : outR l m (i + 1) = (addR l m i).set ((addR l m i).length - 1) ⟨((addR l m i).getD ((addR l m i).length - 1) z35).f0, (rd_T46 l (i : Int)).f0, nxR l m i⟩ := rfl
theorem outR_len (l : List S46) (m : List Bool) : ∀ i, (outR l m i).length ≤ i
  | 0 => Nat.le_refl _
  | i + 1 => by
    have ih := outR_len l m i
    rw [outR_step, List.length_set]
    unfold addR
    split
    · rw [List.length_append, List.length_singleton]; omega
    · omega
theorem addR_pos (l : List S46) (m : List Bool) (h0 : m.getD 0 false = true) : ∀ i, 0 < (addR l m i).length
  | 0 => by unfold addR; rw [if_pos h0]; simp
  | i + 1 => by
    have ih := addR_pos l m h0 i
    have h1 : 0 < (outR l m (i + 1)).length := by rw [outR_step, List.length_set]; exact ih
    unfold addR
    split
    · rw [List.length_append]; omega
    · exact h1
section
variable {P : Program} {ops : Array Oper} {rest : List Oper} {o : Oper} {a : Act} {Q : Exit → Act → World → Prop}
theorem h_store {α : Type} (d : Kd α) {w0 W : World} (base : Nat) (hN : o.dst = none) (hgd : o.guard = none) (t : TypeId) (p x : Operand) (ho : o.op = .store t p x) (e : TypeId) {g n cap o' : Nat} (i : Int) (j : Nat) (xs : List α) (u : Value) (seg c : List Value) (ok oki : Nat → Prop)
    (haddr : a.eval p = .pointer (some ⟨g, o', none⟩)) (hoff : o' = i.toNat * d.sz + j) (hx : a.eval x = u) (hu : u.cells.toList = seg) (ht : (P.info? t).map (·.size) = some seg.length) (hone : ∀ q ∈ seg, q.oneCell' = true)
    (HO : Kd.H d e W base ok (.slice (some ⟨g, 0, none⟩) n cap) xs i oki c) (h0 : 0 ≤ i) (hi : i < n) (hj : j + seg.length ≤ d.sz) (HB : Below base w0 W)
    (h : ∀ w1, Kd.H d e w1 base ok (.slice (some ⟨g, 0, none⟩) n cap) xs i oki (c.take j ++ seg ++ c.drop (j + seg.length)) → Below base w0 w1 → W.grownBy w1 (some g) → wpList P ops Q rest a w1) : wpList P ops Q (o :: rest) a W := by
  obtain ⟨rows, _, hraw, hcl, hco, hcc, hback⟩ := Kd.H_raw HO h0 hi
  refine Kd.R_store (Kd.raw d.sz) base hN hgd t p x ho e i j rows (c.take j ++ seg ++ c.drop (j + seg.length)) u seg c (fun _ => True) (fun _ => False) haddr hoff hx hu ht hone hraw h0 hi hcl hcc hj
    ⟨rfl, by
      show (c.take j ++ seg ++ c.drop (j + seg.length)).length = d.sz
      simp only [List.length_append, List.length_take, List.length_drop]; omega, fun u hu => by
      rcases List.mem_append.1 hu with hu | hu
      · rcases List.mem_append.1 hu with hu | hu
        · exact hco u (List.mem_of_mem_take hu)
        · exact hone u hu
      · exact hco u (List.mem_of_mem_drop hu)⟩ (fun _ hk => hk.elim) HB ?_
  intro w1 hr hb hg
  exact h w1 (hback w1 _ hg hr) hb hg
end
theorem blk_parts {W : World} {base : Nat} {ok : Nat → Prop} {b : S35} {c : List Value} (h : Kd.M k35 W base ok b c) : ∃ v, c = [.int .i64 b.f0, .int .i64 b.f1, v] ∧ Kd.R (Kd.int .i64) 3 W base ok v b.f2 := by
  obtain ⟨c1, c2, rfl, h1, h2⟩ := h
  obtain ⟨c3, c4, rfl, h3, h4⟩ := h2
  obtain ⟨v, rfl, h5⟩ := h4
  exact ⟨v, by rw [h1, h3]; rfl, h5⟩
theorem h_typed {α : Type} {d : Kd α} {e : Nat} {W : World} {base : Nat} {ok oki : Nat → Prop} {v : Value} {xs : List α} {i : Int} {c : List Value} (h : Kd.H d e W base ok v xs i oki c) : ∀ k, v.ownBlock = some k → ∃ cells, W.heap[k]? = some (.cells cells e (0, 0)) := by
  obtain ⟨_, f, hR⟩ := h
  exact Kd.R_typed hR
set_option maxHeartbeats 6400000 in
set_option maxRecDepth 100000 in
theorem provisoref05_Blocks.calls (k : Nat) (A0 : Option Addr) (c0 : Nat) (l0 : List S46) (r : List S35) (w : World) (hr0 : Kd.C k46 w A0 l0.length l0) (hc0 : l0.length ≤ c0) (h : provisoref05_Blocks.f k l0 = some r) :
    Calls Try.prog 15 #[.slice A0 l0.length c0] w fun e w' => ∃ v0_ : Value, e = .returned (v0_) ∧ Kd.S k35 35 w' w.heap.size (fun _ => True) v0_ r ∧ Below w.heap.size w w' := by
  unfold provisoref05_Blocks.f at h
  by_cases hok : l0.length < 4398046511104 ∧ okR k l0 = true
  case neg => rw [if_neg hok] at h; cases h
  rw [if_pos hok] at h
  have HR := Aside0.mk hr0
  have HCC := Aside0.mk hc0
  have HL := Aside0.mk hok.1
  have HOK := Aside0.mk hok.2
  have hlen : l0.length < 4398046511104 := hok.1
  have HRES := Aside0.mk h
  clear hr0 hc0 hok h
  go_enter Try.func15, Try.ntmps15
  go_wp2
  go_loopw [17] (fun v17 wr => ∃ i : Nat, v17 = .int .i64 (i : Int) ∧ i ≤ l0.length ∧ Aside0 (riseTo l0 i = true) ∧ Aside0 (Below w.heap.size w wr)) (fun v17 _ => ((l0.length : Int) - intOf v17).toNat)
  case atStart => exact ⟨0, rfl, Nat.zero_le _, ⟨rfl⟩, ⟨Below.refl _ _⟩⟩
  case round =>
    obtain ⟨i, rfl, hi, HT, HBW⟩ := hrel
    by_cases c1 : i < l0.length
    · obtain ⟨x, hx⟩ : ∃ x, x = rd_T46 l0 (i : Int) := ⟨_, rfl⟩
      obtain ⟨ad, e1, hx0, hx1, hx2, hx3⟩ := at_I HR.out HBW.out c1 hx
      cases e1
      have c1b : decide ((i : Int) < (l0.length : Int)) = true := decide_eq_true (by omega)
      have p5 : (0 ≤ (i : Int)) = True := eq_true (by omega)
      have p6 : ((i : Int) < (l0.length : Int)) = True := eq_true (by omega)
      have HW := Aside0.mk (wrap_next (show i < 4398046511104 by omega))
      by_cases c2 : 0 < i
      · obtain ⟨q, hq⟩ : ∃ q, q = i - 1 := ⟨_, rfl⟩
        have hw1 : (IntKind.i64.wrap ((i : Int) - 1)) = (q : Int) := (i64_w _).trans (by unfold wrap64; omega)
        obtain ⟨y, hy⟩ : ∃ y, y = rd_T46 l0 (q : Int) := ⟨_, rfl⟩
        obtain ⟨ad', e1, hy0, hy1, hy2, hy3⟩ := at_I HR.out HBW.out (show q < l0.length by omega) hy
        cases e1
        have c2b : decide ((i : Int) > 0) = true := decide_eq_true (by omega)
        have c2c : decide (0 < (i : Int)) = true := decide_eq_true (by omega)
        have c2d : decide (0 < i) = true := decide_eq_true c2
        have p7 : (0 ≤ (q : Int)) = True := eq_true (by omega)
        have p8 : ((q : Int) < (l0.length : Int)) = True := eq_true (by omega)
        clear hx1 hx2 hx3 hy1 hy2 hy3
        have HRT : Aside0 (riseTo l0 (i + 1) = !decide (x.f0 ≤ y.f0)) := ⟨by rw [riseTo, HT.out, decide_eq_true c2, ← hx, ← hq, ← hy]; simp⟩
        have HI : Aside0 (i < l0.length) := ⟨c1⟩
        clear hx hy c2 hq
        by_cases c3 : x.f0 ≤ y.f0
        · have c3b : decide (x.f0 ≤ y.f0) = true := decide_eq_true c3
          have HV : Aside0 (r = []) := ⟨by
            have h1 : riseTo l0 (i + 1) = false := by rw [HRT.out, c3b]; rfl
            have h2 := riseTo_no h1 (l0.length - (i + 1))
            have := HI.out
            rw [show i + 1 + (l0.length - (i + 1)) = l0.length by omega] at h2
            have h3 := HRES.out
            rw [h2, if_neg (by decide)] at h3
            exact (Option.some.inj h3).symm⟩
          clear c3
          go_wp2
          repeat (go_quiet (fail); try go_wp2)
          go_ret
          exact ⟨_, rfl, by rw [HV.out]; exact Kd.S_nil _ _ _ _ _, by first | exact HBW.out | exact pw_below_drewN HBW.out _⟩
        · have c3b : decide (x.f0 ≤ y.f0) = false := decide_eq_false c3
          have HT2 : Aside0 (riseTo l0 (i + 1) = true) := ⟨by rw [HRT.out, c3b]; rfl⟩
          clear c3
          go_wp2
          repeat (go_quiet (fail); try go_wp2)
          go_roundw
          case rel => exact ⟨i + 1, by have := HW.out; first | rfl | (simp; done), by omega, HT2, ⟨by first | exact HBW.out | exact pw_below_drewN HBW.out _ | exact below_drew HBW.out⟩⟩
          case measure => simp [intOf]; omega
      · obtain rfl : i = 0 := by omega
        have HT2 : Aside0 (riseTo l0 (0 + 1) = true) := ⟨rfl⟩
        clear hx0 hx1 hx2 hx3 hx c2
        have c2b : decide (((0 : Nat) : Int) > 0) = false := by decide
        have c2c : decide (0 < ((0 : Nat) : Int)) = false := by decide
        go_wp2
        repeat (go_quiet (fail); try go_wp2)
        go_roundw
        case rel => exact ⟨0 + 1, by have := HW.out; first | rfl | (simp; done), by omega, HT2, ⟨by first | exact HBW.out | exact pw_below_drewN HBW.out _ | exact below_drew HBW.out⟩⟩
        case measure => simp [intOf]; omega
    · have c1b : decide ((i : Int) < (l0.length : Int)) = false := decide_eq_false (by omega)
      have c1c : decide (i < l0.length) = false := decide_eq_false (by omega)
      have HV : Aside0 (r = outR l0 (markR l0 l0.length) l0.length) := ⟨by
        have h3 := HRES.out
        have h4 := HT.out
        rw [show i = l0.length by omega] at h4
        rw [if_pos h4] at h3
        exact (Option.some.inj h3).symm⟩
      clear HRES HT c1 hi
      go_wp2_with (first | ((with_reducible refine gate_dst (N := 39) rfl ?_); refine Kd.R_make Kd.bool _ 4 rfl (N := 39) rfl 71 _ _ rfl (l0.length : Int) rfl rfl Try.underlying71 (.bool false) 1 (by kernel_rfl) rfl (by decide) (by omega) false (ok := fun _ => True) (okp := fun _ => True) rfl (fun _ hk => hk) trivial (by omega) (by omega) (Below.refl _ _) (Nat.le_refl _) ?_; intro v39 w7 ho8 hb hg_ hnew_; clear hg_ hnew_; replace HO := Aside0.mk (Kd.R_lower ho8 (below_size HBW.out)); replace HBW := Aside0.mk (below_step HBW.out hb); clear ho8 hb))
      replace HO : Aside0 (Kd.R Kd.bool 4 _ w.heap.size (fun _ => True) v39 (markR l0 0)) := ⟨by have h9 := HO.out; rw [Int.toNat_natCast] at h9; exact h9⟩
      go_loopw [42] (fun v42 wr => ∃ i : Nat, v42 = .int .i64 (i : Int) ∧ i ≤ l0.length ∧ Aside0 (Below w.heap.size w wr) ∧ Aside0 (Kd.R Kd.bool 4 wr w.heap.size (fun _ => True) v39 (markR l0 i))) (fun v42 _ => ((l0.length : Int) - intOf v42).toNat)
      case atStart => exact ⟨0, rfl, Nat.zero_le _, HBW, HO⟩
      case round =>
        clear HBW HO
        obtain ⟨i, rfl, hi, HBW, HO⟩ := hrel
        by_cases c1 : i < l0.length
        · obtain ⟨x, hx⟩ : ∃ x, x = rd_T46 l0 (i : Int) := ⟨_, rfl⟩
          obtain ⟨ad, e1, hx0, hx1, hx2, hx3⟩ := at_I HR.out HBW.out c1 hx
          cases e1
          obtain ⟨g4, c4, e4, _, _, _⟩ := Kd.R_form HO.out (by rw [markR_len]; omega)
          rw [markR_len] at e4
          subst e4
          have HX := Aside0.mk hx
          have HI : Aside0 (i < l0.length) := ⟨c1⟩
          have HMS := Aside0.mk (markR_step hx)
          have c1b : decide ((i : Int) < (l0.length : Int)) = true := decide_eq_true (by omega)
          have p5 : (0 ≤ (i : Int)) = True := eq_true (by omega)
          have p6 : ((i : Int) < (l0.length : Int)) = True := eq_true (by omega)
          have HW := Aside0.mk (wrap_next (show i < 4398046511104 by omega))
          have HRW : Aside0 (Rws w [] wr) := ⟨⟨fun _ h => by simp at h, by simp, HBW.out⟩⟩
          have HPL := Aside0.mk (okR_at HOK.out c1).2.1
          rw [← hx] at HPL
          have HPT : Aside0 (0 ≤ placeI l0 x.f2 → placeI l0 x.f2 < (l0.length : Int)) := ⟨placeI_lt⟩
          generalize placeI l0 x.f2 = pl at HPL HMS HPT
          clear hx HBW
          by_cases d0 : i = 0
          · have d0b : ((i : Int) == 0) = true := by rw [beq_iff_eq]; omega
            have d0c : decide ((i : Int) = 0) = true := decide_eq_true (by omega)
            have d0d : decide (i = 0) = true := decide_eq_true d0
            have HD := Aside0.mk d0
            clear d0
            go_wp2_with (first | ((with_reducible refine gate_dst (N := 6) rfl ?_); refine rw_alloc rfl 46 rfl (cs := #[.int .i64 0, .int .u8 0, .int .i64 0, .int .i64 0]) (by kernel_rfl) HRW.out ?_; intro b6 w_ hg9 hX hb9; replace HO := Aside0.mk (Kd.R_below (Kd.R_elderB HO.out b6 (by omega)) hb9); replace HRW := Aside0.mk hX; clear hX hg9 hb9) | ((with_reducible refine gate_store (t := 46) (p := 6) rfl ?_); refine rw_store rfl 46 rfl rfl (cs' := #[.int .i64 x.f0, .int .u8 x.f1, .int .i64 x.f2, .int .i64 x.f3]) rfl [] HRW.out (by kernel_rfl) rfl (by show _ = _; kernel_rfl) ?_; intro w_ hX hk9; (try simp only [List.nil_append] at hX); replace HO := Aside0.mk (Kd.R_mono (Kd.R_step HO.out (fun j hj hlt => hk9.2 j hlt hj.2)) (fun _ _ => trivial) : Kd.R Kd.bool 4 w_ w.heap.size (fun _ => True) (.slice (some ⟨g4, 0, none⟩) l0.length c4) (markR l0 i)); replace HRW := Aside0.mk hX; clear hX hk9 hx0 hx1 hx2 hx3) | ((with_reducible refine gate_store (t := 4) (p := 51) rfl ?_); refine bool_store rfl rfl rfl i HO.out ?hi_ HRW.out.below ?had_ rfl ?_; (case hi_ => omega); (case had_ => first | rfl | (go_simp; done) | (go_simp; rfl)); intro w_ h1_ h2_ h3_; replace HRW := Aside0.mk (HRW.out.besides (Kd.R_typed HO.out) (by intro p hp; simp at hp; subst hp; show (46 : Nat) ≠ 4; decide) h3_ h2_); replace HO := Aside0.mk h1_; clear h1_ h2_ h3_))
            have g1 := blk_cell (HRW.out.mem List.mem_cons_self) 1
            go_quiet (first | (go_at_call 47; exact Calls.quiet_of ((provisoref04_Jumps.calls x.f1 (jumpsB x.f1) _ (jumps_is x.f1)).mono fun _ _ h => ⟨h.1, h.2.out⟩)) | (go_at_call 48; exact Calls.quiet_of ((provisoref04_Ends.calls x.f1 (endsB x.f1) _ (ends_is x.f1)).mono fun _ _ h => ⟨h.1, h.2.out⟩)))
            replace HO := Aside0.mk (Kd.R_drewN HO.out nq)
            replace HRW := Aside0.mk (HRW.out.drewN nq)
            clear g1
            cases qj : jumpsB x.f1 with
            | true =>
              by_cases c2 : i + 1 < l0.length
              · have hE : ((jumpsB x.f1 || endsB x.f1) && decide (i + 1 < l0.length)) = true := by rw [qj, decide_eq_true c2]; first | rfl | simp
                have HE := Aside0.mk hE
                have c2b : decide ((i : Int) + 1 < (l0.length : Int)) = true := decide_eq_true (by omega)
                have p7 : (0 ≤ (i : Int) + 1) = True := eq_true (by omega)
                have p8 : ((i : Int) + 1 < (l0.length : Int)) = True := eq_true (by omega)
                have p9 : ((i : Int) + 1).toNat = i + 1 := by omega
                have HC2 := Aside0.mk c2
                clear hE c2
                go_wp2_with (first | ((with_reducible refine gate_store (t := 4) (p := 72) rfl ?_); refine bool_store rfl rfl rfl (i + 1) HO.out ?hi_ HRW.out.below ?had_ rfl ?_; (case hi_ => exact HC2.out); (case had_ => first | rfl | (go_simp; done) | (go_simp; rfl)); intro w_ h1_ h2_ h3_; replace HRW := Aside0.mk (HRW.out.besides (Kd.R_typed HO.out) (by intro p hp; simp at hp; subst hp; show (46 : Nat) ≠ 4; decide) h3_ h2_); replace HO := Aside0.mk h1_; clear h1_ h2_ h3_; have g2 := blk_cell (HRW.out.mem List.mem_cons_self) 2))
                refine (provisoref05_Place.calls k _ _ l0 x.f2 pl _ (Kd.C_below HR.out HRW.out.below) HCC.out HPL.out).mono ?_
                rintro e w_ ⟨rfl, hb⟩
                replace HO := Aside0.mk (Kd.R_below HO.out hb)
                replace HRW := Aside0.mk (HRW.out.step hb)
                clear hb g2
                by_cases c4 : 0 ≤ pl
                · obtain ⟨j, rfl⟩ := Int.eq_ofNat_of_zero_le c4
                  have hjn : j < l0.length := by have := HPT.out c4; omega
                  have hJ : (jumpsB x.f1 && decide (0 ≤ (j : Int))) = true := by rw [qj, decide_eq_true c4]; rfl
                  have HJ := Aside0.mk hJ
                  clear hJ qj
                  have c4b : decide ((j : Int) ≥ 0) = true := decide_eq_true c4
                  have r5 : (0 ≤ (j : Int)) = True := eq_true (by omega)
                  have r6 : ((j : Int) < (l0.length : Int)) = True := eq_true (by omega)
                  clear c4
                  go_wp2_with (first | ((with_reducible refine gate_store (t := 4) (p := 84) rfl ?_); refine bool_store rfl rfl rfl j HO.out ?hi_ HRW.out.below ?had_ rfl ?_; (case hi_ => omega); (case had_ => first | rfl | (go_simp; done) | (go_simp; rfl)); intro w_ h1_ h2_ h3_; replace HRW := Aside0.mk (HRW.out.besides (Kd.R_typed HO.out) (by intro p hp; simp at hp; subst hp; show (46 : Nat) ≠ 4; decide) h3_ h2_); replace HO := Aside0.mk h1_; clear h1_ h2_ h3_))
                  go_roundw
                  case rel => exact ⟨i + 1, by have := HW.out; first | rfl | (simp; done), by omega, ⟨HRW.out.below⟩, ⟨by rw [HMS.out, if_pos HJ.out, if_pos HE.out, if_pos HD.out]; exact HO.out⟩⟩
                  case measure => simp [intOf]; omega
                · have hJ : ¬ (jumpsB x.f1 && decide (0 ≤ pl)) = true := by rw [decide_eq_false c4]; simp
                  have HJ := Aside0.mk hJ
                  clear hJ qj
                  have c4b : decide (pl ≥ 0) = false := decide_eq_false c4
                  have c4c : decide (0 ≤ pl) = false := decide_eq_false c4
                  clear c4
                  go_wp2
                  go_roundw
                  case rel => exact ⟨i + 1, by have := HW.out; first | rfl | (simp; done), by omega, ⟨HRW.out.below⟩, ⟨by rw [HMS.out, if_neg HJ.out, if_pos HE.out, if_pos HD.out]; exact HO.out⟩⟩
                  case measure => simp [intOf]; omega
              · have hE : ¬ ((jumpsB x.f1 || endsB x.f1) && decide (i + 1 < l0.length)) = true := by rw [decide_eq_false c2]; simp
                have HE := Aside0.mk hE
                have c2b : decide ((i : Int) + 1 < (l0.length : Int)) = false := decide_eq_false (by omega)
                clear hE c2
                have g2 := blk_cell (HRW.out.mem List.mem_cons_self) 2
                go_wp2_with fail
                refine (provisoref05_Place.calls k _ _ l0 x.f2 pl _ (Kd.C_below HR.out HRW.out.below) HCC.out HPL.out).mono ?_
                rintro e w_ ⟨rfl, hb⟩
                replace HO := Aside0.mk (Kd.R_below HO.out hb)
                replace HRW := Aside0.mk (HRW.out.step hb)
                clear hb g2
                by_cases c4 : 0 ≤ pl
                · obtain ⟨j, rfl⟩ := Int.eq_ofNat_of_zero_le c4
                  have hjn : j < l0.length := by have := HPT.out c4; omega
                  have hJ : (jumpsB x.f1 && decide (0 ≤ (j : Int))) = true := by rw [qj, decide_eq_true c4]; rfl
                  have HJ := Aside0.mk hJ
                  clear hJ qj
                  have c4b : decide ((j : Int) ≥ 0) = true := decide_eq_true c4
                  have r5 : (0 ≤ (j : Int)) = True := eq_true (by omega)
                  have r6 : ((j : Int) < (l0.length : Int)) = True := eq_true (by omega)
                  clear c4
                  go_wp2_with (first | ((with_reducible refine gate_store (t := 4) (p := 84) rfl ?_); refine bool_store rfl rfl rfl j HO.out ?hi_ HRW.out.below ?had_ rfl ?_; (case hi_ => omega); (case had_ => first | rfl | (go_simp; done) | (go_simp; rfl)); intro w_ h1_ h2_ h3_; replace HRW := Aside0.mk (HRW.out.besides (Kd.R_typed HO.out) (by intro p hp; simp at hp; subst hp; show (46 : Nat) ≠ 4; decide) h3_ h2_); replace HO := Aside0.mk h1_; clear h1_ h2_ h3_))
                  go_roundw
                  case rel => exact ⟨i + 1, by have := HW.out; first | rfl | (simp; done), by omega, ⟨HRW.out.below⟩, ⟨by rw [HMS.out, if_pos HJ.out, if_neg HE.out, if_pos HD.out]; exact HO.out⟩⟩
                  case measure => simp [intOf]; omega
                · have hJ : ¬ (jumpsB x.f1 && decide (0 ≤ pl)) = true := by rw [decide_eq_false c4]; simp
                  have HJ := Aside0.mk hJ
                  clear hJ qj
                  have c4b : decide (pl ≥ 0) = false := decide_eq_false c4
                  have c4c : decide (0 ≤ pl) = false := decide_eq_false c4
                  clear c4
                  go_wp2
                  go_roundw
                  case rel => exact ⟨i + 1, by have := HW.out; first | rfl | (simp; done), by omega, ⟨HRW.out.below⟩, ⟨by rw [HMS.out, if_neg HJ.out, if_neg HE.out, if_pos HD.out]; exact HO.out⟩⟩
                  case measure => simp [intOf]; omega
            | false =>
              cases qe : endsB x.f1 with
              | true =>
                by_cases c2 : i + 1 < l0.length
                · have hE : ((jumpsB x.f1 || endsB x.f1) && decide (i + 1 < l0.length)) = true := by rw [qj, qe, decide_eq_true c2]; first | rfl | simp
                  have HE := Aside0.mk hE
                  have c2b : decide ((i : Int) + 1 < (l0.length : Int)) = true := decide_eq_true (by omega)
                  have p7 : (0 ≤ (i : Int) + 1) = True := eq_true (by omega)
                  have p8 : ((i : Int) + 1 < (l0.length : Int)) = True := eq_true (by omega)
                  have p9 : ((i : Int) + 1).toNat = i + 1 := by omega
                  have HC2 := Aside0.mk c2
                  clear hE c2
                  go_wp2_with (first | ((with_reducible refine gate_store (t := 4) (p := 72) rfl ?_); refine bool_store rfl rfl rfl (i + 1) HO.out ?hi_ HRW.out.below ?had_ rfl ?_; (case hi_ => exact HC2.out); (case had_ => first | rfl | (go_simp; done) | (go_simp; rfl)); intro w_ h1_ h2_ h3_; replace HRW := Aside0.mk (HRW.out.besides (Kd.R_typed HO.out) (by intro p hp; simp at hp; subst hp; show (46 : Nat) ≠ 4; decide) h3_ h2_); replace HO := Aside0.mk h1_; clear h1_ h2_ h3_; have g2 := blk_cell (HRW.out.mem List.mem_cons_self) 2))
                  refine (provisoref05_Place.calls k _ _ l0 x.f2 pl _ (Kd.C_below HR.out HRW.out.below) HCC.out HPL.out).mono ?_
                  rintro e w_ ⟨rfl, hb⟩
                  replace HO := Aside0.mk (Kd.R_below HO.out hb)
                  replace HRW := Aside0.mk (HRW.out.step hb)
                  clear hb g2
                  have hJ : ¬ (jumpsB x.f1 && decide (0 ≤ pl)) = true := by rw [qj]; simp
                  have HJ := Aside0.mk hJ
                  clear hJ qj
                  go_wp2
                  go_roundw
                  case rel => exact ⟨i + 1, by have := HW.out; first | rfl | (simp; done), by omega, ⟨HRW.out.below⟩, ⟨by rw [HMS.out, if_neg HJ.out, if_pos HE.out, if_pos HD.out]; exact HO.out⟩⟩
                  case measure => simp [intOf]; omega
                · have hE : ¬ ((jumpsB x.f1 || endsB x.f1) && decide (i + 1 < l0.length)) = true := by rw [decide_eq_false c2]; simp
                  have HE := Aside0.mk hE
                  have c2b : decide ((i : Int) + 1 < (l0.length : Int)) = false := decide_eq_false (by omega)
                  clear hE c2
                  have g2 := blk_cell (HRW.out.mem List.mem_cons_self) 2
                  go_wp2_with fail
                  refine (provisoref05_Place.calls k _ _ l0 x.f2 pl _ (Kd.C_below HR.out HRW.out.below) HCC.out HPL.out).mono ?_
                  rintro e w_ ⟨rfl, hb⟩
                  replace HO := Aside0.mk (Kd.R_below HO.out hb)
                  replace HRW := Aside0.mk (HRW.out.step hb)
                  clear hb g2
                  have hJ : ¬ (jumpsB x.f1 && decide (0 ≤ pl)) = true := by rw [qj]; simp
                  have HJ := Aside0.mk hJ
                  clear hJ qj
                  go_wp2
                  go_roundw
                  case rel => exact ⟨i + 1, by have := HW.out; first | rfl | (simp; done), by omega, ⟨HRW.out.below⟩, ⟨by rw [HMS.out, if_neg HJ.out, if_neg HE.out, if_pos HD.out]; exact HO.out⟩⟩
                  case measure => simp [intOf]; omega
              | false =>
                have hE : ¬ ((jumpsB x.f1 || endsB x.f1) && decide (i + 1 < l0.length)) = true := by rw [qj, qe]; simp
                have HE := Aside0.mk hE
                clear hE
                have g2 := blk_cell (HRW.out.mem List.mem_cons_self) 2
                go_wp2_with fail
                refine (provisoref05_Place.calls k _ _ l0 x.f2 pl _ (Kd.C_below HR.out HRW.out.below) HCC.out HPL.out).mono ?_
                rintro e w_ ⟨rfl, hb⟩
                replace HO := Aside0.mk (Kd.R_below HO.out hb)
                replace HRW := Aside0.mk (HRW.out.step hb)
                clear hb g2
                have hJ : ¬ (jumpsB x.f1 && decide (0 ≤ pl)) = true := by rw [qj]; simp
                have HJ := Aside0.mk hJ
                clear hJ qj
                go_wp2
                go_roundw
                case rel => exact ⟨i + 1, by have := HW.out; first | rfl | (simp; done), by omega, ⟨HRW.out.below⟩, ⟨by rw [HMS.out, if_neg HJ.out, if_neg HE.out, if_pos HD.out]; exact HO.out⟩⟩
                case measure => simp [intOf]; omega
          · have d0b : ((i : Int) == 0) = false := by rw [beq_eq_false_iff_ne]; omega
            have d0c : decide ((i : Int) = 0) = false := decide_eq_false (by omega)
            have d0d : decide (i = 0) = false := decide_eq_false d0
            have HD := Aside0.mk d0
            clear d0
            go_wp2_with (first | ((with_reducible refine gate_dst (N := 6) rfl ?_); refine rw_alloc rfl 46 rfl (cs := #[.int .i64 0, .int .u8 0, .int .i64 0, .int .i64 0]) (by kernel_rfl) HRW.out ?_; intro b6 w_ hg9 hX hb9; replace HO := Aside0.mk (Kd.R_below (Kd.R_elderB HO.out b6 (by omega)) hb9); replace HRW := Aside0.mk hX; clear hX hg9 hb9) | ((with_reducible refine gate_store (t := 46) (p := 6) rfl ?_); refine rw_store rfl 46 rfl rfl (cs' := #[.int .i64 x.f0, .int .u8 x.f1, .int .i64 x.f2, .int .i64 x.f3]) rfl [] HRW.out (by kernel_rfl) rfl (by show _ = _; kernel_rfl) ?_; intro w_ hX hk9; (try simp only [List.nil_append] at hX); replace HO := Aside0.mk (Kd.R_mono (Kd.R_step HO.out (fun j hj hlt => hk9.2 j hlt hj.2)) (fun _ _ => trivial) : Kd.R Kd.bool 4 w_ w.heap.size (fun _ => True) (.slice (some ⟨g4, 0, none⟩) l0.length c4) (markR l0 i)); replace HRW := Aside0.mk hX; clear hX hk9 hx0 hx1 hx2 hx3))
            have g1 := blk_cell (HRW.out.mem List.mem_cons_self) 1
            go_quiet (first | (go_at_call 47; exact Calls.quiet_of ((provisoref04_Jumps.calls x.f1 (jumpsB x.f1) _ (jumps_is x.f1)).mono fun _ _ h => ⟨h.1, h.2.out⟩)) | (go_at_call 48; exact Calls.quiet_of ((provisoref04_Ends.calls x.f1 (endsB x.f1) _ (ends_is x.f1)).mono fun _ _ h => ⟨h.1, h.2.out⟩)))
            replace HO := Aside0.mk (Kd.R_drewN HO.out nq)
            replace HRW := Aside0.mk (HRW.out.drewN nq)
            clear g1
            cases qj : jumpsB x.f1 with
            | true =>
              by_cases c2 : i + 1 < l0.length
              · have hE : ((jumpsB x.f1 || endsB x.f1) && decide (i + 1 < l0.length)) = true := by rw [qj, decide_eq_true c2]; first | rfl | simp
                have HE := Aside0.mk hE
                have c2b : decide ((i : Int) + 1 < (l0.length : Int)) = true := decide_eq_true (by omega)
                have p7 : (0 ≤ (i : Int) + 1) = True := eq_true (by omega)
                have p8 : ((i : Int) + 1 < (l0.length : Int)) = True := eq_true (by omega)
                have p9 : ((i : Int) + 1).toNat = i + 1 := by omega
                have HC2 := Aside0.mk c2
                clear hE c2
                go_wp2_with (first | ((with_reducible refine gate_store (t := 4) (p := 72) rfl ?_); refine bool_store rfl rfl rfl (i + 1) HO.out ?hi_ HRW.out.below ?had_ rfl ?_; (case hi_ => exact HC2.out); (case had_ => first | rfl | (go_simp; done) | (go_simp; rfl)); intro w_ h1_ h2_ h3_; replace HRW := Aside0.mk (HRW.out.besides (Kd.R_typed HO.out) (by intro p hp; simp at hp; subst hp; show (46 : Nat) ≠ 4; decide) h3_ h2_); replace HO := Aside0.mk h1_; clear h1_ h2_ h3_; have g2 := blk_cell (HRW.out.mem List.mem_cons_self) 2))
                refine (provisoref05_Place.calls k _ _ l0 x.f2 pl _ (Kd.C_below HR.out HRW.out.below) HCC.out HPL.out).mono ?_
                rintro e w_ ⟨rfl, hb⟩
                replace HO := Aside0.mk (Kd.R_below HO.out hb)
                replace HRW := Aside0.mk (HRW.out.step hb)
                clear hb g2
                by_cases c4 : 0 ≤ pl
                · obtain ⟨j, rfl⟩ := Int.eq_ofNat_of_zero_le c4
                  have hjn : j < l0.length := by have := HPT.out c4; omega
                  have hJ : (jumpsB x.f1 && decide (0 ≤ (j : Int))) = true := by rw [qj, decide_eq_true c4]; rfl
                  have HJ := Aside0.mk hJ
                  clear hJ qj
                  have c4b : decide ((j : Int) ≥ 0) = true := decide_eq_true c4
                  have r5 : (0 ≤ (j : Int)) = True := eq_true (by omega)
                  have r6 : ((j : Int) < (l0.length : Int)) = True := eq_true (by omega)
                  clear c4
                  go_wp2_with (first | ((with_reducible refine gate_store (t := 4) (p := 84) rfl ?_); refine bool_store rfl rfl rfl j HO.out ?hi_ HRW.out.below ?had_ rfl ?_; (case hi_ => omega); (case had_ => first | rfl | (go_simp; done) | (go_simp; rfl)); intro w_ h1_ h2_ h3_; replace HRW := Aside0.mk (HRW.out.besides (Kd.R_typed HO.out) (by intro p hp; simp at hp; subst hp; show (46 : Nat) ≠ 4; decide) h3_ h2_); replace HO := Aside0.mk h1_; clear h1_ h2_ h3_))
                  go_roundw
                  case rel => exact ⟨i + 1, by have := HW.out; first | rfl | (simp; done), by omega, ⟨HRW.out.below⟩, ⟨by rw [HMS.out, if_pos HJ.out, if_pos HE.out, if_neg HD.out]; exact HO.out⟩⟩
                  case measure => simp [intOf]; omega
                · have hJ : ¬ (jumpsB x.f1 && decide (0 ≤ pl)) = true := by rw [decide_eq_false c4]; simp
                  have HJ := Aside0.mk hJ
                  clear hJ qj
                  have c4b : decide (pl ≥ 0) = false := decide_eq_false c4
                  have c4c : decide (0 ≤ pl) = false := decide_eq_false c4
                  clear c4
                  go_wp2
                  go_roundw
                  case rel => exact ⟨i + 1, by have := HW.out; first | rfl | (simp; done), by omega, ⟨HRW.out.below⟩, ⟨by rw [HMS.out, if_neg HJ.out, if_pos HE.out, if_neg HD.out]; exact HO.out⟩⟩
                  case measure => simp [intOf]; omega
              · have hE : ¬ ((jumpsB x.f1 || endsB x.f1) && decide (i + 1 < l0.length)) = true := by rw [decide_eq_false c2]; simp
                have HE := Aside0.mk hE
                have c2b : decide ((i : Int) + 1 < (l0.length : Int)) = false := decide_eq_false (by omega)
                clear hE c2
                have g2 := blk_cell (HRW.out.mem List.mem_cons_self) 2
                go_wp2_with fail
                refine (provisoref05_Place.calls k _ _ l0 x.f2 pl _ (Kd.C_below HR.out HRW.out.below) HCC.out HPL.out).mono ?_
                rintro e w_ ⟨rfl, hb⟩
                replace HO := Aside0.mk (Kd.R_below HO.out hb)
                replace HRW := Aside0.mk (HRW.out.step hb)
                clear hb g2
                by_cases c4 : 0 ≤ pl
                · obtain ⟨j, rfl⟩ := Int.eq_ofNat_of_zero_le c4
                  have hjn : j < l0.length := by have := HPT.out c4; omega
                  have hJ : (jumpsB x.f1 && decide (0 ≤ (j : Int))) = true := by rw [qj, decide_eq_true c4]; rfl
                  have HJ := Aside0.mk hJ
                  clear hJ qj
                  have c4b : decide ((j : Int) ≥ 0) = true := decide_eq_true c4
                  have r5 : (0 ≤ (j : Int)) = True := eq_true (by omega)
                  have r6 : ((j : Int) < (l0.length : Int)) = True := eq_true (by omega)
                  clear c4
                  go_wp2_with (first | ((with_reducible refine gate_store (t := 4) (p := 84) rfl ?_); refine bool_store rfl rfl rfl j HO.out ?hi_ HRW.out.below ?had_ rfl ?_; (case hi_ => omega); (case had_ => first | rfl | (go_simp; done) | (go_simp; rfl)); intro w_ h1_ h2_ h3_; replace HRW := Aside0.mk (HRW.out.besides (Kd.R_typed HO.out) (by intro p hp; simp at hp; subst hp; show (46 : Nat) ≠ 4; decide) h3_ h2_); replace HO := Aside0.mk h1_; clear h1_ h2_ h3_))
                  go_roundw
                  case rel => exact ⟨i + 1, by have := HW.out; first | rfl | (simp; done), by omega, ⟨HRW.out.below⟩, ⟨by rw [HMS.out, if_pos HJ.out, if_neg HE.out, if_neg HD.out]; exact HO.out⟩⟩
                  case measure => simp [intOf]; omega
                · have hJ : ¬ (jumpsB x.f1 && decide (0 ≤ pl)) = true := by rw [decide_eq_false c4]; simp
                  have HJ := Aside0.mk hJ
                  clear hJ qj
                  have c4b : decide (pl ≥ 0) = false := decide_eq_false c4
                  have c4c : decide (0 ≤ pl) = false := decide_eq_false c4
                  clear c4
                  go_wp2
                  go_roundw
                  case rel => exact ⟨i + 1, by have := HW.out; first | rfl | (simp; done), by omega, ⟨HRW.out.below⟩, ⟨by rw [HMS.out, if_neg HJ.out, if_neg HE.out, if_neg HD.out]; exact HO.out⟩⟩
                  case measure => simp [intOf]; omega
            | false =>
              cases qe : endsB x.f1 with
              | true =>
                by_cases c2 : i + 1 < l0.length
                · have hE : ((jumpsB x.f1 || endsB x.f1) && decide (i + 1 < l0.length)) = true := by rw [qj, qe, decide_eq_true c2]; first | rfl | simp
                  have HE := Aside0.mk hE
                  have c2b : decide ((i : Int) + 1 < (l0.length : Int)) = true := decide_eq_true (by omega)
                  have p7 : (0 ≤ (i : Int) + 1) = True := eq_true (by omega)
                  have p8 : ((i : Int) + 1 < (l0.length : Int)) = True := eq_true (by omega)
                  have p9 : ((i : Int) + 1).toNat = i + 1 := by omega
                  have HC2 := Aside0.mk c2
                  clear hE c2
                  go_wp2_with (first | ((with_reducible refine gate_store (t := 4) (p := 72) rfl ?_); refine bool_store rfl rfl rfl (i + 1) HO.out ?hi_ HRW.out.below ?had_ rfl ?_; (case hi_ => exact HC2.out); (case had_ => first | rfl | (go_simp; done) | (go_simp; rfl)); intro w_ h1_ h2_ h3_; replace HRW := Aside0.mk (HRW.out.besides (Kd.R_typed HO.out) (by intro p hp; simp at hp; subst hp; show (46 : Nat) ≠ 4; decide) h3_ h2_); replace HO := Aside0.mk h1_; clear h1_ h2_ h3_; have g2 := blk_cell (HRW.out.mem List.mem_cons_self) 2))
                  refine (provisoref05_Place.calls k _ _ l0 x.f2 pl _ (Kd.C_below HR.out HRW.out.below) HCC.out HPL.out).mono ?_
                  rintro e w_ ⟨rfl, hb⟩
                  replace HO := Aside0.mk (Kd.R_below HO.out hb)
                  replace HRW := Aside0.mk (HRW.out.step hb)
                  clear hb g2
                  have hJ : ¬ (jumpsB x.f1 && decide (0 ≤ pl)) = true := by rw [qj]; simp
                  have HJ := Aside0.mk hJ
                  clear hJ qj
                  go_wp2
                  go_roundw
                  case rel => exact ⟨i + 1, by have := HW.out; first | rfl | (simp; done), by omega, ⟨HRW.out.below⟩, ⟨by rw [HMS.out, if_neg HJ.out, if_pos HE.out, if_neg HD.out]; exact HO.out⟩⟩
                  case measure => simp [intOf]; omega
                · have hE : ¬ ((jumpsB x.f1 || endsB x.f1) && decide (i + 1 < l0.length)) = true := by rw [decide_eq_false c2]; simp
                  have HE := Aside0.mk hE
                  have c2b : decide ((i : Int) + 1 < (l0.length : Int)) = false := decide_eq_false (by omega)
                  clear hE c2
                  have g2 := blk_cell (HRW.out.mem List.mem_cons_self) 2
                  go_wp2_with fail
                  refine (provisoref05_Place.calls k _ _ l0 x.f2 pl _ (Kd.C_below HR.out HRW.out.below) HCC.out HPL.out).mono ?_
                  rintro e w_ ⟨rfl, hb⟩
                  replace HO := Aside0.mk (Kd.R_below HO.out hb)
                  replace HRW := Aside0.mk (HRW.out.step hb)
                  clear hb g2
                  have hJ : ¬ (jumpsB x.f1 && decide (0 ≤ pl)) = true := by rw [qj]; simp
                  have HJ := Aside0.mk hJ
                  clear hJ qj
                  go_wp2
                  go_roundw
                  case rel => exact ⟨i + 1, by have := HW.out; first | rfl | (simp; done), by omega, ⟨HRW.out.below⟩, ⟨by rw [HMS.out, if_neg HJ.out, if_neg HE.out, if_neg HD.out]; exact HO.out⟩⟩
                  case measure => simp [intOf]; omega
              | false =>
                have hE : ¬ ((jumpsB x.f1 || endsB x.f1) && decide (i + 1 < l0.length)) = true := by rw [qj, qe]; simp
                have HE := Aside0.mk hE
                clear hE
                have g2 := blk_cell (HRW.out.mem List.mem_cons_self) 2
                go_wp2_with fail
                refine (provisoref05_Place.calls k _ _ l0 x.f2 pl _ (Kd.C_below HR.out HRW.out.below) HCC.out HPL.out).mono ?_
                rintro e w_ ⟨rfl, hb⟩
                replace HO := Aside0.mk (Kd.R_below HO.out hb)
                replace HRW := Aside0.mk (HRW.out.step hb)
                clear hb g2
                have hJ : ¬ (jumpsB x.f1 && decide (0 ≤ pl)) = true := by rw [qj]; simp
                have HJ := Aside0.mk hJ
                clear hJ qj
                go_wp2
                go_roundw
                case rel => exact ⟨i + 1, by have := HW.out; first | rfl | (simp; done), by omega, ⟨HRW.out.below⟩, ⟨by rw [HMS.out, if_neg HJ.out, if_neg HE.out, if_neg HD.out]; exact HO.out⟩⟩
                case measure => simp [intOf]; omega
        · have c1b : decide ((i : Int) < (l0.length : Int)) = false := decide_eq_false (by omega)
          have c1c : decide (i < l0.length) = false := decide_eq_false (by omega)
          have HO9 : Aside0 (Kd.R Kd.bool 4 wr w.heap.size (fun _ => True) v39 (markR l0 l0.length)) := ⟨by have h9 := HO.out; rw [show i = l0.length by omega] at h9; exact h9⟩
          clear HO c1 hi
          go_wp2_with fail
          obtain ⟨M, hM⟩ : ∃ M, M = markR l0 l0.length := ⟨_, rfl⟩
          rw [← hM] at HO9 HV
          have HML : Aside0 (M.length = l0.length) := ⟨by rw [hM]; exact markR_len _ _⟩
          have HM0 : Aside0 (0 < l0.length → M.getD 0 false = true) := ⟨fun h9 => by rw [hM, show l0.length = (l0.length - 1) + 1 by omega]; exact markR_zero l0 h9 _⟩
          clear hM
          have HS9 : Aside0 (Kd.S k35 35 wr w.heap.size (fun _ => True) (.slice none 0 0) (outR l0 M 0)) := ⟨Kd.S_nil _ _ _ _ _⟩
          go_loopw [10, 88] (fun v10 v88 wr => ∃ i : Nat, v88 = .int .i64 (i : Int) ∧ i ≤ l0.length ∧ Aside0 (Below w.heap.size w wr) ∧ Aside0 (Kd.R Kd.bool 4 wr w.heap.size (fun _ => True) v39 M) ∧ Aside0 (Kd.S k35 35 wr w.heap.size (fun _ => True) v10 (outR l0 M i))) (fun _ v88 _ => ((l0.length : Int) - intOf v88).toNat)
          case atStart => exact ⟨0, rfl, Nat.zero_le _, HBW, HO9, HS9⟩
          case round =>
            clear HBW HO9 HS9
            obtain ⟨i, rfl, hi, HBW, HO9, HS9⟩ := hrel
            by_cases c1 : i < l0.length
            · obtain ⟨x, hx⟩ : ∃ x, x = rd_T46 l0 (i : Int) := ⟨_, rfl⟩
              obtain ⟨ad, e1, hx0, hx1, hx2, hx3⟩ := at_I HR.out HBW.out c1 hx
              cases e1
              obtain ⟨g4, c4, e4, _, _, _⟩ := Kd.R_form HO9.out (by rw [HML.out]; omega)
              rw [HML.out] at e4
              subst e4
              obtain ⟨am, em, hbm⟩ := Kd.at_bool (Kd.R_reads' HO9.out).2.2 (i : Int) (by omega) (by have := HML.out; omega)
              cases em
              have HX := Aside0.mk hx
              have HI : Aside0 (i < l0.length) := ⟨c1⟩
              have c1b : decide ((i : Int) < (l0.length : Int)) = true := decide_eq_true (by omega)
              have p5 : (0 ≤ (i : Int)) = True := eq_true (by omega)
              have p6 : ((i : Int) < (l0.length : Int)) = True := eq_true (by omega)
              have HW := Aside0.mk (wrap_next (show i < 4398046511104 by omega))
              have HNX := Aside0.mk (okR_at HOK.out c1)
              rw [← hx] at HNX
              obtain ⟨A10, c10, e10⟩ := Kd.S_slice HS9.out
              subst e10
              have HOL := Aside0.mk (outR_len l0 M i)
              obtain ⟨o1, ho1⟩ : ∃ o1, o1 = addR l0 M i := ⟨_, rfl⟩
              have HO1 := Aside0.mk ho1
              obtain ⟨q, hq⟩ : ∃ q, o1.length = q + 1 := ⟨o1.length - 1, by have := addR_pos l0 M (HM0.out (by omega)) i; rw [ho1]; omega⟩
              have HQ := Aside0.mk hq
              have hb9 : rdOf false M (i : Int) = M.getD i false := by unfold rdOf; rw [Int.toNat_natCast]
              rw [hb9, Int.toNat_natCast, add0] at hbm
              have hqn : q ≤ 4398046511104 := by have h1 := HOL.out; have h2 : o1.length ≤ i + 1 := (by rw [ho1]; unfold addR; split; (rw [List.length_append, List.length_singleton]; omega); omega); omega
              have hw1 : IntKind.i64.wrap (((q + 1 : Nat) : Int) - 1) = (q : Int) := (i64_w _).trans (by unfold wrap64; omega)
              have hw2 : IntKind.i64.wrap (q : Int) = (q : Int) := (i64_w _).trans (by unfold wrap64; omega)
              clear hb9 hq ho1 hx
              cases hm : M.getD i false with
              | true =>
                have HA : Aside0 (o1 = outR l0 M i ++ [(⟨x.f0, 0, []⟩ : S35)]) := ⟨by rw [HO1.out, HX.out]; unfold addR; rw [if_pos hm]⟩
                rw [hm] at hbm
                clear hm
                by_cases d1 : i + 1 = l0.length
                · 
                  have HN0 : Aside0 (nxR l0 M i = (nextL x).filter (fun a => decide (0 ≤ placeI l0 a))) := ⟨by rw [HX.out]; unfold nxR; rw [if_pos (Or.inl d1)]⟩
                  have d1b : (((i : Int) + 1) == (l0.length : Int)) = true := by rw [beq_iff_eq]; omega
                  have d1c : decide (((i : Int) + 1) = (l0.length : Int)) = true := decide_eq_true (by omega)
                  clear d1
                  go_wp2_with (first | (at_builtin; refine S_append1 k35 (w0 := w) w.heap.size rfl (.tmp 95) (.tmp 102) 29 35 (.agg #[.int .i64 0, .int .i64 0, .slice none 0 0]) 40 rfl Try.underlying29 (by kernel_rfl) rfl (by show (0 : Nat) < 3; decide) (by decide) (.slice A10 (outR l0 M i).length c10) (outR l0 M i) (⟨x.f0, 0, []⟩ : S35) [.int .i64 x.f0, .int .i64 0, .slice none 0 0] (fun _ => True) (fun _ => False) rfl rfl (blk_M (Kd.R_nil _ _ _ _ _)) (fun _ hk => hk.elim) (fun _ _ => trivial) (Kd.S_mono HS9.out (fun _ _ => ⟨trivial, fun h9 => h9⟩)) HBW.out HBW.out.size (by have := HOL.out; have := HL.out; unfold maxLen; omega) (blk_fits (by have := HOL.out; have := HL.out; omega)) ?_; intro v7 w7 ho hb hg hat; replace HO9 := Aside0.mk (Kd.R_over' HO9.out (Kd.S_typed HS9.out) (by decide) hg); replace HBW := Aside0.mk hb; rw [← HA.out] at ho; replace HS9 := Aside0.mk ho; clear ho hb hg hat hbm; obtain ⟨g9, cap9, e9, _, _, _⟩ := Kd.S_form HS9.out (Nat.lt_of_lt_of_eq (Nat.succ_pos q) HQ.out.symm); rw [HQ.out] at e9; subst e9; obtain ⟨oki, cl, hcl, hM, hcc, hok, hH⟩ := Kd.S_lend HS9.out z35 (q : Int) (by omega) (by omega); rw [Int.toNat_natCast] at hM; obtain ⟨v0, rfl, hv0⟩ := blk_parts hM; have HH := Aside0.mk hH; clear hcl hM hcc hok hH hv0; (try clear hx0 hx1 hx2 hx3); obtain ⟨ad', e1, hx0, hx1, hx2, hx3⟩ := at_I HR.out HBW.out HI.out HX.out; cases e1) | ((with_reducible refine gate_store (t := 3) (p := 116) rfl ?_); refine h_store (o' := q * 3 + 1) k35 w.heap.size rfl rfl 3 _ _ rfl 35 (q : Int) 1 _ (.int .i64 x.f0) [.int .i64 x.f0] _ (fun _ => True) oki ?had_ ?hof_ ?hx_ rfl (show (Try.prog.info? 3).map (·.size) = some 1 from by kernel_rfl) (fun q9 hq9 => (List.mem_singleton.1 hq9) ▸ rfl) HH.out (Int.natCast_nonneg q) (show (q : Int) < ((q + 1 : Nat) : Int) from Int.ofNat_lt.2 (Nat.lt_succ_self q)) (show 1 + 1 ≤ 3 by decide) HBW.out ?_; (case had_ => first | rfl | (go_simp; done) | (go_simp; rfl)); (case hof_ => first | rfl | omega); (case hx_ => first | rfl | (go_simp; done) | (go_simp; rfl)); intro w_ h1_ h2_ h3_; replace HO9 := Aside0.mk (Kd.R_over' HO9.out (h_typed HH.out) (by decide) (by have h9 := h3_; simpa [Value.ownBlock] using h9)); replace HBW := Aside0.mk h2_; replace HH := Aside0.mk h1_; clear h1_ h2_ h3_; (try clear hx0 hx1 hx2 hx3); obtain ⟨ad', e1, hx0, hx1, hx2, hx3⟩ := at_I HR.out HBW.out HI.out HX.out; cases e1) | ((with_reducible refine gate_store (t := 27) (p := 119) rfl ?_); refine h_store (o' := q * 3 + 2) k35 w.heap.size rfl rfl 27 _ _ rfl 35 (q : Int) 2 _ (.slice none 0 0) [.slice none 0 0] _ (fun _ => True) oki ?had_ ?hof_ ?hx_ rfl (show (Try.prog.info? 27).map (·.size) = some 1 from by kernel_rfl) (fun q9 hq9 => (List.mem_singleton.1 hq9) ▸ rfl) HH.out (Int.natCast_nonneg q) (show (q : Int) < ((q + 1 : Nat) : Int) from Int.ofNat_lt.2 (Nat.lt_succ_self q)) (show 2 + 1 ≤ 3 by decide) HBW.out ?_; (case had_ => first | rfl | (go_simp; done) | (go_simp; rfl)); (case hof_ => first | rfl | omega); (case hx_ => first | rfl | (go_simp; done) | (go_simp; rfl)); intro w_ h1_ h2_ h3_; replace HO9 := Aside0.mk (Kd.R_over' HO9.out (h_typed HH.out) (by decide) (by have h9 := h3_; simpa [Value.ownBlock] using h9)); replace HBW := Aside0.mk h2_; replace HH := Aside0.mk h1_; clear h1_ h2_ h3_; (try clear hx0 hx1 hx2 hx3); obtain ⟨ad', e1, hx0, hx1, hx2, hx3⟩ := at_I HR.out HBW.out HI.out HX.out; cases e1))
                  refine (provisoref05_Next.calls k x.f0 x.f1 x.f2 x.f3 (nextL x) _ HNX.out.1).mono ?_
                  rintro e w9 ⟨v136, rfl, hR9, hb⟩
                  obtain ⟨A96, c96, rfl⟩ := Kd.R_slice hR9
                  have HNP := Aside0.mk HNX.out.2.2
                  obtain ⟨nx, hnx⟩ : ∃ nx, nx = nextL x := ⟨_, rfl⟩
                  have hnl : nx.length ≤ 2 := by rw [hnx]; exact nextL_le2 x
                  have HXN := Aside0.mk hnx
                  rw [← hnx] at hR9 HNP ⊢
                  have HN : Aside0 (Kd.R (Kd.int .i64) 3 w9 w.heap.size (fun j => True ∧ some j ≠ (Value.slice none 0 0).ownBlock) (.slice A96 nx.length c96) nx) := ⟨Kd.R_apart_nil (Kd.R_lower hR9 HBW.out.size)⟩
                  replace HH := Aside0.mk (Kd.H_below HH.out hb)
                  replace HO9 := Aside0.mk (Kd.R_below HO9.out hb)
                  replace HBW := Aside0.mk (below_step HBW.out hb)
                  have HV2 : Aside0 (Kd.R (Kd.int .i64) 3 w9 w.heap.size oki (.slice none 0 0) []) := ⟨Kd.R_nil _ _ _ _ _⟩
                  clear hR9 hb hnx
                  go_wp2_with fail
                  go_loopw [138] (fun v138 wr => ∃ (j : Nat) (v2 : Value) (ns : List Int) (ok2 : Nat → Prop), v138 = .int .i64 (j : Int) ∧ j ≤ nx.length ∧ Aside0 (ns = (nx.take j).filter fun a => decide (0 ≤ placeI l0 a)) ∧ Aside0 (Below w.heap.size w wr) ∧ Aside0 (Kd.R Kd.bool 4 wr w.heap.size (fun _ => True) (.slice (some ⟨g4, 0, none⟩) l0.length c4) M) ∧ Aside0 (Kd.H k35 35 wr w.heap.size (fun _ => True) (.slice (some ⟨g9, 0, none⟩) (q + 1) cap9) o1 (q : Int) ok2 [.int .i64 (o1.getD q z35).f0, .int .i64 x.f0, v2]) ∧ Aside0 (Kd.R (Kd.int .i64) 3 wr w.heap.size ok2 v2 ns) ∧ Aside0 (Kd.R (Kd.int .i64) 3 wr w.heap.size (fun j => True ∧ some j ≠ v2.ownBlock) (.slice A96 nx.length c96) nx)) (fun v138 _ => ((nx.length : Int) - intOf v138).toNat)
                  case atStart => exact ⟨0, .slice none 0 0, [], oki, rfl, Nat.zero_le _, ⟨by simp⟩, HBW, HO9, ⟨HH.out⟩, HV2, HN⟩
                  case round =>
                    clear HBW HO9 HH HV2 HN
                    obtain ⟨j, v2, ns, ok2, rfl, hj, HNS, HBW, HO9, HH, HV2, HN⟩ := hrel
                    obtain ⟨A2, c2', e2'⟩ := Kd.R_slice HV2.out
                    subst e2'
                    by_cases d3 : j < nx.length
                    · have d3b : decide ((j : Int) < (nx.length : Int)) = true := decide_eq_true (by omega)
                      obtain ⟨ad2, em2, hc⟩ := Kd.at_int (Kd.R_reads' HN.out).2.2 (j : Int) (by omega) (by omega)
                      cases em2
                      simp only [Int.toNat_natCast] at hc
                      have q5 : (0 ≤ (j : Int)) = True := eq_true (by omega)
                      have q6 : ((j : Int) < (nx.length : Int)) = True := eq_true (by omega)
                      have HKA := Aside0.mk (HNP.out _ (rd_memI d3))
                      have HNT := Aside0.mk (filter_take (fun a => decide (0 ≤ placeI l0 a)) d3)
                      have HWJ := Aside0.mk (wrap_next (show j < 4398046511104 by omega))
                      generalize rd nx (j : Int) = a at hc HKA HNT
                      go_wp2_with fail
                      clear hc
                      refine (provisoref05_Place.calls k _ _ l0 a (placeI l0 a) _ (Kd.C_below HR.out HBW.out) HCC.out HKA.out).mono ?_
                      rintro e w10 ⟨rfl, hb⟩
                      replace HO9 := Aside0.mk (Kd.R_below HO9.out hb)
                      replace HH := Aside0.mk (Kd.H_below HH.out hb)
                      replace HV2 := Aside0.mk (Kd.R_below HV2.out hb)
                      replace HN := Aside0.mk (Kd.R_below HN.out hb)
                      replace HBW := Aside0.mk (below_step HBW.out hb)
                      clear hb
                      obtain ⟨pa, hpa⟩ : ∃ pa, pa = placeI l0 a := ⟨_, rfl⟩
                      rw [← hpa]
                      by_cases d4 : 0 ≤ pa
                      · have HNS2 : Aside0 (ns ++ [a] = (nx.take (j + 1)).filter fun a => decide (0 ≤ placeI l0 a)) := ⟨by rw [HNT.out, HNS.out, ← hpa, decide_eq_true d4]; simp⟩
                        have HNL : Aside0 (ns.length ≤ 2) := ⟨by rw [HNS.out]; exact Nat.le_trans (List.length_filter_le _ _) (by rw [List.length_take]; omega)⟩
                        have d4b : decide (pa ≥ 0) = true := decide_eq_true d4
                        have d4c : decide (0 ≤ pa) = true := decide_eq_true d4
                        obtain ⟨_, _, _, _, _, hcc, _⟩ := Kd.H_raw HH.out (Int.natCast_nonneg q) (show (q : Int) < ((q + 1 : Nat) : Int) from Int.ofNat_lt.2 (Nat.lt_succ_self q))
                        have hv : w10.cell? ⟨g9, q * 3 + 2, none⟩ = some (.slice A2 ns.length c2') := hcc 2 _ rfl
                        clear hcc hpa d4
                        go_wp2_with (first | ((with_reducible refine gate_dst (N := 152) rfl ?_); refine Kd.R_lit (Kd.int .i64) _ 3 ?hg (N := 152) ?hd (xs := ([a] : List Int)) (inner := [.int .i64 a]) (ok := fun _ => True) (okp := fun _ => True) ?hr ?hp (fun _ hk => hk) trivial HBW.out HBW.out.size (by simp) ?_; (case hd => rfl); (case hg => rfl); (case hr => first | (go_simp; done) | (go_simp; rfl)); (case hp => exact (Reps.one (show Kd.M (Kd.int .i64) _ _ _ a [.int .i64 a] from rfl) (Reps.none _ _))); intro v112 w3 ho1 hb1 hg1 _; have hbn := below_none hg1; obtain ⟨A3, c3', e3'⟩ := Kd.R_slice ho1; subst e3'; have HL1 := Aside0.mk (Kd.R_reads' ho1).2.2; replace HBW := Aside0.mk (below_step HBW.out hbn); replace HH := Aside0.mk (Kd.H_widen (Kd.H_below HH.out hbn)); replace HV2 := Aside0.mk (Kd.R_mono (Kd.R_below HV2.out hbn) (fun k hk => Or.inl hk) : Kd.R (Kd.int .i64) 3 w3 w.heap.size (fun k => ok2 k ∨ True ∧ w3.heap.size ≤ k) (.slice A2 ns.length c2') ns); replace HO9 := Aside0.mk (Kd.R_below HO9.out hbn); replace HN := Aside0.mk (Kd.R_below HN.out hbn); clear ho1 hb1 hg1 hbn hv) | (at_builtin; refine Kd.R_append_rows (Kd.int .i64) (w0 := w) w.heap.size rfl (.tmp 150) (.tmp 152) 27 3 (.int .i64 0) 8 rfl Try.underlying27 (by kernel_rfl) rfl (by decide) (by omega) _ ns [a] _ _ _ (fun k => ok2 k ∨ True ∧ w3.heap.size ≤ k) (fun _ => False) rfl rfl HV2.out HL1.out (fun _ _ h => h) (fun _ h => h.elim) (fun _ hk => Or.inr ⟨trivial, hk⟩) HBW.out HBW.out.size (by have := HNL.out; simp; omega) ?_; intro v5 w4 ho hb hg hat; replace HO9 := Aside0.mk (Kd.R_over' HO9.out (Kd.R_typed HV2.out) (by decide) hg); replace HN := Aside0.mk (Kd.R_after HN.out hg hat); replace HH := Aside0.mk (Kd.H_grown HH.out hg (fun k hk => HV2.out.1 k hk)); replace HBW := Aside0.mk hb; replace HV2 := Aside0.mk ho; clear ho hb hg hat; obtain ⟨A5, c5, e5⟩ := Kd.R_slice HV2.out; subst e5) | ((with_reducible refine gate_store (t := 27) (p := 155) rfl ?_); refine h_store (o' := q * 3 + 2) k35 w.heap.size rfl rfl 27 _ _ rfl 35 (q : Int) 2 _ (.slice A5 (ns.length + 1) c5) [.slice A5 (ns.length + 1) c5] _ (fun _ => True) _ ?had_ ?hof_ ?hx_ rfl (show (Try.prog.info? 27).map (·.size) = some 1 from by kernel_rfl) (fun q9 hq9 => (List.mem_singleton.1 hq9) ▸ rfl) HH.out (Int.natCast_nonneg q) (show (q : Int) < ((q + 1 : Nat) : Int) from Int.ofNat_lt.2 (Nat.lt_succ_self q)) (show 2 + 1 ≤ 3 by decide) HBW.out ?_; (case had_ => first | rfl | (go_simp; done) | (go_simp; rfl)); (case hof_ => first | rfl | omega); (case hx_ => first | rfl | (go_simp; done) | (go_simp; rfl)); intro w_ h1_ h2_ h3_; replace HO9 := Aside0.mk (Kd.R_over' HO9.out (h_typed HH.out) (by decide) (by have h9 := h3_; simpa [Value.ownBlock] using h9)); replace HV2 := Aside0.mk (Kd.R_over' HV2.out (h_typed HH.out) (by decide) (by have h9 := h3_; simpa [Value.ownBlock] using h9)); replace HN := Aside0.mk (Kd.R_over' HN.out (h_typed HH.out) (by decide) (by have h9 := h3_; simpa [Value.ownBlock] using h9)); replace HBW := Aside0.mk h2_; replace HH := Aside0.mk h1_; clear h1_ h2_ h3_))
                        go_roundw
                        case rel => exact ⟨j + 1, .slice A5 (ns ++ [a]).length c5, ns ++ [a], _, by have := HWJ.out; first | rfl | (simp; done), by omega, HNS2, HBW, HO9, ⟨by rw [show (ns ++ [a]).length = ns.length + 1 from by simp]; refine Eq.mp ?_ HH.out; kernel_rfl⟩, HV2, HN⟩
                        case measure => simp [intOf]; omega
                      · have HNS2 : Aside0 (ns = (nx.take (j + 1)).filter fun a => decide (0 ≤ placeI l0 a)) := ⟨by rw [HNT.out, HNS.out, ← hpa, decide_eq_false d4]; simp⟩
                        have d4b : decide (pa ≥ 0) = false := decide_eq_false d4
                        have d4c : decide (0 ≤ pa) = false := decide_eq_false d4
                        clear hpa d4
                        go_wp2
                        go_roundw
                        case rel => exact ⟨j + 1, .slice A2 ns.length c2', ns, ok2, by have := HWJ.out; first | rfl | (simp; done), by omega, HNS2, HBW, HO9, HH, HV2, HN⟩
                        case measure => simp [intOf]; omega
                    · have d3b : decide ((j : Int) < (nx.length : Int)) = false := decide_eq_false (by omega)
                      have d3c : decide (j < nx.length) = false := decide_eq_false (by omega)
                      have HNS2 : Aside0 (ns = nxR l0 M i) := ⟨by rw [HN0.out, ← HXN.out, HNS.out, List.take_of_length_le (by omega)]⟩
                      clear d3 hj
                      go_wp2_with fail
                      go_roundw
                      case rel =>
                        have h9 := Kd.H_back HH.out (x' := ⟨(o1.getD q z35).f0, x.f0, ns⟩) (okp := ok2) (blk_M HV2.out) (fun _ hk => hk)
                        rw [Int.toNat_natCast] at h9
                        exact ⟨i + 1, by have := HW.out; first | rfl | (simp; done), by omega, HBW, HO9, ⟨by rw [outR_step, ← HO1.out, HQ.out, show q + 1 - 1 = q from rfl, ← HX.out, ← HNS2.out]; exact h9⟩⟩
                      case measure => simp [intOf]; omega
                · cases hbn9 : M.getD (i + 1) false with
                  | true =>
                    have HN0 : Aside0 (nxR l0 M i = (nextL x).filter (fun a => decide (0 ≤ placeI l0 a))) := ⟨by rw [HX.out]; unfold nxR; rw [if_pos (Or.inr hbn9)]⟩
                    have HBN : Aside0 (rdOf false M ((i + 1 : Nat) : Int) = true) := ⟨by unfold rdOf; rw [Int.toNat_natCast]; exact hbn9⟩
                    have HC2 : Aside0 (i + 1 < l0.length) := ⟨by omega⟩
                    have d1b : (((i : Int) + 1) == (l0.length : Int)) = false := by rw [beq_eq_false_iff_ne]; omega
                    have d1c : decide (((i : Int) + 1) = (l0.length : Int)) = false := decide_eq_false (by omega)
                    have p7 : (0 ≤ (i : Int) + 1) = True := eq_true (by omega)
                    have p8 : ((i : Int) + 1 < (l0.length : Int)) = True := eq_true (by omega)
                    have p9 : ((i : Int) + 1).toNat = i + 1 := by omega
                    clear d1 hbn9
                    go_wp2_with (first | (at_builtin; refine S_append1 k35 (w0 := w) w.heap.size rfl (.tmp 95) (.tmp 102) 29 35 (.agg #[.int .i64 0, .int .i64 0, .slice none 0 0]) 40 rfl Try.underlying29 (by kernel_rfl) rfl (by show (0 : Nat) < 3; decide) (by decide) (.slice A10 (outR l0 M i).length c10) (outR l0 M i) (⟨x.f0, 0, []⟩ : S35) [.int .i64 x.f0, .int .i64 0, .slice none 0 0] (fun _ => True) (fun _ => False) rfl rfl (blk_M (Kd.R_nil _ _ _ _ _)) (fun _ hk => hk.elim) (fun _ _ => trivial) (Kd.S_mono HS9.out (fun _ _ => ⟨trivial, fun h9 => h9⟩)) HBW.out HBW.out.size (by have := HOL.out; have := HL.out; unfold maxLen; omega) (blk_fits (by have := HOL.out; have := HL.out; omega)) ?_; intro v7 w7 ho hb hg hat; replace HO9 := Aside0.mk (Kd.R_over' HO9.out (Kd.S_typed HS9.out) (by decide) hg); replace HBW := Aside0.mk hb; rw [← HA.out] at ho; replace HS9 := Aside0.mk ho; clear ho hb hg hat hbm; obtain ⟨g9, cap9, e9, _, _, _⟩ := Kd.S_form HS9.out (Nat.lt_of_lt_of_eq (Nat.succ_pos q) HQ.out.symm); rw [HQ.out] at e9; subst e9; obtain ⟨oki, cl, hcl, hM, hcc, hok, hH⟩ := Kd.S_lend HS9.out z35 (q : Int) (by omega) (by omega); rw [Int.toNat_natCast] at hM; obtain ⟨v0, rfl, hv0⟩ := blk_parts hM; have HH := Aside0.mk hH; clear hcl hM hcc hok hH hv0; (try clear hx0 hx1 hx2 hx3); obtain ⟨ad', e1, hx0, hx1, hx2, hx3⟩ := at_I HR.out HBW.out HI.out HX.out; cases e1) | ((with_reducible refine gate_store (t := 3) (p := 116) rfl ?_); refine h_store (o' := q * 3 + 1) k35 w.heap.size rfl rfl 3 _ _ rfl 35 (q : Int) 1 _ (.int .i64 x.f0) [.int .i64 x.f0] _ (fun _ => True) oki ?had_ ?hof_ ?hx_ rfl (show (Try.prog.info? 3).map (·.size) = some 1 from by kernel_rfl) (fun q9 hq9 => (List.mem_singleton.1 hq9) ▸ rfl) HH.out (Int.natCast_nonneg q) (show (q : Int) < ((q + 1 : Nat) : Int) from Int.ofNat_lt.2 (Nat.lt_succ_self q)) (show 1 + 1 ≤ 3 by decide) HBW.out ?_; (case had_ => first | rfl | (go_simp; done) | (go_simp; rfl)); (case hof_ => first | rfl | omega); (case hx_ => first | rfl | (go_simp; done) | (go_simp; rfl)); intro w_ h1_ h2_ h3_; replace HO9 := Aside0.mk (Kd.R_over' HO9.out (h_typed HH.out) (by decide) (by have h9 := h3_; simpa [Value.ownBlock] using h9)); replace HBW := Aside0.mk h2_; replace HH := Aside0.mk h1_; clear h1_ h2_ h3_; (try clear hx0 hx1 hx2 hx3); obtain ⟨ad', e1, hx0, hx1, hx2, hx3⟩ := at_I HR.out HBW.out HI.out HX.out; cases e1) | ((with_reducible refine gate_store (t := 27) (p := 119) rfl ?_); refine h_store (o' := q * 3 + 2) k35 w.heap.size rfl rfl 27 _ _ rfl 35 (q : Int) 2 _ (.slice none 0 0) [.slice none 0 0] _ (fun _ => True) oki ?had_ ?hof_ ?hx_ rfl (show (Try.prog.info? 27).map (·.size) = some 1 from by kernel_rfl) (fun q9 hq9 => (List.mem_singleton.1 hq9) ▸ rfl) HH.out (Int.natCast_nonneg q) (show (q : Int) < ((q + 1 : Nat) : Int) from Int.ofNat_lt.2 (Nat.lt_succ_self q)) (show 2 + 1 ≤ 3 by decide) HBW.out ?_; (case had_ => first | rfl | (go_simp; done) | (go_simp; rfl)); (case hof_ => first | rfl | omega); (case hx_ => first | rfl | (go_simp; done) | (go_simp; rfl)); intro w_ h1_ h2_ h3_; replace HO9 := Aside0.mk (Kd.R_over' HO9.out (h_typed HH.out) (by decide) (by have h9 := h3_; simpa [Value.ownBlock] using h9)); replace HBW := Aside0.mk h2_; replace HH := Aside0.mk h1_; clear h1_ h2_ h3_; (try clear hx0 hx1 hx2 hx3); obtain ⟨ad', e1, hx0, hx1, hx2, hx3⟩ := at_I HR.out HBW.out HI.out HX.out; cases e1; obtain ⟨am, em, hbn⟩ := Kd.at_bool (Kd.R_reads' HO9.out).2.2 ((i + 1 : Nat) : Int) (by omega) (by have := HML.out; have := HC2.out; omega); cases em; rw [HBN.out, Int.toNat_natCast, add0] at hbn))
                    refine (provisoref05_Next.calls k x.f0 x.f1 x.f2 x.f3 (nextL x) _ HNX.out.1).mono ?_
                    rintro e w9 ⟨v136, rfl, hR9, hb⟩
                    obtain ⟨A96, c96, rfl⟩ := Kd.R_slice hR9
                    have HNP := Aside0.mk HNX.out.2.2
                    obtain ⟨nx, hnx⟩ : ∃ nx, nx = nextL x := ⟨_, rfl⟩
                    have hnl : nx.length ≤ 2 := by rw [hnx]; exact nextL_le2 x
                    have HXN := Aside0.mk hnx
                    rw [← hnx] at hR9 HNP ⊢
                    have HN : Aside0 (Kd.R (Kd.int .i64) 3 w9 w.heap.size (fun j => True ∧ some j ≠ (Value.slice none 0 0).ownBlock) (.slice A96 nx.length c96) nx) := ⟨Kd.R_apart_nil (Kd.R_lower hR9 HBW.out.size)⟩
                    replace HH := Aside0.mk (Kd.H_below HH.out hb)
                    replace HO9 := Aside0.mk (Kd.R_below HO9.out hb)
                    replace HBW := Aside0.mk (below_step HBW.out hb)
                    have HV2 : Aside0 (Kd.R (Kd.int .i64) 3 w9 w.heap.size oki (.slice none 0 0) []) := ⟨Kd.R_nil _ _ _ _ _⟩
                    clear hR9 hb hnx
                    go_wp2_with fail
                    go_loopw [138] (fun v138 wr => ∃ (j : Nat) (v2 : Value) (ns : List Int) (ok2 : Nat → Prop), v138 = .int .i64 (j : Int) ∧ j ≤ nx.length ∧ Aside0 (ns = (nx.take j).filter fun a => decide (0 ≤ placeI l0 a)) ∧ Aside0 (Below w.heap.size w wr) ∧ Aside0 (Kd.R Kd.bool 4 wr w.heap.size (fun _ => True) (.slice (some ⟨g4, 0, none⟩) l0.length c4) M) ∧ Aside0 (Kd.H k35 35 wr w.heap.size (fun _ => True) (.slice (some ⟨g9, 0, none⟩) (q + 1) cap9) o1 (q : Int) ok2 [.int .i64 (o1.getD q z35).f0, .int .i64 x.f0, v2]) ∧ Aside0 (Kd.R (Kd.int .i64) 3 wr w.heap.size ok2 v2 ns) ∧ Aside0 (Kd.R (Kd.int .i64) 3 wr w.heap.size (fun j => True ∧ some j ≠ v2.ownBlock) (.slice A96 nx.length c96) nx)) (fun v138 _ => ((nx.length : Int) - intOf v138).toNat)
                    case atStart => exact ⟨0, .slice none 0 0, [], oki, rfl, Nat.zero_le _, ⟨by simp⟩, HBW, HO9, ⟨HH.out⟩, HV2, HN⟩
                    case round =>
                      clear HBW HO9 HH HV2 HN
                      obtain ⟨j, v2, ns, ok2, rfl, hj, HNS, HBW, HO9, HH, HV2, HN⟩ := hrel
                      obtain ⟨A2, c2', e2'⟩ := Kd.R_slice HV2.out
                      subst e2'
                      by_cases d3 : j < nx.length
                      · have d3b : decide ((j : Int) < (nx.length : Int)) = true := decide_eq_true (by omega)
                        obtain ⟨ad2, em2, hc⟩ := Kd.at_int (Kd.R_reads' HN.out).2.2 (j : Int) (by omega) (by omega)
                        cases em2
                        simp only [Int.toNat_natCast] at hc
                        have q5 : (0 ≤ (j : Int)) = True := eq_true (by omega)
                        have q6 : ((j : Int) < (nx.length : Int)) = True := eq_true (by omega)
                        have HKA := Aside0.mk (HNP.out _ (rd_memI d3))
                        have HNT := Aside0.mk (filter_take (fun a => decide (0 ≤ placeI l0 a)) d3)
                        have HWJ := Aside0.mk (wrap_next (show j < 4398046511104 by omega))
                        generalize rd nx (j : Int) = a at hc HKA HNT
                        go_wp2_with fail
                        clear hc
                        refine (provisoref05_Place.calls k _ _ l0 a (placeI l0 a) _ (Kd.C_below HR.out HBW.out) HCC.out HKA.out).mono ?_
                        rintro e w10 ⟨rfl, hb⟩
                        replace HO9 := Aside0.mk (Kd.R_below HO9.out hb)
                        replace HH := Aside0.mk (Kd.H_below HH.out hb)
                        replace HV2 := Aside0.mk (Kd.R_below HV2.out hb)
                        replace HN := Aside0.mk (Kd.R_below HN.out hb)
                        replace HBW := Aside0.mk (below_step HBW.out hb)
                        clear hb
                        obtain ⟨pa, hpa⟩ : ∃ pa, pa = placeI l0 a := ⟨_, rfl⟩
                        rw [← hpa]
                        by_cases d4 : 0 ≤ pa
                        · have HNS2 : Aside0 (ns ++ [a] = (nx.take (j + 1)).filter fun a => decide (0 ≤ placeI l0 a)) := ⟨by rw [HNT.out, HNS.out, ← hpa, decide_eq_true d4]; simp⟩
                          have HNL : Aside0 (ns.length ≤ 2) := ⟨by rw [HNS.out]; exact Nat.le_trans (List.length_filter_le _ _) (by rw [List.length_take]; omega)⟩
                          have d4b : decide (pa ≥ 0) = true := decide_eq_true d4
                          have d4c : decide (0 ≤ pa) = true := decide_eq_true d4
                          obtain ⟨_, _, _, _, _, hcc, _⟩ := Kd.H_raw HH.out (Int.natCast_nonneg q) (show (q : Int) < ((q + 1 : Nat) : Int) from Int.ofNat_lt.2 (Nat.lt_succ_self q))
                          have hv : w10.cell? ⟨g9, q * 3 + 2, none⟩ = some (.slice A2 ns.length c2') := hcc 2 _ rfl
                          clear hcc hpa d4
                          go_wp2_with (first | ((with_reducible refine gate_dst (N := 152) rfl ?_); refine Kd.R_lit (Kd.int .i64) _ 3 ?hg (N := 152) ?hd (xs := ([a] : List Int)) (inner := [.int .i64 a]) (ok := fun _ => True) (okp := fun _ => True) ?hr ?hp (fun _ hk => hk) trivial HBW.out HBW.out.size (by simp) ?_; (case hd => rfl); (case hg => rfl); (case hr => first | (go_simp; done) | (go_simp; rfl)); (case hp => exact (Reps.one (show Kd.M (Kd.int .i64) _ _ _ a [.int .i64 a] from rfl) (Reps.none _ _))); intro v112 w3 ho1 hb1 hg1 _; have hbn := below_none hg1; obtain ⟨A3, c3', e3'⟩ := Kd.R_slice ho1; subst e3'; have HL1 := Aside0.mk (Kd.R_reads' ho1).2.2; replace HBW := Aside0.mk (below_step HBW.out hbn); replace HH := Aside0.mk (Kd.H_widen (Kd.H_below HH.out hbn)); replace HV2 := Aside0.mk (Kd.R_mono (Kd.R_below HV2.out hbn) (fun k hk => Or.inl hk) : Kd.R (Kd.int .i64) 3 w3 w.heap.size (fun k => ok2 k ∨ True ∧ w3.heap.size ≤ k) (.slice A2 ns.length c2') ns); replace HO9 := Aside0.mk (Kd.R_below HO9.out hbn); replace HN := Aside0.mk (Kd.R_below HN.out hbn); clear ho1 hb1 hg1 hbn hv) | (at_builtin; refine Kd.R_append_rows (Kd.int .i64) (w0 := w) w.heap.size rfl (.tmp 150) (.tmp 152) 27 3 (.int .i64 0) 8 rfl Try.underlying27 (by kernel_rfl) rfl (by decide) (by omega) _ ns [a] _ _ _ (fun k => ok2 k ∨ True ∧ w3.heap.size ≤ k) (fun _ => False) rfl rfl HV2.out HL1.out (fun _ _ h => h) (fun _ h => h.elim) (fun _ hk => Or.inr ⟨trivial, hk⟩) HBW.out HBW.out.size (by have := HNL.out; simp; omega) ?_; intro v5 w4 ho hb hg hat; replace HO9 := Aside0.mk (Kd.R_over' HO9.out (Kd.R_typed HV2.out) (by decide) hg); replace HN := Aside0.mk (Kd.R_after HN.out hg hat); replace HH := Aside0.mk (Kd.H_grown HH.out hg (fun k hk => HV2.out.1 k hk)); replace HBW := Aside0.mk hb; replace HV2 := Aside0.mk ho; clear ho hb hg hat; obtain ⟨A5, c5, e5⟩ := Kd.R_slice HV2.out; subst e5) | ((with_reducible refine gate_store (t := 27) (p := 155) rfl ?_); refine h_store (o' := q * 3 + 2) k35 w.heap.size rfl rfl 27 _ _ rfl 35 (q : Int) 2 _ (.slice A5 (ns.length + 1) c5) [.slice A5 (ns.length + 1) c5] _ (fun _ => True) _ ?had_ ?hof_ ?hx_ rfl (show (Try.prog.info? 27).map (·.size) = some 1 from by kernel_rfl) (fun q9 hq9 => (List.mem_singleton.1 hq9) ▸ rfl) HH.out (Int.natCast_nonneg q) (show (q : Int) < ((q + 1 : Nat) : Int) from Int.ofNat_lt.2 (Nat.lt_succ_self q)) (show 2 + 1 ≤ 3 by decide) HBW.out ?_; (case had_ => first | rfl | (go_simp; done) | (go_simp; rfl)); (case hof_ => first | rfl | omega); (case hx_ => first | rfl | (go_simp; done) | (go_simp; rfl)); intro w_ h1_ h2_ h3_; replace HO9 := Aside0.mk (Kd.R_over' HO9.out (h_typed HH.out) (by decide) (by have h9 := h3_; simpa [Value.ownBlock] using h9)); replace HV2 := Aside0.mk (Kd.R_over' HV2.out (h_typed HH.out) (by decide) (by have h9 := h3_; simpa [Value.ownBlock] using h9)); replace HN := Aside0.mk (Kd.R_over' HN.out (h_typed HH.out) (by decide) (by have h9 := h3_; simpa [Value.ownBlock] using h9)); replace HBW := Aside0.mk h2_; replace HH := Aside0.mk h1_; clear h1_ h2_ h3_))
                          go_roundw
                          case rel => exact ⟨j + 1, .slice A5 (ns ++ [a]).length c5, ns ++ [a], _, by have := HWJ.out; first | rfl | (simp; done), by omega, HNS2, HBW, HO9, ⟨by rw [show (ns ++ [a]).length = ns.length + 1 from by simp]; refine Eq.mp ?_ HH.out; kernel_rfl⟩, HV2, HN⟩
                          case measure => simp [intOf]; omega
                        · have HNS2 : Aside0 (ns = (nx.take (j + 1)).filter fun a => decide (0 ≤ placeI l0 a)) := ⟨by rw [HNT.out, HNS.out, ← hpa, decide_eq_false d4]; simp⟩
                          have d4b : decide (pa ≥ 0) = false := decide_eq_false d4
                          have d4c : decide (0 ≤ pa) = false := decide_eq_false d4
                          clear hpa d4
                          go_wp2
                          go_roundw
                          case rel => exact ⟨j + 1, .slice A2 ns.length c2', ns, ok2, by have := HWJ.out; first | rfl | (simp; done), by omega, HNS2, HBW, HO9, HH, HV2, HN⟩
                          case measure => simp [intOf]; omega
                      · have d3b : decide ((j : Int) < (nx.length : Int)) = false := decide_eq_false (by omega)
                        have d3c : decide (j < nx.length) = false := decide_eq_false (by omega)
                        have HNS2 : Aside0 (ns = nxR l0 M i) := ⟨by rw [HN0.out, ← HXN.out, HNS.out, List.take_of_length_le (by omega)]⟩
                        clear d3 hj
                        go_wp2_with fail
                        go_roundw
                        case rel =>
                          have h9 := Kd.H_back HH.out (x' := ⟨(o1.getD q z35).f0, x.f0, ns⟩) (okp := ok2) (blk_M HV2.out) (fun _ hk => hk)
                          rw [Int.toNat_natCast] at h9
                          exact ⟨i + 1, by have := HW.out; first | rfl | (simp; done), by omega, HBW, HO9, ⟨by rw [outR_step, ← HO1.out, HQ.out, show q + 1 - 1 = q from rfl, ← HX.out, ← HNS2.out]; exact h9⟩⟩
                        case measure => simp [intOf]; omega
                  | false =>
                    have HN0 : Aside0 (nxR l0 M i = []) := ⟨by unfold nxR; rw [if_neg (by rintro (h9 | h9); exact d1 h9; rw [h9] at hbn9; cases hbn9)]⟩
                    have HBN : Aside0 (rdOf false M ((i + 1 : Nat) : Int) = false) := ⟨by unfold rdOf; rw [Int.toNat_natCast]; exact hbn9⟩
                    have d1b : (((i : Int) + 1) == (l0.length : Int)) = false := by rw [beq_eq_false_iff_ne]; omega
                    have d1c : decide (((i : Int) + 1) = (l0.length : Int)) = false := decide_eq_false (by omega)
                    have p7 : (0 ≤ (i : Int) + 1) = True := eq_true (by omega)
                    have p8 : ((i : Int) + 1 < (l0.length : Int)) = True := eq_true (by omega)
                    have p9 : ((i : Int) + 1).toNat = i + 1 := by omega
                    have HD1 := Aside0.mk d1
                    clear d1 hbn9
                    go_wp2_with (first | (at_builtin; refine S_append1 k35 (w0 := w) w.heap.size rfl (.tmp 95) (.tmp 102) 29 35 (.agg #[.int .i64 0, .int .i64 0, .slice none 0 0]) 40 rfl Try.underlying29 (by kernel_rfl) rfl (by show (0 : Nat) < 3; decide) (by decide) (.slice A10 (outR l0 M i).length c10) (outR l0 M i) (⟨x.f0, 0, []⟩ : S35) [.int .i64 x.f0, .int .i64 0, .slice none 0 0] (fun _ => True) (fun _ => False) rfl rfl (blk_M (Kd.R_nil _ _ _ _ _)) (fun _ hk => hk.elim) (fun _ _ => trivial) (Kd.S_mono HS9.out (fun _ _ => ⟨trivial, fun h9 => h9⟩)) HBW.out HBW.out.size (by have := HOL.out; have := HL.out; unfold maxLen; omega) (blk_fits (by have := HOL.out; have := HL.out; omega)) ?_; intro v7 w7 ho hb hg hat; replace HO9 := Aside0.mk (Kd.R_over' HO9.out (Kd.S_typed HS9.out) (by decide) hg); replace HBW := Aside0.mk hb; rw [← HA.out] at ho; replace HS9 := Aside0.mk ho; clear ho hb hg hat hbm; obtain ⟨g9, cap9, e9, _, _, _⟩ := Kd.S_form HS9.out (Nat.lt_of_lt_of_eq (Nat.succ_pos q) HQ.out.symm); rw [HQ.out] at e9; subst e9; obtain ⟨oki, cl, hcl, hM, hcc, hok, hH⟩ := Kd.S_lend HS9.out z35 (q : Int) (by omega) (by omega); rw [Int.toNat_natCast] at hM; obtain ⟨v0, rfl, hv0⟩ := blk_parts hM; have HH := Aside0.mk hH; clear hcl hM hcc hok hH hv0; (try clear hx0 hx1 hx2 hx3); obtain ⟨ad', e1, hx0, hx1, hx2, hx3⟩ := at_I HR.out HBW.out HI.out HX.out; cases e1) | ((with_reducible refine gate_store (t := 3) (p := 116) rfl ?_); refine h_store (o' := q * 3 + 1) k35 w.heap.size rfl rfl 3 _ _ rfl 35 (q : Int) 1 _ (.int .i64 x.f0) [.int .i64 x.f0] _ (fun _ => True) oki ?had_ ?hof_ ?hx_ rfl (show (Try.prog.info? 3).map (·.size) = some 1 from by kernel_rfl) (fun q9 hq9 => (List.mem_singleton.1 hq9) ▸ rfl) HH.out (Int.natCast_nonneg q) (show (q : Int) < ((q + 1 : Nat) : Int) from Int.ofNat_lt.2 (Nat.lt_succ_self q)) (show 1 + 1 ≤ 3 by decide) HBW.out ?_; (case had_ => first | rfl | (go_simp; done) | (go_simp; rfl)); (case hof_ => first | rfl | omega); (case hx_ => first | rfl | (go_simp; done) | (go_simp; rfl)); intro w_ h1_ h2_ h3_; replace HO9 := Aside0.mk (Kd.R_over' HO9.out (h_typed HH.out) (by decide) (by have h9 := h3_; simpa [Value.ownBlock] using h9)); replace HBW := Aside0.mk h2_; replace HH := Aside0.mk h1_; clear h1_ h2_ h3_; (try clear hx0 hx1 hx2 hx3); obtain ⟨ad', e1, hx0, hx1, hx2, hx3⟩ := at_I HR.out HBW.out HI.out HX.out; cases e1) | ((with_reducible refine gate_store (t := 27) (p := 119) rfl ?_); refine h_store (o' := q * 3 + 2) k35 w.heap.size rfl rfl 27 _ _ rfl 35 (q : Int) 2 _ (.slice none 0 0) [.slice none 0 0] _ (fun _ => True) oki ?had_ ?hof_ ?hx_ rfl (show (Try.prog.info? 27).map (·.size) = some 1 from by kernel_rfl) (fun q9 hq9 => (List.mem_singleton.1 hq9) ▸ rfl) HH.out (Int.natCast_nonneg q) (show (q : Int) < ((q + 1 : Nat) : Int) from Int.ofNat_lt.2 (Nat.lt_succ_self q)) (show 2 + 1 ≤ 3 by decide) HBW.out ?_; (case had_ => first | rfl | (go_simp; done) | (go_simp; rfl)); (case hof_ => first | rfl | omega); (case hx_ => first | rfl | (go_simp; done) | (go_simp; rfl)); intro w_ h1_ h2_ h3_; replace HO9 := Aside0.mk (Kd.R_over' HO9.out (h_typed HH.out) (by decide) (by have h9 := h3_; simpa [Value.ownBlock] using h9)); replace HBW := Aside0.mk h2_; replace HH := Aside0.mk h1_; clear h1_ h2_ h3_; (try clear hx0 hx1 hx2 hx3); obtain ⟨ad', e1, hx0, hx1, hx2, hx3⟩ := at_I HR.out HBW.out HI.out HX.out; cases e1; obtain ⟨am, em, hbn⟩ := Kd.at_bool (Kd.R_reads' HO9.out).2.2 ((i + 1 : Nat) : Int) (by omega) (by have := HML.out; have := HD1.out; omega); cases em; rw [HBN.out, Int.toNat_natCast, add0] at hbn))
                    go_roundw
                    case rel =>
                      have h9 := Kd.H_back HH.out (x' := ⟨(o1.getD q z35).f0, x.f0, []⟩) (okp := fun _ => False) (blk_M (Kd.R_nil _ _ _ _ _)) (fun _ hk => hk.elim)
                      rw [Int.toNat_natCast] at h9
                      exact ⟨i + 1, by have := HW.out; first | rfl | (simp; done), by omega, HBW, HO9, ⟨by rw [outR_step, ← HO1.out, HQ.out, show q + 1 - 1 = q from rfl, ← HX.out, HN0.out]; exact h9⟩⟩
                    case measure => simp [intOf]; omega
              | false =>
                have ho9 : o1 = outR l0 M i := by rw [HO1.out]; unfold addR; rw [hm]; rfl
                rw [hm] at hbm
                rw [← ho9] at HS9 ⊢
                have hq9 := HQ.out
                rw [hq9] at HS9 ⊢
                clear hm ho9 hq9
                obtain ⟨g9, cap9, e9, _, _, _⟩ := Kd.S_form HS9.out (Nat.lt_of_lt_of_eq (Nat.succ_pos q) HQ.out.symm)
                rw [HQ.out] at e9
                injection e9 with e91 e92 e93
                subst e91
                have e94 := e93.symm
                subst e94
                obtain ⟨oki, cl, hcl, hM, hcc, hok, hH⟩ := Kd.S_lend HS9.out z35 (q : Int) (by omega) (by omega)
                rw [Int.toNat_natCast] at hM
                obtain ⟨v0, rfl, hv0⟩ := blk_parts hM
                have HH := Aside0.mk hH
                clear hcl hM hcc hok hH hv0
                by_cases d1 : i + 1 = l0.length
                · 
                  have HN0 : Aside0 (nxR l0 M i = (nextL x).filter (fun a => decide (0 ≤ placeI l0 a))) := ⟨by rw [HX.out]; unfold nxR; rw [if_pos (Or.inl d1)]⟩
                  have d1b : (((i : Int) + 1) == (l0.length : Int)) = true := by rw [beq_iff_eq]; omega
                  have d1c : decide (((i : Int) + 1) = (l0.length : Int)) = true := decide_eq_true (by omega)
                  clear d1
                  go_wp2_with (first | ((with_reducible refine gate_store (t := 3) (p := 116) rfl ?_); refine h_store (o' := q * 3 + 1) k35 w.heap.size rfl rfl 3 _ _ rfl 35 (q : Int) 1 _ (.int .i64 x.f0) [.int .i64 x.f0] _ (fun _ => True) oki ?had_ ?hof_ ?hx_ rfl (show (Try.prog.info? 3).map (·.size) = some 1 from by kernel_rfl) (fun q9 hq9 => (List.mem_singleton.1 hq9) ▸ rfl) HH.out (Int.natCast_nonneg q) (show (q : Int) < ((q + 1 : Nat) : Int) from Int.ofNat_lt.2 (Nat.lt_succ_self q)) (show 1 + 1 ≤ 3 by decide) HBW.out ?_; (case had_ => first | rfl | (go_simp; done) | (go_simp; rfl)); (case hof_ => first | rfl | omega); (case hx_ => first | rfl | (go_simp; done) | (go_simp; rfl)); intro w_ h1_ h2_ h3_; replace HO9 := Aside0.mk (Kd.R_over' HO9.out (h_typed HH.out) (by decide) (by have h9 := h3_; simpa [Value.ownBlock] using h9)); replace HBW := Aside0.mk h2_; replace HH := Aside0.mk h1_; clear h1_ h2_ h3_; (try clear hx0 hx1 hx2 hx3); obtain ⟨ad', e1, hx0, hx1, hx2, hx3⟩ := at_I HR.out HBW.out HI.out HX.out; cases e1) | ((with_reducible refine gate_store (t := 27) (p := 119) rfl ?_); refine h_store (o' := q * 3 + 2) k35 w.heap.size rfl rfl 27 _ _ rfl 35 (q : Int) 2 _ (.slice none 0 0) [.slice none 0 0] _ (fun _ => True) oki ?had_ ?hof_ ?hx_ rfl (show (Try.prog.info? 27).map (·.size) = some 1 from by kernel_rfl) (fun q9 hq9 => (List.mem_singleton.1 hq9) ▸ rfl) HH.out (Int.natCast_nonneg q) (show (q : Int) < ((q + 1 : Nat) : Int) from Int.ofNat_lt.2 (Nat.lt_succ_self q)) (show 2 + 1 ≤ 3 by decide) HBW.out ?_; (case had_ => first | rfl | (go_simp; done) | (go_simp; rfl)); (case hof_ => first | rfl | omega); (case hx_ => first | rfl | (go_simp; done) | (go_simp; rfl)); intro w_ h1_ h2_ h3_; replace HO9 := Aside0.mk (Kd.R_over' HO9.out (h_typed HH.out) (by decide) (by have h9 := h3_; simpa [Value.ownBlock] using h9)); replace HBW := Aside0.mk h2_; replace HH := Aside0.mk h1_; clear h1_ h2_ h3_; (try clear hx0 hx1 hx2 hx3); obtain ⟨ad', e1, hx0, hx1, hx2, hx3⟩ := at_I HR.out HBW.out HI.out HX.out; cases e1))
                  refine (provisoref05_Next.calls k x.f0 x.f1 x.f2 x.f3 (nextL x) _ HNX.out.1).mono ?_
                  rintro e w9 ⟨v136, rfl, hR9, hb⟩
                  obtain ⟨A96, c96, rfl⟩ := Kd.R_slice hR9
                  have HNP := Aside0.mk HNX.out.2.2
                  obtain ⟨nx, hnx⟩ : ∃ nx, nx = nextL x := ⟨_, rfl⟩
                  have hnl : nx.length ≤ 2 := by rw [hnx]; exact nextL_le2 x
                  have HXN := Aside0.mk hnx
                  rw [← hnx] at hR9 HNP ⊢
                  have HN : Aside0 (Kd.R (Kd.int .i64) 3 w9 w.heap.size (fun j => True ∧ some j ≠ (Value.slice none 0 0).ownBlock) (.slice A96 nx.length c96) nx) := ⟨Kd.R_apart_nil (Kd.R_lower hR9 HBW.out.size)⟩
                  replace HH := Aside0.mk (Kd.H_below HH.out hb)
                  replace HO9 := Aside0.mk (Kd.R_below HO9.out hb)
                  replace HBW := Aside0.mk (below_step HBW.out hb)
                  have HV2 : Aside0 (Kd.R (Kd.int .i64) 3 w9 w.heap.size oki (.slice none 0 0) []) := ⟨Kd.R_nil _ _ _ _ _⟩
                  clear hR9 hb hnx
                  go_wp2_with fail
                  go_loopw [138] (fun v138 wr => ∃ (j : Nat) (v2 : Value) (ns : List Int) (ok2 : Nat → Prop), v138 = .int .i64 (j : Int) ∧ j ≤ nx.length ∧ Aside0 (ns = (nx.take j).filter fun a => decide (0 ≤ placeI l0 a)) ∧ Aside0 (Below w.heap.size w wr) ∧ Aside0 (Kd.R Kd.bool 4 wr w.heap.size (fun _ => True) (.slice (some ⟨g4, 0, none⟩) l0.length c4) M) ∧ Aside0 (Kd.H k35 35 wr w.heap.size (fun _ => True) (.slice (some ⟨g9, 0, none⟩) (q + 1) cap9) o1 (q : Int) ok2 [.int .i64 (o1.getD q z35).f0, .int .i64 x.f0, v2]) ∧ Aside0 (Kd.R (Kd.int .i64) 3 wr w.heap.size ok2 v2 ns) ∧ Aside0 (Kd.R (Kd.int .i64) 3 wr w.heap.size (fun j => True ∧ some j ≠ v2.ownBlock) (.slice A96 nx.length c96) nx)) (fun v138 _ => ((nx.length : Int) - intOf v138).toNat)
                  case atStart => exact ⟨0, .slice none 0 0, [], oki, rfl, Nat.zero_le _, ⟨by simp⟩, HBW, HO9, ⟨HH.out⟩, HV2, HN⟩
                  case round =>
                    clear HBW HO9 HH HV2 HN
                    obtain ⟨j, v2, ns, ok2, rfl, hj, HNS, HBW, HO9, HH, HV2, HN⟩ := hrel
                    obtain ⟨A2, c2', e2'⟩ := Kd.R_slice HV2.out
                    subst e2'
                    by_cases d3 : j < nx.length
                    · have d3b : decide ((j : Int) < (nx.length : Int)) = true := decide_eq_true (by omega)
                      obtain ⟨ad2, em2, hc⟩ := Kd.at_int (Kd.R_reads' HN.out).2.2 (j : Int) (by omega) (by omega)
                      cases em2
                      simp only [Int.toNat_natCast] at hc
                      have q5 : (0 ≤ (j : Int)) = True := eq_true (by omega)
                      have q6 : ((j : Int) < (nx.length : Int)) = True := eq_true (by omega)
                      have HKA := Aside0.mk (HNP.out _ (rd_memI d3))
                      have HNT := Aside0.mk (filter_take (fun a => decide (0 ≤ placeI l0 a)) d3)
                      have HWJ := Aside0.mk (wrap_next (show j < 4398046511104 by omega))
                      generalize rd nx (j : Int) = a at hc HKA HNT
                      go_wp2_with fail
                      clear hc
                      refine (provisoref05_Place.calls k _ _ l0 a (placeI l0 a) _ (Kd.C_below HR.out HBW.out) HCC.out HKA.out).mono ?_
                      rintro e w10 ⟨rfl, hb⟩
                      replace HO9 := Aside0.mk (Kd.R_below HO9.out hb)
                      replace HH := Aside0.mk (Kd.H_below HH.out hb)
                      replace HV2 := Aside0.mk (Kd.R_below HV2.out hb)
                      replace HN := Aside0.mk (Kd.R_below HN.out hb)
                      replace HBW := Aside0.mk (below_step HBW.out hb)
                      clear hb
                      obtain ⟨pa, hpa⟩ : ∃ pa, pa = placeI l0 a := ⟨_, rfl⟩
                      rw [← hpa]
                      by_cases d4 : 0 ≤ pa
                      · have HNS2 : Aside0 (ns ++ [a] = (nx.take (j + 1)).filter fun a => decide (0 ≤ placeI l0 a)) := ⟨by rw [HNT.out, HNS.out, ← hpa, decide_eq_true d4]; simp⟩
                        have HNL : Aside0 (ns.length ≤ 2) := ⟨by rw [HNS.out]; exact Nat.le_trans (List.length_filter_le _ _) (by rw [List.length_take]; omega)⟩
                        have d4b : decide (pa ≥ 0) = true := decide_eq_true d4
                        have d4c : decide (0 ≤ pa) = true := decide_eq_true d4
                        obtain ⟨_, _, _, _, _, hcc, _⟩ := Kd.H_raw HH.out (Int.natCast_nonneg q) (show (q : Int) < ((q + 1 : Nat) : Int) from Int.ofNat_lt.2 (Nat.lt_succ_self q))
                        have hv : w10.cell? ⟨g9, q * 3 + 2, none⟩ = some (.slice A2 ns.length c2') := hcc 2 _ rfl
                        clear hcc hpa d4
                        go_wp2_with (first | ((with_reducible refine gate_dst (N := 152) rfl ?_); refine Kd.R_lit (Kd.int .i64) _ 3 ?hg (N := 152) ?hd (xs := ([a] : List Int)) (inner := [.int .i64 a]) (ok := fun _ => True) (okp := fun _ => True) ?hr ?hp (fun _ hk => hk) trivial HBW.out HBW.out.size (by simp) ?_; (case hd => rfl); (case hg => rfl); (case hr => first | (go_simp; done) | (go_simp; rfl)); (case hp => exact (Reps.one (show Kd.M (Kd.int .i64) _ _ _ a [.int .i64 a] from rfl) (Reps.none _ _))); intro v112 w3 ho1 hb1 hg1 _; have hbn := below_none hg1; obtain ⟨A3, c3', e3'⟩ := Kd.R_slice ho1; subst e3'; have HL1 := Aside0.mk (Kd.R_reads' ho1).2.2; replace HBW := Aside0.mk (below_step HBW.out hbn); replace HH := Aside0.mk (Kd.H_widen (Kd.H_below HH.out hbn)); replace HV2 := Aside0.mk (Kd.R_mono (Kd.R_below HV2.out hbn) (fun k hk => Or.inl hk) : Kd.R (Kd.int .i64) 3 w3 w.heap.size (fun k => ok2 k ∨ True ∧ w3.heap.size ≤ k) (.slice A2 ns.length c2') ns); replace HO9 := Aside0.mk (Kd.R_below HO9.out hbn); replace HN := Aside0.mk (Kd.R_below HN.out hbn); clear ho1 hb1 hg1 hbn hv) | (at_builtin; refine Kd.R_append_rows (Kd.int .i64) (w0 := w) w.heap.size rfl (.tmp 150) (.tmp 152) 27 3 (.int .i64 0) 8 rfl Try.underlying27 (by kernel_rfl) rfl (by decide) (by omega) _ ns [a] _ _ _ (fun k => ok2 k ∨ True ∧ w3.heap.size ≤ k) (fun _ => False) rfl rfl HV2.out HL1.out (fun _ _ h => h) (fun _ h => h.elim) (fun _ hk => Or.inr ⟨trivial, hk⟩) HBW.out HBW.out.size (by have := HNL.out; simp; omega) ?_; intro v5 w4 ho hb hg hat; replace HO9 := Aside0.mk (Kd.R_over' HO9.out (Kd.R_typed HV2.out) (by decide) hg); replace HN := Aside0.mk (Kd.R_after HN.out hg hat); replace HH := Aside0.mk (Kd.H_grown HH.out hg (fun k hk => HV2.out.1 k hk)); replace HBW := Aside0.mk hb; replace HV2 := Aside0.mk ho; clear ho hb hg hat; obtain ⟨A5, c5, e5⟩ := Kd.R_slice HV2.out; subst e5) | ((with_reducible refine gate_store (t := 27) (p := 155) rfl ?_); refine h_store (o' := q * 3 + 2) k35 w.heap.size rfl rfl 27 _ _ rfl 35 (q : Int) 2 _ (.slice A5 (ns.length + 1) c5) [.slice A5 (ns.length + 1) c5] _ (fun _ => True) _ ?had_ ?hof_ ?hx_ rfl (show (Try.prog.info? 27).map (·.size) = some 1 from by kernel_rfl) (fun q9 hq9 => (List.mem_singleton.1 hq9) ▸ rfl) HH.out (Int.natCast_nonneg q) (show (q : Int) < ((q + 1 : Nat) : Int) from Int.ofNat_lt.2 (Nat.lt_succ_self q)) (show 2 + 1 ≤ 3 by decide) HBW.out ?_; (case had_ => first | rfl | (go_simp; done) | (go_simp; rfl)); (case hof_ => first | rfl | omega); (case hx_ => first | rfl | (go_simp; done) | (go_simp; rfl)); intro w_ h1_ h2_ h3_; replace HO9 := Aside0.mk (Kd.R_over' HO9.out (h_typed HH.out) (by decide) (by have h9 := h3_; simpa [Value.ownBlock] using h9)); replace HV2 := Aside0.mk (Kd.R_over' HV2.out (h_typed HH.out) (by decide) (by have h9 := h3_; simpa [Value.ownBlock] using h9)); replace HN := Aside0.mk (Kd.R_over' HN.out (h_typed HH.out) (by decide) (by have h9 := h3_; simpa [Value.ownBlock] using h9)); replace HBW := Aside0.mk h2_; replace HH := Aside0.mk h1_; clear h1_ h2_ h3_))
                        go_roundw
                        case rel => exact ⟨j + 1, .slice A5 (ns ++ [a]).length c5, ns ++ [a], _, by have := HWJ.out; first | rfl | (simp; done), by omega, HNS2, HBW, HO9, ⟨by rw [show (ns ++ [a]).length = ns.length + 1 from by simp]; refine Eq.mp ?_ HH.out; kernel_rfl⟩, HV2, HN⟩
                        case measure => simp [intOf]; omega
                      · have HNS2 : Aside0 (ns = (nx.take (j + 1)).filter fun a => decide (0 ≤ placeI l0 a)) := ⟨by rw [HNT.out, HNS.out, ← hpa, decide_eq_false d4]; simp⟩
                        have d4b : decide (pa ≥ 0) = false := decide_eq_false d4
                        have d4c : decide (0 ≤ pa) = false := decide_eq_false d4
                        clear hpa d4
                        go_wp2
                        go_roundw
                        case rel => exact ⟨j + 1, .slice A2 ns.length c2', ns, ok2, by have := HWJ.out; first | rfl | (simp; done), by omega, HNS2, HBW, HO9, HH, HV2, HN⟩
                        case measure => simp [intOf]; omega
                    · have d3b : decide ((j : Int) < (nx.length : Int)) = false := decide_eq_false (by omega)
                      have d3c : decide (j < nx.length) = false := decide_eq_false (by omega)
                      have HNS2 : Aside0 (ns = nxR l0 M i) := ⟨by rw [HN0.out, ← HXN.out, HNS.out, List.take_of_length_le (by omega)]⟩
                      clear d3 hj
                      go_wp2_with fail
                      go_roundw
                      case rel =>
                        have h9 := Kd.H_back HH.out (x' := ⟨(o1.getD q z35).f0, x.f0, ns⟩) (okp := ok2) (blk_M HV2.out) (fun _ hk => hk)
                        rw [Int.toNat_natCast] at h9
                        exact ⟨i + 1, by have := HW.out; first | rfl | (simp; done), by omega, HBW, HO9, ⟨by rw [outR_step, ← HO1.out, HQ.out, show q + 1 - 1 = q from rfl, ← HX.out, ← HNS2.out]; exact h9⟩⟩
                      case measure => simp [intOf]; omega
                · cases hbn9 : M.getD (i + 1) false with
                  | true =>
                    have HN0 : Aside0 (nxR l0 M i = (nextL x).filter (fun a => decide (0 ≤ placeI l0 a))) := ⟨by rw [HX.out]; unfold nxR; rw [if_pos (Or.inr hbn9)]⟩
                    have HBN : Aside0 (rdOf false M ((i + 1 : Nat) : Int) = true) := ⟨by unfold rdOf; rw [Int.toNat_natCast]; exact hbn9⟩
                    have HC2 : Aside0 (i + 1 < l0.length) := ⟨by omega⟩
                    have d1b : (((i : Int) + 1) == (l0.length : Int)) = false := by rw [beq_eq_false_iff_ne]; omega
                    have d1c : decide (((i : Int) + 1) = (l0.length : Int)) = false := decide_eq_false (by omega)
                    have p7 : (0 ≤ (i : Int) + 1) = True := eq_true (by omega)
                    have p8 : ((i : Int) + 1 < (l0.length : Int)) = True := eq_true (by omega)
                    have p9 : ((i : Int) + 1).toNat = i + 1 := by omega
                    clear d1 hbn9
                    go_wp2_with (first | ((with_reducible refine gate_store (t := 3) (p := 116) rfl ?_); refine h_store (o' := q * 3 + 1) k35 w.heap.size rfl rfl 3 _ _ rfl 35 (q : Int) 1 _ (.int .i64 x.f0) [.int .i64 x.f0] _ (fun _ => True) oki ?had_ ?hof_ ?hx_ rfl (show (Try.prog.info? 3).map (·.size) = some 1 from by kernel_rfl) (fun q9 hq9 => (List.mem_singleton.1 hq9) ▸ rfl) HH.out (Int.natCast_nonneg q) (show (q : Int) < ((q + 1 : Nat) : Int) from Int.ofNat_lt.2 (Nat.lt_succ_self q)) (show 1 + 1 ≤ 3 by decide) HBW.out ?_; (case had_ => first | rfl | (go_simp; done) | (go_simp; rfl)); (case hof_ => first | rfl | omega); (case hx_ => first | rfl | (go_simp; done) | (go_simp; rfl)); intro w_ h1_ h2_ h3_; replace HO9 := Aside0.mk (Kd.R_over' HO9.out (h_typed HH.out) (by decide) (by have h9 := h3_; simpa [Value.ownBlock] using h9)); replace HBW := Aside0.mk h2_; replace HH := Aside0.mk h1_; clear h1_ h2_ h3_; (try clear hx0 hx1 hx2 hx3); obtain ⟨ad', e1, hx0, hx1, hx2, hx3⟩ := at_I HR.out HBW.out HI.out HX.out; cases e1) | ((with_reducible refine gate_store (t := 27) (p := 119) rfl ?_); refine h_store (o' := q * 3 + 2) k35 w.heap.size rfl rfl 27 _ _ rfl 35 (q : Int) 2 _ (.slice none 0 0) [.slice none 0 0] _ (fun _ => True) oki ?had_ ?hof_ ?hx_ rfl (show (Try.prog.info? 27).map (·.size) = some 1 from by kernel_rfl) (fun q9 hq9 => (List.mem_singleton.1 hq9) ▸ rfl) HH.out (Int.natCast_nonneg q) (show (q : Int) < ((q + 1 : Nat) : Int) from Int.ofNat_lt.2 (Nat.lt_succ_self q)) (show 2 + 1 ≤ 3 by decide) HBW.out ?_; (case had_ => first | rfl | (go_simp; done) | (go_simp; rfl)); (case hof_ => first | rfl | omega); (case hx_ => first | rfl | (go_simp; done) | (go_simp; rfl)); intro w_ h1_ h2_ h3_; replace HO9 := Aside0.mk (Kd.R_over' HO9.out (h_typed HH.out) (by decide) (by have h9 := h3_; simpa [Value.ownBlock] using h9)); replace HBW := Aside0.mk h2_; replace HH := Aside0.mk h1_; clear h1_ h2_ h3_; (try clear hx0 hx1 hx2 hx3); obtain ⟨ad', e1, hx0, hx1, hx2, hx3⟩ := at_I HR.out HBW.out HI.out HX.out; cases e1; obtain ⟨am, em, hbn⟩ := Kd.at_bool (Kd.R_reads' HO9.out).2.2 ((i + 1 : Nat) : Int) (by omega) (by have := HML.out; have := HC2.out; omega); cases em; rw [HBN.out, Int.toNat_natCast, add0] at hbn))
                    refine (provisoref05_Next.calls k x.f0 x.f1 x.f2 x.f3 (nextL x) _ HNX.out.1).mono ?_
                    rintro e w9 ⟨v136, rfl, hR9, hb⟩
                    obtain ⟨A96, c96, rfl⟩ := Kd.R_slice hR9
                    have HNP := Aside0.mk HNX.out.2.2
                    obtain ⟨nx, hnx⟩ : ∃ nx, nx = nextL x := ⟨_, rfl⟩
                    have hnl : nx.length ≤ 2 := by rw [hnx]; exact nextL_le2 x
                    have HXN := Aside0.mk hnx
                    rw [← hnx] at hR9 HNP ⊢
                    have HN : Aside0 (Kd.R (Kd.int .i64) 3 w9 w.heap.size (fun j => True ∧ some j ≠ (Value.slice none 0 0).ownBlock) (.slice A96 nx.length c96) nx) := ⟨Kd.R_apart_nil (Kd.R_lower hR9 HBW.out.size)⟩
                    replace HH := Aside0.mk (Kd.H_below HH.out hb)
                    replace HO9 := Aside0.mk (Kd.R_below HO9.out hb)
                    replace HBW := Aside0.mk (below_step HBW.out hb)
                    have HV2 : Aside0 (Kd.R (Kd.int .i64) 3 w9 w.heap.size oki (.slice none 0 0) []) := ⟨Kd.R_nil _ _ _ _ _⟩
                    clear hR9 hb hnx
                    go_wp2_with fail
                    go_loopw [138] (fun v138 wr => ∃ (j : Nat) (v2 : Value) (ns : List Int) (ok2 : Nat → Prop), v138 = .int .i64 (j : Int) ∧ j ≤ nx.length ∧ Aside0 (ns = (nx.take j).filter fun a => decide (0 ≤ placeI l0 a)) ∧ Aside0 (Below w.heap.size w wr) ∧ Aside0 (Kd.R Kd.bool 4 wr w.heap.size (fun _ => True) (.slice (some ⟨g4, 0, none⟩) l0.length c4) M) ∧ Aside0 (Kd.H k35 35 wr w.heap.size (fun _ => True) (.slice (some ⟨g9, 0, none⟩) (q + 1) cap9) o1 (q : Int) ok2 [.int .i64 (o1.getD q z35).f0, .int .i64 x.f0, v2]) ∧ Aside0 (Kd.R (Kd.int .i64) 3 wr w.heap.size ok2 v2 ns) ∧ Aside0 (Kd.R (Kd.int .i64) 3 wr w.heap.size (fun j => True ∧ some j ≠ v2.ownBlock) (.slice A96 nx.length c96) nx)) (fun v138 _ => ((nx.length : Int) - intOf v138).toNat)
                    case atStart => exact ⟨0, .slice none 0 0, [], oki, rfl, Nat.zero_le _, ⟨by simp⟩, HBW, HO9, ⟨HH.out⟩, HV2, HN⟩
                    case round =>
                      clear HBW HO9 HH HV2 HN
                      obtain ⟨j, v2, ns, ok2, rfl, hj, HNS, HBW, HO9, HH, HV2, HN⟩ := hrel
                      obtain ⟨A2, c2', e2'⟩ := Kd.R_slice HV2.out
                      subst e2'
                      by_cases d3 : j < nx.length
                      · have d3b : decide ((j : Int) < (nx.length : Int)) = true := decide_eq_true (by omega)
                        obtain ⟨ad2, em2, hc⟩ := Kd.at_int (Kd.R_reads' HN.out).2.2 (j : Int) (by omega) (by omega)
                        cases em2
                        simp only [Int.toNat_natCast] at hc
                        have q5 : (0 ≤ (j : Int)) = True := eq_true (by omega)
                        have q6 : ((j : Int) < (nx.length : Int)) = True := eq_true (by omega)
                        have HKA := Aside0.mk (HNP.out _ (rd_memI d3))
                        have HNT := Aside0.mk (filter_take (fun a => decide (0 ≤ placeI l0 a)) d3)
                        have HWJ := Aside0.mk (wrap_next (show j < 4398046511104 by omega))
                        generalize rd nx (j : Int) = a at hc HKA HNT
                        go_wp2_with fail
                        clear hc
                        refine (provisoref05_Place.calls k _ _ l0 a (placeI l0 a) _ (Kd.C_below HR.out HBW.out) HCC.out HKA.out).mono ?_
                        rintro e w10 ⟨rfl, hb⟩
                        replace HO9 := Aside0.mk (Kd.R_below HO9.out hb)
                        replace HH := Aside0.mk (Kd.H_below HH.out hb)
                        replace HV2 := Aside0.mk (Kd.R_below HV2.out hb)
                        replace HN := Aside0.mk (Kd.R_below HN.out hb)
                        replace HBW := Aside0.mk (below_step HBW.out hb)
                        clear hb
                        obtain ⟨pa, hpa⟩ : ∃ pa, pa = placeI l0 a := ⟨_, rfl⟩
                        rw [← hpa]
                        by_cases d4 : 0 ≤ pa
                        · have HNS2 : Aside0 (ns ++ [a] = (nx.take (j + 1)).filter fun a => decide (0 ≤ placeI l0 a)) := ⟨by rw [HNT.out, HNS.out, ← hpa, decide_eq_true d4]; simp⟩
                          have HNL : Aside0 (ns.length ≤ 2) := ⟨by rw [HNS.out]; exact Nat.le_trans (List.length_filter_le _ _) (by rw [List.length_take]; omega)⟩
                          have d4b : decide (pa ≥ 0) = true := decide_eq_true d4
                          have d4c : decide (0 ≤ pa) = true := decide_eq_true d4
                          obtain ⟨_, _, _, _, _, hcc, _⟩ := Kd.H_raw HH.out (Int.natCast_nonneg q) (show (q : Int) < ((q + 1 : Nat) : Int) from Int.ofNat_lt.2 (Nat.lt_succ_self q))
                          have hv : w10.cell? ⟨g9, q * 3 + 2, none⟩ = some (.slice A2 ns.length c2') := hcc 2 _ rfl
                          clear hcc hpa d4
                          go_wp2_with (first | ((with_reducible refine gate_dst (N := 152) rfl ?_); refine Kd.R_lit (Kd.int .i64) _ 3 ?hg (N := 152) ?hd (xs := ([a] : List Int)) (inner := [.int .i64 a]) (ok := fun _ => True) (okp := fun _ => True) ?hr ?hp (fun _ hk => hk) trivial HBW.out HBW.out.size (by simp) ?_; (case hd => rfl); (case hg => rfl); (case hr => first | (go_simp; done) | (go_simp; rfl)); (case hp => exact (Reps.one (show Kd.M (Kd.int .i64) _ _ _ a [.int .i64 a] from rfl) (Reps.none _ _))); intro v112 w3 ho1 hb1 hg1 _; have hbn := below_none hg1; obtain ⟨A3, c3', e3'⟩ := Kd.R_slice ho1; subst e3'; have HL1 := Aside0.mk (Kd.R_reads' ho1).2.2; replace HBW := Aside0.mk (below_step HBW.out hbn); replace HH := Aside0.mk (Kd.H_widen (Kd.H_below HH.out hbn)); replace HV2 := Aside0.mk (Kd.R_mono (Kd.R_below HV2.out hbn) (fun k hk => Or.inl hk) : Kd.R (Kd.int .i64) 3 w3 w.heap.size (fun k => ok2 k ∨ True ∧ w3.heap.size ≤ k) (.slice A2 ns.length c2') ns); replace HO9 := Aside0.mk (Kd.R_below HO9.out hbn); replace HN := Aside0.mk (Kd.R_below HN.out hbn); clear ho1 hb1 hg1 hbn hv) | (at_builtin; refine Kd.R_append_rows (Kd.int .i64) (w0 := w) w.heap.size rfl (.tmp 150) (.tmp 152) 27 3 (.int .i64 0) 8 rfl Try.underlying27 (by kernel_rfl) rfl (by decide) (by omega) _ ns [a] _ _ _ (fun k => ok2 k ∨ True ∧ w3.heap.size ≤ k) (fun _ => False) rfl rfl HV2.out HL1.out (fun _ _ h => h) (fun _ h => h.elim) (fun _ hk => Or.inr ⟨trivial, hk⟩) HBW.out HBW.out.size (by have := HNL.out; simp; omega) ?_; intro v5 w4 ho hb hg hat; replace HO9 := Aside0.mk (Kd.R_over' HO9.out (Kd.R_typed HV2.out) (by decide) hg); replace HN := Aside0.mk (Kd.R_after HN.out hg hat); replace HH := Aside0.mk (Kd.H_grown HH.out hg (fun k hk => HV2.out.1 k hk)); replace HBW := Aside0.mk hb; replace HV2 := Aside0.mk ho; clear ho hb hg hat; obtain ⟨A5, c5, e5⟩ := Kd.R_slice HV2.out; subst e5) | ((with_reducible refine gate_store (t := 27) (p := 155) rfl ?_); refine h_store (o' := q * 3 + 2) k35 w.heap.size rfl rfl 27 _ _ rfl 35 (q : Int) 2 _ (.slice A5 (ns.length + 1) c5) [.slice A5 (ns.length + 1) c5] _ (fun _ => True) _ ?had_ ?hof_ ?hx_ rfl (show (Try.prog.info? 27).map (·.size) = some 1 from by kernel_rfl) (fun q9 hq9 => (List.mem_singleton.1 hq9) ▸ rfl) HH.out (Int.natCast_nonneg q) (show (q : Int) < ((q + 1 : Nat) : Int) from Int.ofNat_lt.2 (Nat.lt_succ_self q)) (show 2 + 1 ≤ 3 by decide) HBW.out ?_; (case had_ => first | rfl | (go_simp; done) | (go_simp; rfl)); (case hof_ => first | rfl | omega); (case hx_ => first | rfl | (go_simp; done) | (go_simp; rfl)); intro w_ h1_ h2_ h3_; replace HO9 := Aside0.mk (Kd.R_over' HO9.out (h_typed HH.out) (by decide) (by have h9 := h3_; simpa [Value.ownBlock] using h9)); replace HV2 := Aside0.mk (Kd.R_over' HV2.out (h_typed HH.out) (by decide) (by have h9 := h3_; simpa [Value.ownBlock] using h9)); replace HN := Aside0.mk (Kd.R_over' HN.out (h_typed HH.out) (by decide) (by have h9 := h3_; simpa [Value.ownBlock] using h9)); replace HBW := Aside0.mk h2_; replace HH := Aside0.mk h1_; clear h1_ h2_ h3_))
                          go_roundw
                          case rel => exact ⟨j + 1, .slice A5 (ns ++ [a]).length c5, ns ++ [a], _, by have := HWJ.out; first | rfl | (simp; done), by omega, HNS2, HBW, HO9, ⟨by rw [show (ns ++ [a]).length = ns.length + 1 from by simp]; refine Eq.mp ?_ HH.out; kernel_rfl⟩, HV2, HN⟩
                          case measure => simp [intOf]; omega
                        · have HNS2 : Aside0 (ns = (nx.take (j + 1)).filter fun a => decide (0 ≤ placeI l0 a)) := ⟨by rw [HNT.out, HNS.out, ← hpa, decide_eq_false d4]; simp⟩
                          have d4b : decide (pa ≥ 0) = false := decide_eq_false d4
                          have d4c : decide (0 ≤ pa) = false := decide_eq_false d4
                          clear hpa d4
                          go_wp2
                          go_roundw
                          case rel => exact ⟨j + 1, .slice A2 ns.length c2', ns, ok2, by have := HWJ.out; first | rfl | (simp; done), by omega, HNS2, HBW, HO9, HH, HV2, HN⟩
                          case measure => simp [intOf]; omega
                      · have d3b : decide ((j : Int) < (nx.length : Int)) = false := decide_eq_false (by omega)
                        have d3c : decide (j < nx.length) = false := decide_eq_false (by omega)
                        have HNS2 : Aside0 (ns = nxR l0 M i) := ⟨by rw [HN0.out, ← HXN.out, HNS.out, List.take_of_length_le (by omega)]⟩
                        clear d3 hj
                        go_wp2_with fail
                        go_roundw
                        case rel =>
                          have h9 := Kd.H_back HH.out (x' := ⟨(o1.getD q z35).f0, x.f0, ns⟩) (okp := ok2) (blk_M HV2.out) (fun _ hk => hk)
                          rw [Int.toNat_natCast] at h9
                          exact ⟨i + 1, by have := HW.out; first | rfl | (simp; done), by omega, HBW, HO9, ⟨by rw [outR_step, ← HO1.out, HQ.out, show q + 1 - 1 = q from rfl, ← HX.out, ← HNS2.out]; exact h9⟩⟩
                        case measure => simp [intOf]; omega
                  | false =>
                    have HN0 : Aside0 (nxR l0 M i = []) := ⟨by unfold nxR; rw [if_neg (by rintro (h9 | h9); exact d1 h9; rw [h9] at hbn9; cases hbn9)]⟩
                    have HBN : Aside0 (rdOf false M ((i + 1 : Nat) : Int) = false) := ⟨by unfold rdOf; rw [Int.toNat_natCast]; exact hbn9⟩
                    have d1b : (((i : Int) + 1) == (l0.length : Int)) = false := by rw [beq_eq_false_iff_ne]; omega
                    have d1c : decide (((i : Int) + 1) = (l0.length : Int)) = false := decide_eq_false (by omega)
                    have p7 : (0 ≤ (i : Int) + 1) = True := eq_true (by omega)
                    have p8 : ((i : Int) + 1 < (l0.length : Int)) = True := eq_true (by omega)
                    have p9 : ((i : Int) + 1).toNat = i + 1 := by omega
                    have HD1 := Aside0.mk d1
                    clear d1 hbn9
                    go_wp2_with (first | ((with_reducible refine gate_store (t := 3) (p := 116) rfl ?_); refine h_store (o' := q * 3 + 1) k35 w.heap.size rfl rfl 3 _ _ rfl 35 (q : Int) 1 _ (.int .i64 x.f0) [.int .i64 x.f0] _ (fun _ => True) oki ?had_ ?hof_ ?hx_ rfl (show (Try.prog.info? 3).map (·.size) = some 1 from by kernel_rfl) (fun q9 hq9 => (List.mem_singleton.1 hq9) ▸ rfl) HH.out (Int.natCast_nonneg q) (show (q : Int) < ((q + 1 : Nat) : Int) from Int.ofNat_lt.2 (Nat.lt_succ_self q)) (show 1 + 1 ≤ 3 by decide) HBW.out ?_; (case had_ => first | rfl | (go_simp; done) | (go_simp; rfl)); (case hof_ => first | rfl | omega); (case hx_ => first | rfl | (go_simp; done) | (go_simp; rfl)); intro w_ h1_ h2_ h3_; replace HO9 := Aside0.mk (Kd.R_over' HO9.out (h_typed HH.out) (by decide) (by have h9 := h3_; simpa [Value.ownBlock] using h9)); replace HBW := Aside0.mk h2_; replace HH := Aside0.mk h1_; clear h1_ h2_ h3_; (try clear hx0 hx1 hx2 hx3); obtain ⟨ad', e1, hx0, hx1, hx2, hx3⟩ := at_I HR.out HBW.out HI.out HX.out; cases e1) | ((with_reducible refine gate_store (t := 27) (p := 119) rfl ?_); refine h_store (o' := q * 3 + 2) k35 w.heap.size rfl rfl 27 _ _ rfl 35 (q : Int) 2 _ (.slice none 0 0) [.slice none 0 0] _ (fun _ => True) oki ?had_ ?hof_ ?hx_ rfl (show (Try.prog.info? 27).map (·.size) = some 1 from by kernel_rfl) (fun q9 hq9 => (List.mem_singleton.1 hq9) ▸ rfl) HH.out (Int.natCast_nonneg q) (show (q : Int) < ((q + 1 : Nat) : Int) from Int.ofNat_lt.2 (Nat.lt_succ_self q)) (show 2 + 1 ≤ 3 by decide) HBW.out ?_; (case had_ => first | rfl | (go_simp; done) | (go_simp; rfl)); (case hof_ => first | rfl | omega); (case hx_ => first | rfl | (go_simp; done) | (go_simp; rfl)); intro w_ h1_ h2_ h3_; replace HO9 := Aside0.mk (Kd.R_over' HO9.out (h_typed HH.out) (by decide) (by have h9 := h3_; simpa [Value.ownBlock] using h9)); replace HBW := Aside0.mk h2_; replace HH := Aside0.mk h1_; clear h1_ h2_ h3_; (try clear hx0 hx1 hx2 hx3); obtain ⟨ad', e1, hx0, hx1, hx2, hx3⟩ := at_I HR.out HBW.out HI.out HX.out; cases e1; obtain ⟨am, em, hbn⟩ := Kd.at_bool (Kd.R_reads' HO9.out).2.2 ((i + 1 : Nat) : Int) (by omega) (by have := HML.out; have := HD1.out; omega); cases em; rw [HBN.out, Int.toNat_natCast, add0] at hbn))
                    go_roundw
                    case rel =>
                      have h9 := Kd.H_back HH.out (x' := ⟨(o1.getD q z35).f0, x.f0, []⟩) (okp := fun _ => False) (blk_M (Kd.R_nil _ _ _ _ _)) (fun _ hk => hk.elim)
                      rw [Int.toNat_natCast] at h9
                      exact ⟨i + 1, by have := HW.out; first | rfl | (simp; done), by omega, HBW, HO9, ⟨by rw [outR_step, ← HO1.out, HQ.out, show q + 1 - 1 = q from rfl, ← HX.out, HN0.out]; exact h9⟩⟩
                    case measure => simp [intOf]; omega
            · have c1b : decide ((i : Int) < (l0.length : Int)) = false := decide_eq_false (by omega)
              have c1c : decide (i < l0.length) = false := decide_eq_false (by omega)
              have h10 := HS9.out
              rw [show i = l0.length by omega] at h10
              have HS10 := Aside0.mk h10
              clear h10
              clear c1 hi HS9
              go_wp2
              go_ret
              exact ⟨_, rfl, by rw [HV.out]; exact HS10.out, HBW.out⟩

end Go.Proofs.Ytcffniaieegbgaa.P

end

section
namespace Go.Proofs.Ytcffniaieegbgaa.P
open Go.RowKit Go.Proofs.YtcffniaieegbgaaW.PrintWords Go.Proofs.YtcffniaieegbgaaW.PrintLast Go.Proofs.YtcffniaieegbgaaW.PrintMore
attribute [local go_sem] max2_int min2_int max_two min_two max_three min_three max_four min_four
set_option linter.unusedVariables false
set_option linter.unusedSimpArgs false
section
variable {P : Program}
theorem run_append2 (w : World) (base : Nat) (t ty e : TypeId) (i : TypeInfo) (z : Value) (ht : P.underlying t = some (.slice e)) (hi : P.info? e = some i) (hz : i.zero = some z) (hzs : z.cells.size = i.size) (hsz : 0 < i.size)
    (v : Value) (n : Nat) (xs : List Value) (hown : w.ownsRow base e i.size v n xs) (a : Addr) (c : Nat) (news : List Value) (hl : news.length = 1 * i.size) (hnews : ∀ j u, news[j]? = some u → w.cell? (a.add j) = some u) (h1 : ∀ u ∈ news, u.oneCell' = true)
    (h63 : n + 1 ≤ maxLen) (hb1 : i.bytes ≤ 140737488355328) (hfit : Builtin.nextslicecap (n + 1) n * i.bytes ≤ 281474976710656) (hbase : base ≤ w.heap.size) :
    ∃ v' w', (Builtin.append_ #[t, t] ty #[v, .slice (some a) 1 c]).run P w = .ok v' w' ∧ w'.ownsRow base e i.size v' (n + 1) (xs ++ news) ∧ w.grownBy w' v.ownBlock ∧ (v'.ownBlock = v.ownBlock ∨ (v'.ownBlock = some w.heap.size ∧ w.grownBy w' none)) := by
  rcases hown.2 with ⟨rfl, rfl⟩ | ⟨g, cap, cur, rfl, hbg, hg, hnc, hcm, hcs, htake⟩
  · obtain ⟨v', w', h2, h3, h4, _, h5⟩ := run_append_own_at (P := P) w base t ty e i z i.size i.bytes ht hi hz rfl rfl hzs hsz _ 0 xs hown a 1 c news hl hnews h1 (by omega) (by omega) hbase
    exact ⟨v', w', h2, h3, h4, h5.imp id (fun h => ⟨h, h4⟩)⟩
  · have hsmall : n + 1 ≤ 9223372036854775807 := by simp only [maxLen] at h63; omega
    have hlen : (xs ++ news).length = (n + 1) * i.size := by rw [List.length_append, hown.1, hl, Nat.add_mul]
    by_cases hroom : n + 1 ≤ cap
    · have hfit2 : n * i.size + news.length ≤ cur.size := by rw [hl, hcs, ← Nat.add_mul]; exact Nat.mul_le_mul_right _ hroom
      have hr := run_append_room (P := P) w t ty e i ht hi g n cap cur hg a 1 c news hl hnews h1 hroom hfit2
      refine ⟨_, _, hr, ⟨hlen, .inr ⟨g, cap, _, rfl, hbg, setRow_heap w g cur _ e _ hg, hroom, hcm, ?_, ?_⟩⟩, ⟨rfl, rfl, rfl, by simp, fun k _ hk => setRow_other w g k _ (fun e => hk (by simp [Value.ownBlock, e]))⟩, Or.inl rfl⟩
      · simp only [List.size_toArray, List.length_append, List.length_take, List.length_drop, Array.length_toList]
        omega
      · rw [htake, ← hlen]
        exact List.take_left
    · have hcap : cap = n := by omega
      subst hcap
      have holds : ∀ j u, xs[j]? = some u → w.cell? ((⟨g, 0, none⟩ : Addr).add j) = some u := hown.cells (g := g) rfl
      have hr := run_append_grow (P := P) w t ty e i z ht hi hz ⟨g, 0, none⟩ cap cap xs hown.1 holds a 1 c news hl hnews (by omega) (by omega) hfit
      have hge := grownCap_ge w (cap + 1) cap e
      have hcm2 : grownCap w (cap + 1) cap e ≤ maxLen := grownCap_le_maxLen w (cap + 1) cap e h63
      refine ⟨_, _, hr, ⟨hlen, .inr ⟨w.heap.size, _, _, rfl, hbase, heap_alloc_new w.drew _, hge, hcm2, ?_, ?_⟩⟩, ⟨rfl, rfl, rfl, by simp, fun k hk _ => heap_alloc_old w.drew _ hk⟩, Or.inr ⟨rfl, ⟨rfl, rfl, rfl, by simp, fun k hk _ => heap_alloc_old w.drew _ hk⟩⟩⟩
      · simp only [Array.size_append, List.size_toArray, size_zeroCells, hzs, hown.1, hl, ← Nat.add_mul]
        congr 1
        omega
      · simp only [Array.toList_append, List.append_assoc]
        rw [← List.append_assoc, ← hlen]
        exact List.take_left
section
variable {ops : Array Oper} {rest : List Oper} {o : Oper} {a : Act} {Q : Exit → Act → World → Prop}
theorem R_append2 {α : Type} (d : Kd α) {W : World} (base : Nat) (hgd : o.guard = none) (s x : Operand) (t e : TypeId) (z : Value) (bytes : Nat)
    (ho : o.op = .call { callee := .builtin .append, args := #[s, x], argTypes := #[t, t] })
    (ht : P.underlying t = some (.slice e)) (hinfo : (P.info? e).map (fun i => (i.zero, i.size, i.bytes)) = some (some z, d.sz, bytes)) (hz : z.cells.size = d.sz) (hs0 : 0 < d.sz) (hb1 : bytes ≤ 140737488355328)
    (v : Value) (xs : List α) (p : α) (cs : List Value) (ok okp : Nat → Prop) (hs : a.eval s = v) (hx : a.eval x = .slice (some ⟨W.heap.size, 0, none⟩) 1 1) (hp : d.M W base okp p cs) (hokp : ∀ k, okp k → ok k ∧ some k ≠ v.ownBlock) (hfresh : ∀ k, W.heap.size ≤ k → ok k)
    (HO : d.R e W base ok v xs) (hbase : base ≤ W.heap.size) (hl : xs.length + 1 ≤ maxLen) (hfit : Builtin.nextslicecap (xs.length + 1) xs.length * bytes ≤ 281474976710656)
    (h : ∀ v1 w1, d.R e w1 base ok v1 (xs ++ [p]) → Below base W w1 → W.grownBy w1 v.ownBlock → (v1.ownBlock = v.ownBlock ∨ ((∃ b, v1.ownBlock = some b ∧ W.heap.size ≤ b) ∧ W.grownBy w1 none)) → wpList P ops Q rest (a.put o.dst v1) w1) :
    wpList P ops Q (o :: rest) a (W.alloc (.cells cs.toArray e)) := by
  obtain ⟨h0, inner, hown, hr⟩ := HO
  obtain ⟨i0, hi, hzz⟩ := Option.map_eq_some_iff.1 hinfo
  simp only [Prod.mk.injEq] at hzz
  obtain ⟨hz0, hz1, hz2⟩ := hzz
  have hcl : cs.length = d.sz := d.K_len (d.K_of_M hp)
  rw [← hz1] at hown hz hs0 hcl
  refine wpList_plain hgd fun K hK => ?_
  obtain ⟨v1, w1, hrun, hown1, hg, hat⟩ := run_append2 (P := P) (W.alloc (.cells cs.toArray e)) base t o.type e i0 z ht hi hz0 hz hs0 v xs.length inner (hown.alloc _) ⟨W.heap.size, 0, none⟩ 1 cs (by rw [hcl]; simp)
    (by simpa using World.news_of_block (cs := cs.toArray) (t := e) (fr := (0, 0)) (heap_alloc_new W (.cells cs.toArray e))) (d.K_one (d.K_of_M hp)) hl (by rw [hz2]; exact hb1) (by rw [hz2]; exact hfit) (by simp; omega)
  unfold Oper.wp execOp
  simp only [ho, resolve, invoke, builtin, Sem.run_bind, Sem.run_pure, Result.andThen_ok, List.map_toArray, List.map_cons, List.map_nil, hs, hx, hrun]
  have hg2 : W.grownBy w1 v.ownBlock := World.grownBy.trans (World.grownBy_alloc W _ _) hg
  have hat2 : v1.ownBlock = v.ownBlock ∨ ((∃ b, v1.ownBlock = some b ∧ W.heap.size ≤ b) ∧ W.grownBy w1 none) := by
    rcases hat with hat | hat
    · exact .inl hat
    · exact .inr ⟨⟨_, hat.1, by simp⟩, World.grownBy.trans (World.grownBy_alloc W _ _) hat.2⟩
  rw [hz1] at hown1 hown
  exact hK _ _ (h v1 w1 (Kd.R_appended h0 hr hp hokp hfresh hown1 hg2 (hat2.imp id (fun h => h.1))) (((Below.refl base W).alloc hbase _).grown hg (by simp; omega) (own_base hown)) hg2 hat2)
end
end
end Go.Proofs.Ytcffniaieegbgaa.P

end

section
namespace Go.Proofs.Ytcffniaieegbgaa.P
open Go.RowKit Go.Proofs.YtcffniaieegbgaaW.PrintWords Go.Proofs.YtcffniaieegbgaaW.PrintLast Go.Proofs.YtcffniaieegbgaaW.PrintMore
attribute [local go_sem] max2_int min2_int max_two min_two max_three min_three max_four min_four
set_option linter.unusedVariables false
set_option linter.unusedSimpArgs false
structure Hd where
  A : Option Addr
  n : Nat
  c : Nat
def Hd.v (h : Hd) : Value := .slice h.A h.n h.c
def hz : Hd := ⟨none, 0, 0⟩
def khd : Kd Hd := Kd.scalar Hd.v (fun _ => rfl)
def mrk (i : Nat) : Int := ((i % 250 : Nat) : Int) + 1
def rowH (n : Nat) (hd : Nat → Hd) : List Hd := (List.range n).map hd
theorem rowH_len (n : Nat) (hd : Nat → Hd) : (rowH n hd).length = n := by simp [rowH]
theorem rowH_at {n : Nat} (hd : Nat → Hd) {i : Nat} (hi : i < n) : rdOf hz (rowH n hd) (i : Int) = hd i := by
  simp [rdOf, rowH, List.getD_eq_getElem?_getD, hi]
theorem rowH_succ (n : Nat) (hd : Nat → Hd) : rowH (n + 1) hd = rowH n hd ++ [hd n] := by simp [rowH, List.range_succ]
theorem rowH_same {n : Nat} {f f2 : Nat → Hd} (h : ∀ i, i < n → f2 i = f i) : rowH n f2 = rowH n f := List.map_congr_left fun i hi => h i (List.mem_range.1 hi)
structure Grp (k : IntKind) (te ts : TypeId) (W : World) (base : Nat) (G : Nat → Prop) (v : Value) (n : Nat) (hd : Nat → Hd) (i m : Nat) : Prop where
  row : khd.R ts W base G v (rowH n hd)
  own : ∀ j, j < n → ∃ xs, Kd.R (Kd.int k) te W base G (hd j).v xs ∧ ∀ t, t < xs.length → (j < i ∨ (j = i ∧ t < m)) → xs[t]? = some (mrk j)
  ne : ∀ j j', j < n → j' < n → j ≠ j' → ∀ b, (hd j).v.ownBlock = some b → (hd j').v.ownBlock ≠ some b
theorem Grp.kept {k : IntKind} {te ts : TypeId} {W W1 : World} {base : Nat} {G S : Nat → Prop} {v : Value} {n : Nat} {hd : Nat → Hd} {i m : Nat} (h : Grp k te ts W base G v n hd i m) (hk : Kept W W1 S) (hS : ∀ b, G b → ¬ S b) : Grp k te ts W1 base G v n hd i m :=
  ⟨Kd.R_kept h.row hk hS, fun j hj => by
    obtain ⟨xs, h1, h2⟩ := h.own j hj
    exact ⟨xs, Kd.R_kept h1 hk hS, h2⟩, h.ne⟩
theorem Grp.step {k : IntKind} {te ts : TypeId} {W W1 : World} {base : Nat} {G : Nat → Prop} {v : Value} {n : Nat} {hd : Nat → Hd} {i m : Nat} (h : Grp k te ts W base G v n hd i m) (hb : Below W.heap.size W W1) : Grp k te ts W1 base G v n hd i m := h.kept (S := fun _ => False) (Kept.of_below hb _) (fun _ _ q => q)
theorem Grp.mono {k : IntKind} {te ts : TypeId} {W : World} {base : Nat} {G G' : Nat → Prop} {v : Value} {n : Nat} {hd : Nat → Hd} {i m : Nat} (h : Grp k te ts W base G v n hd i m) (hG : ∀ b, G b → G' b) : Grp k te ts W base G' v n hd i m :=
  ⟨Kd.R_mono h.row hG, fun j hj => by
    obtain ⟨xs, h1, h2⟩ := h.own j hj
    exact ⟨xs, Kd.R_mono h1 hG, h2⟩, h.ne⟩
theorem Grp.next {k : IntKind} {te ts : TypeId} {W : World} {base : Nat} {G : Nat → Prop} {v : Value} {n : Nat} {hd : Nat → Hd} {i m : Nat} (h : Grp k te ts W base G v n hd i m) (hm : m = (hd i).n) : Grp k te ts W base G v n hd (i + 1) 0 :=
  ⟨h.row, fun j hj => by
    obtain ⟨xs, h1, h2⟩ := h.own j hj
    refine ⟨xs, h1, fun t ht q => h2 t ht ?_⟩
    have h3 := (Kd.R_reads' h1).1
    by_cases e : j = i
    · subst e; right; omega
    · left; omega, h.ne⟩
theorem own_form {k : IntKind} {te : TypeId} {W : World} {base : Nat} {G : Nat → Prop} {h : Hd} {xs : List Int} (hR : Kd.R (Kd.int k) te W base G h.v xs) : h.n = xs.length ∧ ∀ t : Nat, t < h.n → ∃ b, h.A = some ⟨b, 0, none⟩ ∧ G b ∧ base ≤ b ∧ b < W.heap.size ∧ (∃ cells, W.heap[b]? = some (.cells cells te (0, 0))) ∧ h.v.ownBlock = some b := by
  have h3 := (Kd.R_reads' hR).1
  refine ⟨h3, fun t ht => ?_⟩
  obtain ⟨g, cap, e, h4, h5, h6⟩ := Kd.R_form hR (by omega)
  unfold Hd.v at e
  injection e with e1 e2 e3
  have ho : h.v.ownBlock = some g := by unfold Hd.v; rw [e1]; rfl
  exact ⟨g, e1, hR.1 g ho, h4, h5, h6, ho⟩
theorem Grp.put {k : IntKind} {te ts : TypeId} {W : World} {base : Nat} {G : Nat → Prop} {v : Value} {n : Nat} {hd : Nat → Hd} {i m : Nat} (h : Grp k te ts W base G v n hd i m) (ht : te ≠ ts) (hi : i < n) (hm : m < (hd i).n) {b : Nat} (hA : (hd i).A = some ⟨b, 0, none⟩) : Grp k te ts (W.setCell ⟨b, m, none⟩ (.int k (mrk i))) base G v n hd i (m + 1) := by
  obtain ⟨xs, h1, h2⟩ := h.own i hi
  obtain ⟨f1, f2⟩ := own_form h1
  obtain ⟨b', e1, e2, e3, e4, ⟨cells, e5⟩, e6⟩ := f2 m hm
  rw [hA] at e1
  injection e1 with e1
  injection e1 with e1
  subst e1
  have hv : (hd i).v = .slice (some ⟨b, 0, none⟩) (hd i).n (hd i).c := by unfold Hd.v; rw [hA]
  refine ⟨Kd.R_set h.row e5 (fun q hq => by rw [show khd.E = [] from rfl] at hq; rw [List.mem_singleton.1 hq]; exact ht.symm) m _, fun j hj => ?_, h.ne⟩
  by_cases e : j = i
  · subst e
    rw [hv] at h1 ⊢
    have h4 := Kd.R_putn h1 (m : Int) (mrk j)
    rw [Int.toNat_natCast] at h4
    refine ⟨_, h4, fun t ht hq => ?_⟩
    rw [List.length_set] at ht
    rw [List.getElem?_set]
    by_cases e9 : m = t
    · subst e9
      rw [if_pos rfl, if_pos ht]
    · rw [if_neg e9]
      exact h2 t ht (by omega)
  · obtain ⟨ys, h4, h5⟩ := h.own j hj
    have hn := h.ne i j hi hj (fun q => e q.symm) b e6
    exact ⟨ys, Kd.R_mono (Kd.R_far (Kd.R_tight2 rfl h4) (p := ⟨b, m, none⟩) (fun k' hk' q => hn (by rw [← hk'.1, q])) _) (fun _ q => q.2), fun t ht q => h5 t ht (by omega)⟩
theorem mrk_range (i : Nat) : 1 ≤ mrk i ∧ mrk i ≤ 250 := by unfold mrk; omega
theorem mrk_is (i : Nat) (h : i < 9223372036854775807) : provisoplain_mark.f (i : Int) = some (mrk i) := by
  unfold provisoplain_mark.f mrk
  have h1 : Int.tmod (i : Int) 250 = ((i % 250 : Nat) : Int) := rfl
  rw [h1]
  congr 1
  unfold wrap64
  omega
theorem rep_of {xs : List Int} {i : Nat} (h : ∀ t, t < xs.length → xs[t]? = some (mrk i)) : xs = List.replicate xs.length (mrk i) := by
  refine List.ext_getElem? fun t => ?_
  by_cases ht : t < xs.length
  · rw [h t ht, List.getElem?_replicate, if_pos ht]
  · rw [List.getElem?_eq_none (by omega), List.getElem?_replicate, if_neg ht]
theorem Grp.marked {k : IntKind} {te ts : TypeId} {W : World} {base : Nat} {G : Nat → Prop} {v : Value} {n : Nat} {hd : Nat → Hd} {i m : Nat} (h : Grp k te ts W base G v n hd i m) {j : Nat} (hj : j < n) (hji : j < i) : Kd.R (Kd.int k) te W base G (hd j).v (List.replicate (hd j).n (mrk j)) := by
  obtain ⟨xs, h1, h2⟩ := h.own j hj
  have h3 := (Kd.R_reads' h1).1
  have h4 := rep_of (xs := xs) (i := j) (fun t ht => h2 t ht (.inl hji))
  rw [h3, ← h4]
  exact h1
structure ShAt (base : Nat) (F : Nat → Prop) (sh nB nI : Nat) (W : World) : Prop where
  now : ∃ (GB GI : Nat → Prop) (vB vI : Value) (hB hI : Nat → Hd), W.heap[sh]? = some (.cells #[vB, vI] 61 (0, 0)) ∧ Grp .u8 5 22 W base GB vB nB hB 0 0 ∧ Grp .i64 3 27 W base GI vI nI hI 0 0 ∧
    (∀ b, GB b → F b) ∧ (∀ b, GI b → F b) ∧ (∀ b, GB b → ¬ GI b) ∧ (∀ j, j < nB → (hB j).n + 80 ≤ 140737488351400) ∧ (∀ j, j < nI → ((hI j).n + 80) * 8 ≤ 140737488355328)
  fs : F sh
  lt : ∀ b, F b → base ≤ b ∧ b < W.heap.size
theorem Grp.bound {k : IntKind} {te ts : TypeId} {W : World} {base : Nat} {G : Nat → Prop} {v : Value} {n : Nat} {hd : Nat → Hd} {i m : Nat} (h : Grp k te ts W base G v n hd i m) : Grp k te ts W base (fun b => G b ∧ base ≤ b ∧ b < W.heap.size ∧ ∃ cs, W.heap[b]? = some (.cells cs te (0, 0)) ∨ W.heap[b]? = some (.cells cs ts (0, 0))) v n hd i m :=
  ⟨Kd.R_mono (Kd.R_bound h.row) (fun b q => by
    obtain ⟨q1, q2, q3, t, ht, cells, hc⟩ := q
    rw [show khd.E = [] from rfl] at ht
    obtain rfl := List.mem_singleton.1 ht
    exact ⟨q1, q2, q3, cells, .inr hc⟩), fun j hj => by
    obtain ⟨xs, h1, h2⟩ := h.own j hj
    refine ⟨xs, Kd.R_mono (Kd.R_bound h1) (fun b q => ?_), h2⟩
    obtain ⟨q1, q2, q3, t, ht, cells, hc⟩ := q
    rw [show (Kd.int k).E = [] from rfl] at ht
    obtain rfl := List.mem_singleton.1 ht
    exact ⟨q1, q2, q3, cells, .inl hc⟩, h.ne⟩
theorem ShAt.kept {base : Nat} {F S : Nat → Prop} {sh nB nI : Nat} {W W1 : World} (h : ShAt base F sh nB nI W) (hk : Kept W W1 S) (hS : ∀ b, F b → ¬ S b) : ShAt base F sh nB nI W1 := by
  obtain ⟨⟨GB, GI, vB, vI, hB, hI, h1, h2, h3, h4, h5, h6, h7, h8⟩, hf, hl⟩ := h
  exact ⟨⟨GB, GI, vB, vI, hB, hI, blk_kept h1 hk (hS _ hf), h2.kept hk (fun b q => hS b (h4 b q)), h3.kept hk (fun b q => hS b (h5 b q)), h4, h5, h6, h7, h8⟩, hf, fun b q => ⟨(hl b q).1, Nat.lt_of_lt_of_le (hl b q).2 hk.1⟩⟩
theorem ShAt.step {base : Nat} {F : Nat → Prop} {sh nB nI : Nat} {W W1 : World} (h : ShAt base F sh nB nI W) (hb : Below W.heap.size W W1) : ShAt base F sh nB nI W1 := h.kept (S := fun _ => False) (Kept.of_below hb _) (fun _ _ q => q)
theorem ShAt.new (W : World) : ShAt W.heap.size (fun b => b = W.heap.size) W.heap.size 0 0 (W.alloc (.cells #[.slice none 0 0, .slice none 0 0] 61 (0, 0))) :=
  ⟨⟨fun _ => False, fun _ => False, _, _, fun _ => hz, fun _ => hz, blk_new W _, ⟨Kd.R_nil _ _ _ _ _, fun j hj => absurd hj (by omega), fun j _ hj => absurd hj (by omega)⟩, ⟨Kd.R_nil _ _ _ _ _, fun j hj => absurd hj (by omega), fun j _ hj => absurd hj (by omega)⟩, fun _ q => q.elim, fun _ q => q.elim, fun _ q => q.elim, fun j hj => absurd hj (by omega), fun j hj => absurd hj (by omega)⟩, rfl, fun b q => by subst q; simp⟩
end Go.Proofs.Ytcffniaieegbgaa.P

end

section
namespace Go.Proofs.Ytcffniaieegbgaa.P
open Go.RowKit Go.Proofs.YtcffniaieegbgaaW.PrintWords Go.Proofs.YtcffniaieegbgaaW.PrintLast Go.Proofs.YtcffniaieegbgaaW.PrintMore
attribute [local go_sem] max2_int min2_int max_two min_two max_three min_three max_four min_four
set_option linter.unusedVariables false
set_option linter.unusedSimpArgs false
theorem below_far {B base : Nat} {w0 W W1 : World} (h : Below B w0 W) (hB : B ≤ base) (k : Below base W W1) : Below B w0 W1 := ⟨k.os.trans h.os, k.tape.trans h.tape, k.output.trans h.output, Nat.le_trans h.size k.size, fun b hb => (k.block b (Nat.lt_of_lt_of_le hb hB)).trans (h.block b hb)⟩
theorem khd_fits {n : Nat} (h : n ≤ 5864062014804) : Builtin.nextslicecap (n + 1) n * 24 ≤ 281474976710656 := growslice_fits (need := n + 1) (old := n) (bytes := 24) (Nat.lt_succ_self n) (by omega)
theorem Grp.add {k : IntKind} {te ts : TypeId} {W W1 : World} {base : Nat} {G G' : Nat → Prop} {v v1 : Value} {n : Nat} {hd : Nat → Hd} {h : Hd} {xs : List Int} (hg : Grp k te ts W base G v n hd 0 0) (hR : Kd.R (Kd.int k) te W1 base G' h.v xs) (hrow : khd.R ts W1 base G' v1 (rowH n hd ++ [h])) (hG : ∀ b, G b → G' b) (hfar : ∀ b, h.v.ownBlock = some b → ¬ G b) (hk : ∀ j, j < n → ∀ xs, Kd.R (Kd.int k) te W base G (hd j).v xs → Kd.R (Kd.int k) te W1 base G (hd j).v xs) : Grp k te ts W1 base G' v1 (n + 1) (fun j => if j = n then h else hd j) 0 0 := by
  have hown : ∀ j, j < n → ∀ b, (hd j).v.ownBlock = some b → G b := fun j hj b q => by
    obtain ⟨ys, h1, _⟩ := hg.own j hj
    exact h1.1 b q
  refine ⟨?_, fun j hj => ?_, fun j j' hj hj' hne b q1 q2 => ?_⟩
  · rw [rowH_succ, rowH_same (f := hd) (fun i hi => if_neg (Nat.ne_of_lt hi))]
    rw [show (if n = n then h else hd n) = h from if_pos rfl]
    exact hrow
  · show ∃ ys, Kd.R (Kd.int k) te W1 base G' (if j = n then h else hd j).v ys ∧ ∀ t, t < ys.length → (j < 0 ∨ (j = 0 ∧ t < 0)) → ys[t]? = some (mrk j)
    by_cases e : j = n
    · rw [if_pos e]
      exact ⟨xs, hR, fun t _ q => by omega⟩
    · rw [if_neg e]
      obtain ⟨ys, h1, h2⟩ := hg.own j (by omega)
      exact ⟨ys, Kd.R_mono (hk j (by omega) ys h1) hG, fun t _ q => by omega⟩
  · have q1 : (if j = n then h else hd j).v.ownBlock = some b := q1
    have q2 : (if j' = n then h else hd j').v.ownBlock = some b := q2
    by_cases e : j = n
    · rw [if_pos e] at q1
      rw [if_neg (by omega)] at q2
      exact hfar b q1 (hown j' (by omega) b q2)
    · rw [if_neg e] at q1
      by_cases e' : j' = n
      · rw [if_pos e'] at q2
        exact hfar b q2 (hown j (by omega) b q1)
      · rw [if_neg e'] at q2
        exact hg.ne j j' (by omega) (by omega) hne b q1 q2
theorem typ_neq {W : World} {a b t u : Nat} {cs ds : Array Value} (h1 : W.heap[a]? = some (.cells cs t (0, 0))) (h2 : W.heap[b]? = some (.cells ds u (0, 0))) (hn : t ≠ u) : a ≠ b := fun e => by
  rw [e, h2] at h1
  injection h1 with h1
  injection h1 with _ h1 _
  exact hn h1.symm
theorem Grp.over {k : IntKind} {te ts : TypeId} {W W1 : World} {base : Nat} {G S : Nat → Prop} {v : Value} {n : Nat} {hd : Nat → Hd} {i m : Nat} (h : Grp k te ts W base G v n hd i m) (hk : Kept W W1 S) (hS : ∀ b, G b → ¬ S b) {sh t : Nat} {cs : Array Value} (hb : W1.heap[sh]? = some (.cells cs t (0, 0))) (h1 : te ≠ t) (h2 : ts ≠ t) (j : Nat) (u : Value) : Grp k te ts (W1.setCell ⟨sh, j, none⟩ u) base G v n hd i m := by
  have h3 := h.kept hk hS
  refine ⟨Kd.R_set h3.row hb (fun z hz => by rw [show khd.E = [] from rfl] at hz; rw [List.mem_singleton.1 hz]; exact h2) _ _, fun j hj => ?_, h3.ne⟩
  obtain ⟨xs, h4, h5⟩ := h3.own j hj
  exact ⟨xs, Kd.R_set h4 hb (fun z hz => by rw [show (Kd.int k).E = [] from rfl] at hz; rw [List.mem_singleton.1 hz]; exact h1) _ _, h5⟩
end Go.Proofs.Ytcffniaieegbgaa.P

end

section
namespace Go.Proofs.Ytcffniaieegbgaa.P
open Go.RowKit Go.Proofs.YtcffniaieegbgaaW.PrintWords Go.Proofs.YtcffniaieegbgaaW.PrintLast Go.Proofs.YtcffniaieegbgaaW.PrintMore
attribute [local go_sem] max2_int min2_int max_two min_two max_three min_three max_four min_four
set_option linter.unusedVariables false
set_option linter.unusedSimpArgs false
set_option maxHeartbeats 1600000 in
set_option maxRecDepth 100000 in
theorem Ints_sh (base : Nat) (F F' : Nat → Prop) (sh nB nI : Nat) (W : World) (h : ShAt base F sh nB nI W) (v : Value) (xs : List Int) (hR : Kd.R (Kd.int .i64) 3 W base F' v xs) (hF : ∀ b, F' b → ¬ F b) (hlim : (xs.length + 80) * 8 ≤ 140737488355328) (hn : nI ≤ 5864062014804) :
    Calls Try.prog 41 #[.pointer (some ⟨sh, 0, none⟩), v] W fun e w' => e = .returned (.tuple #[]) ∧ ShAt base (fun b => (F b ∨ some b = v.ownBlock ∨ W.heap.size ≤ b) ∧ b < w'.heap.size) sh nB (nI + 1) w' ∧ Kept W w' (fun b => F b ∧ ∃ cs t, W.heap[b]? = some (.cells cs t (0, 0)) ∧ (t = 61 ∨ t = 27)) ∧ ∀ (B : Nat) (w0 : World), B ≤ base → Below B w0 W → Below B w0 w' := by
  obtain ⟨⟨GB, GI, vB, vI, hB, hI, h1, h2, h3, h4, h5, h6, h7, h8⟩, hf, hl⟩ := h
  obtain ⟨A, c, rfl⟩ := Kd.R_slice hR
  have hbase : base ≤ W.heap.size := Nat.le_trans (hl sh hf).1 (Nat.le_of_lt (hl sh hf).2)
  have hc0 := blk_cell h1 1
  have hrow := h3.row
  obtain ⟨Av, cv, ev⟩ := Kd.R_slice hrow
  rw [rowH_len] at ev
  subst ev
  have H1 := Aside0.mk h1
  have H2 := Aside0.mk h2
  have H3 := Aside0.mk h3
  have H4 := Aside0.mk h4
  have H5 := Aside0.mk h5
  have H6 := Aside0.mk h6
  have H7 := Aside0.mk h7
  have H8 := Aside0.mk h8
  have HF0 := Aside0.mk hf
  have HL := Aside0.mk hl
  have HR := Aside0.mk hR
  have HF := Aside0.mk hF
  have HLIM := Aside0.mk hlim
  have HN := Aside0.mk hn
  have HBS := Aside0.mk hbase
  have HROW := Aside0.mk hrow
  clear h1 h2 h3 h4 h5 h6 h7 h8 hf hl hR hF hlim hn hbase hrow
  go_enter Try.func41, Try.ntmps41
  go_wp2_with (first | (at_builtin; refine R_append1 khd (w0 := W) base rfl (.tmp 8) (.tmp 10) 59 27 (.slice none 0 0) 24 rfl Try.underlying59 (by kernel_rfl) rfl (by decide) (by decide) (.slice Av nI cv) (rowH nI hI) (⟨A, xs.length, c⟩ : Hd) [.slice A xs.length c] (fun b => GI b ∨ W.heap.size ≤ b) (fun _ => False) rfl rfl rfl (fun _ hk => hk.elim) (fun _ hk => .inr hk) (Kd.R_mono HROW.out (fun _ q => .inl q)) (Below.refl _ _) HBS.out (by rw [rowH_len]; have := HN.out; unfold maxLen; omega) (by rw [rowH_len]; exact khd_fits HN.out) ?_; intro v1 w1 ho hb hg hat; obtain ⟨A1, c1, e1⟩ := Kd.R_slice ho; rw [List.length_append, rowH_len] at e1; subst e1; have HO := Aside0.mk ho; have HB := Aside0.mk hb; have HG := Aside0.mk hg; have hs1 := (hg.block sh (blk_lt H1.out) (fun q => by obtain ⟨cells, hc⟩ := Kd.R_typed HROW.out sh q.symm; exact typ_neq H1.out hc (by decide) rfl)).trans H1.out; have HS1 := Aside0.mk hs1; clear ho hb hg hat hc0; have hc0 := blk_cell hs1 1; have hf0 := blk_frozen hs1 1; clear hs1))
  go_end0
  obtain ⟨v1, hv1⟩ : ∃ v1, v1 = Value.slice A1 (nI + 1) c1 := ⟨_, rfl⟩
  rw [← hv1]
  replace HO := Aside0.mk (show khd.R 27 w1 base (fun b => GI b ∨ W.heap.size ≤ b) v1 (rowH nI hI ++ [(⟨A, xs.length, c⟩ : Hd)]) by rw [hv1]; exact HO.out)
  have hs2 := blk_set HS1.out 1 v1
  have hkA : Kept W w1 (fun b => some b = (Value.slice Av nI cv).ownBlock) := Kept.of_grown HG.out (Kept.refl W _) (fun k q => .inl (by rw [q]))
  have hkB : Kept w1 (w1.setCell ⟨sh, 1, none⟩ v1) (fun b => b = sh) := (Kept.refl w1 (fun b => b = sh)).setCell (p := ⟨sh, 1, none⟩) (.inl rfl) _
  have hvG : ∀ b, some b = (Value.slice Av nI cv).ownBlock → GI b := fun b q => HROW.out.1 b q.symm
  have hkS : Kept W (w1.setCell ⟨sh, 1, none⟩ v1) (fun b => F b ∧ ∃ cs t, W.heap[b]? = some (.cells cs t (0, 0)) ∧ (t = 61 ∨ t = 27)) := (hkA.mono (fun b q => ⟨H5.out b (hvG b q), by obtain ⟨cs, h9⟩ := Kd.R_typed HROW.out b q.symm; exact ⟨cs, _, h9, .inr rfl⟩⟩)).then_ hkB (fun b q => .inl (by rw [q]; exact ⟨HF0.out, _, _, H1.out, .inl rfl⟩))
  have hsz : (w1.setCell ⟨sh, 1, none⟩ v1).heap.size = w1.heap.size := by simp [World.setCell]
  have hownF : ∀ b, some b = (Value.slice A xs.length c).ownBlock → ¬ F b ∧ base ≤ b ∧ b < W.heap.size := fun b q => ⟨HF.out b (HR.out.1 b q.symm), Kd.R_base HR.out b q.symm, Kd.R_lt HR.out b q.symm⟩
  have hst : ∀ (t : TypeId) {α : Type} (dd : Kd α) (ok : Nat → Prop) (u : Value) (ys : List α), dd.E = [] → t ≠ 61 → dd.R t w1 base ok u ys → dd.R t (w1.setCell ⟨sh, 1, none⟩ v1) base ok u ys := fun t α dd ok u ys hE ht q => Kd.R_set q HS1.out (fun z hz => by rw [hE] at hz; rw [List.mem_singleton.1 hz]; exact ht) _ _
  have hRn := hst _ _ _ _ _ rfl (by decide) (Kd.R_grown (Kd.R_tight2 rfl HR.out) HG.out (fun b q e => HF.out b q.2 (H5.out b (hvG b e))))
  have hrn := hst _ _ _ _ _ rfl (by decide) HO.out
  have hgrp := Grp.add (h := ⟨A, xs.length, c⟩) (G' := fun b => GI b ∨ some b = (Value.slice A xs.length c).ownBlock ∨ W.heap.size ≤ b) H3.out (Kd.R_mono hRn (fun b q => .inr (.inl q.1))) (Kd.R_mono hrn (fun b q => q.elim .inl (fun q => .inr (.inr q)))) (fun b q => .inl q) (fun b q q2 => (hownF b q.symm).1 (H5.out b q2)) (fun j hj ys q => hst _ _ _ _ _ rfl (by decide) (Kd.R_over' q (Kd.R_typed HROW.out) (fun z hz => by rw [show (Kd.int .i64).E = [] from rfl] at hz; rw [List.mem_singleton.1 hz]; decide) HG.out))
  have hoth := (H2.out.kept hkA (fun b q e => H6.out b q (hvG b e))).kept (S := fun b => b = sh) hkB
  have hoth2 := Grp.over H2.out hkA (fun b q e => H6.out b q (hvG b e)) HS1.out (by decide) (by decide) 1 v1
  clear hoth
  have hgrp2 := hgrp.bound.mono (G' := fun b => (GI b ∨ some b = (Value.slice A xs.length c).ownBlock ∨ W.heap.size ≤ b) ∧ base ≤ b ∧ b < (w1.setCell ⟨sh, 1, none⟩ v1).heap.size) (fun b q => ⟨q.1, q.2.1, q.2.2.1⟩)
  have hin : ∀ b, F b → b < (w1.setCell ⟨sh, 1, none⟩ v1).heap.size := fun b q => Nat.lt_of_lt_of_le (HL.out b q).2 hkS.1
  have hap : ∀ b, ((GI b ∨ some b = (Value.slice A xs.length c).ownBlock ∨ W.heap.size ≤ b) ∧ base ≤ b ∧ b < (w1.setCell ⟨sh, 1, none⟩ v1).heap.size) → GB b → False := fun b q qi => by
    have h9 := H4.out b qi
    rcases q.1 with q1 | q1 | q1
    · exact H6.out b qi q1
    · exact (hownF b q1).1 h9
    · have := (HL.out b h9).2
      omega
  have hlm : ∀ j, j < nI + 1 → (((if j = nI then (⟨A, xs.length, c⟩ : Hd) else hI j).n + 80) * 8 ≤ 140737488355328) := fun j hj => by
    by_cases e : j = nI
    · rw [if_pos e]; exact HLIM.out
    · rw [if_neg e]; exact H8.out j (by omega)
  have hto : ∀ b, ((GI b ∨ some b = (Value.slice A xs.length c).ownBlock ∨ W.heap.size ≤ b) ∧ base ≤ b ∧ b < (w1.setCell ⟨sh, 1, none⟩ v1).heap.size) → (F b ∨ some b = (Value.slice A xs.length c).ownBlock ∨ W.heap.size ≤ b) ∧ b < (w1.setCell ⟨sh, 1, none⟩ v1).heap.size := fun b q => ⟨q.1.imp (H5.out b) id, q.2.2⟩
  have hbs : ∀ b, (F b ∨ some b = (Value.slice A xs.length c).ownBlock ∨ W.heap.size ≤ b) → base ≤ b := fun b q => by
    rcases q with q | q | q
    · exact (HL.out b q).1
    · exact (hownF b q).2.1
    · exact Nat.le_trans HBS.out q
  exact ⟨rfl, ⟨⟨GB, _, vB, v1, hB, _, hs2, hoth2, hgrp2, fun b q => ⟨.inl (H4.out b q), hin b (H4.out b q)⟩, hto, fun b qi q => hap b q qi, H7.out, hlm⟩, ⟨.inl HF0.out, hin _ HF0.out⟩, fun b q => ⟨hbs b q.1, q.2⟩⟩, hkS, fun B w0 hB hb => (below_far hb hB HB.out).setCell (Nat.le_trans hB (HL.out sh HF0.out).1) _⟩
end Go.Proofs.Ytcffniaieegbgaa.P

end

section
namespace Go.Proofs.Ytcffniaieegbgaa.P
open Go.RowKit Go.Proofs.YtcffniaieegbgaaW.PrintWords Go.Proofs.YtcffniaieegbgaaW.PrintLast Go.Proofs.YtcffniaieegbgaaW.PrintMore
attribute [local go_sem] max2_int min2_int max_two min_two max_three min_three max_four min_four
set_option linter.unusedVariables false
set_option linter.unusedSimpArgs false
theorem R_two {k : IntKind} {te : TypeId} {W : World} {base : Nat} {G : Nat → Prop} {v : Value} {xs : List Int} (h : Kd.R (Kd.int k) te W base G v xs) : Kd.R (Kd.int k) te W base (fun b => v.ownBlock = some b) v xs := Kd.R_mono (Kd.R_tight2 rfl h) (fun b q => q.1.symm)
structure Mor (k : IntKind) (te ts : TypeId) (base S0 : Nat) (G : Nat → Prop) (v : Value) (n : Nat) (hd : Nat → Hd) (i : Nat) (vM : Value) (gh : Nat → Hd) (P : Nat → Nat → Prop) (W : World) : Prop where
  row : khd.R ts W base (fun b => G b ∧ b < S0) v (rowH n hd)
  own : ∀ j, j < n → i ≤ j → Kd.R (Kd.int k) te W base (P j) (hd j).v (List.replicate (hd j).n (mrk j))
  got : ∀ j, j < i → Kd.F (Kd.int k) W (P j) (hd j).A (hd j).n (List.replicate (hd j).n (mrk j)) ∧ Kd.F (Kd.int k) W (P j) (gh j).A (gh j).n (List.replicate ((hd j).n + 80) (mrk j)) ∧ (gh j).n = (hd j).n + 80 ∧ (gh j).n ≤ (gh j).c
  more : khd.R ts W base (fun b => S0 ≤ b) vM (rowH i gh)
  sub : ∀ j b, j < n → P j b → (G b ∨ S0 ≤ b) ∧ b < W.heap.size ∧ vM.ownBlock ≠ some b ∧ v.ownBlock ≠ some b
  ne : ∀ j j' b, j < n → j' < n → P j b → P j' b → j = j'
  le : base ≤ S0 ∧ S0 ≤ W.heap.size
theorem Mor.start {k : IntKind} {te ts : TypeId} {W : World} {base : Nat} {G : Nat → Prop} {v : Value} {n : Nat} {hd : Nat → Hd} {m : Nat} (h : Grp k te ts W base G v n hd n m) (ht : te ≠ ts) (hb : base ≤ W.heap.size) : Mor k te ts base W.heap.size G v n hd 0 (.slice none 0 0) (fun _ => hz) (fun j b => (hd j).v.ownBlock = some b) W := by
  have hown : ∀ j, j < n → ∀ b, (hd j).v.ownBlock = some b → G b ∧ b < W.heap.size ∧ ∃ cs, W.heap[b]? = some (.cells cs te (0, 0)) := fun j hj b q => by
    have h1 := h.marked hj hj
    exact ⟨h1.1 b q, Kd.R_lt h1 b q, Kd.R_typed h1 b q⟩
  refine ⟨Kd.R_mono (Kd.R_bound h.row) (fun b q => ⟨q.1, q.2.2.1⟩), fun j hj _ => R_two (h.marked hj hj), fun j hj => absurd hj (by omega), Kd.R_nil _ _ _ _ _, fun j b hj q => ⟨.inl (hown j hj b q).1, (hown j hj b q).2.1, fun e => by simp [Value.ownBlock] at e, fun e => ?_⟩, fun j j' b hj hj' q q' => ?_, hb, Nat.le_refl _⟩
  · obtain ⟨cs, h1⟩ := (hown j hj b q).2.2
    obtain ⟨ds, h2⟩ := Kd.R_typed h.row b e
    exact typ_neq h1 h2 ht rfl
  · by_cases e : j = j'
    · exact e
    · exact absurd q' (h.ne j j' hj hj' e b q)
structure Inn (k : IntKind) (te ts : TypeId) (base S0 S1 : Nat) (G : Nat → Prop) (v : Value) (n : Nat) (hd : Nat → Hd) (i : Nat) (vM : Value) (gh : Nat → Hd) (P : Nat → Nat → Prop) (t : Nat) (g : Hd) (W : World) : Prop where
  row : khd.R ts W base (fun b => G b ∧ b < S0) v (rowH n hd)
  own : ∀ j, j < n → i + 1 ≤ j → Kd.R (Kd.int k) te W base (P j) (hd j).v (List.replicate (hd j).n (mrk j))
  got : ∀ j, j < i → Kd.F (Kd.int k) W (P j) (hd j).A (hd j).n (List.replicate (hd j).n (mrk j)) ∧ Kd.F (Kd.int k) W (P j) (gh j).A (gh j).n (List.replicate ((hd j).n + 80) (mrk j)) ∧ (gh j).n = (hd j).n + 80 ∧ (gh j).n ≤ (gh j).c
  more : khd.R ts W base (fun b => S0 ≤ b) vM (rowH i gh)
  sub : ∀ j b, j < n → P j b → (G b ∨ S0 ≤ b) ∧ b < S1 ∧ vM.ownBlock ≠ some b ∧ v.ownBlock ≠ some b
  ne : ∀ j j' b, j < n → j' < n → P j b → P j' b → j = j'
  le : base ≤ S0 ∧ S0 ≤ S1 ∧ S1 ≤ W.heap.size
  mlt : ∀ b, vM.ownBlock = some b → b < S1
  cur : Kd.R (Kd.int k) te W base (fun b => P i b ∨ S1 ≤ b) g.v (List.replicate ((hd i).n + t) (mrk i))
  bas : ∃ Pb : Nat → Prop, (∀ b, Pb b → P i b ∨ S1 ≤ b) ∧ (∀ b, Pb b → b < W.heap.size) ∧ Kd.F (Kd.int k) W Pb (hd i).A (hd i).n (List.replicate (hd i).n (mrk i)) ∧ ((∀ b, Pb b → g.v.ownBlock ≠ some b) ∨ (hd i).A = g.A)
theorem Mor.enter {k : IntKind} {te ts : TypeId} {W : World} {base S0 : Nat} {G : Nat → Prop} {v vM : Value} {n i : Nat} {hd gh : Nat → Hd} {P : Nat → Nat → Prop} (h : Mor k te ts base S0 G v n hd i vM gh P W) (hi : i < n) : Inn k te ts base S0 W.heap.size G v n hd i vM gh P 0 (hd i) W :=
  ⟨h.row, fun j hj hij => h.own j hj (by omega), h.got, h.more, fun j b hj q => h.sub j b hj q, h.ne, ⟨h.le.1, h.le.2, Nat.le_refl _⟩, fun b q => Kd.R_lt h.more b q, Kd.R_mono (h.own i hi (Nat.le_refl _)) (fun b q => .inl q), P i, fun b q => .inl q, fun b q => (h.sub i b hi q).2.1, Kd.R_F (h.own i hi (Nat.le_refl _)), .inr rfl⟩
theorem Inn.step {k : IntKind} {te ts : TypeId} {W W1 : World} {base S0 S1 : Nat} {G : Nat → Prop} {v vM : Value} {n i t : Nat} {hd gh : Nat → Hd} {g : Hd} {P : Nat → Nat → Prop} (h : Inn k te ts base S0 S1 G v n hd i vM gh P t g W) (hb : Below W.heap.size W W1) : Inn k te ts base S0 S1 G v n hd i vM gh P t g W1 := by
  obtain ⟨Pb, b1, b2, b3, b4⟩ := h.bas
  exact ⟨Kd.R_below h.row hb, fun j hj hij => Kd.R_below (h.own j hj hij) hb, fun j hj => ⟨Kd.F_below (h.got j hj).1 hb, Kd.F_below (h.got j hj).2.1 hb, (h.got j hj).2.2⟩, Kd.R_below h.more hb, h.sub, h.ne, ⟨h.le.1, h.le.2.1, Nat.le_trans h.le.2.2 hb.size⟩, h.mlt, Kd.R_below h.cur hb, Pb, b1, fun b q => Nat.lt_of_lt_of_le (b2 b q) hb.size, Kd.F_below b3 hb, b4⟩
theorem Inn.more1 {k : IntKind} {te ts : TypeId} {W w1 : World} {base S0 S1 : Nat} {G : Nat → Prop} {v vM v1 : Value} {n i t : Nat} {hd gh : Nat → Hd} {g : Hd} {P : Nat → Nat → Prop} (h : Inn k te ts base S0 S1 G v n hd i vM gh P t g W) (hi : i < n) (ht : te ≠ ts)
    (hR : Kd.R (Kd.int k) te w1 base (fun b => (P i b ∨ S1 ≤ b) ∨ W.heap.size ≤ b) v1 (List.replicate ((hd i).n + t) (mrk i) ++ [mrk i])) (hg : W.grownBy w1 g.v.ownBlock) (hat : v1.ownBlock = g.v.ownBlock ∨ ((∃ b, v1.ownBlock = some b ∧ W.heap.size ≤ b) ∧ W.grownBy w1 none)) :
    ∃ g1 : Hd, v1 = g1.v ∧ g1.n = (hd i).n + (t + 1) ∧ Inn k te ts base S0 S1 G v n hd i vM gh P (t + 1) g1 w1 := by
  obtain ⟨A1, c1, rfl⟩ := Kd.R_slice hR
  have hlen : (List.replicate ((hd i).n + t) (mrk i) ++ [mrk i]).length = (hd i).n + (t + 1) := by simp; omega
  have hrep : List.replicate ((hd i).n + t) (mrk i) ++ [mrk i] = List.replicate ((hd i).n + (t + 1)) (mrk i) := by
    rw [← Nat.add_assoc, List.replicate_succ']
  rw [hlen] at hR hat ⊢
  rw [hrep] at hR
  refine ⟨⟨A1, (hd i).n + (t + 1), c1⟩, rfl, rfl, ?_⟩
  have hcur : Kd.R (Kd.int k) te w1 base (fun b => P i b ∨ S1 ≤ b) (Value.slice A1 ((hd i).n + (t + 1)) c1) (List.replicate ((hd i).n + (t + 1)) (mrk i)) := Kd.R_mono hR (fun b q => q.elim id (fun q => .inr (Nat.le_trans h.le.2.2 q)))
  have hty := Kd.R_typed h.cur
  have hcurlt := h.cur.1
  have hkA : Kept W w1 (fun b => g.v.ownBlock = some b) := Kept.of_grown hg (Kept.refl W _) (fun b q => .inl q)
  have hoff : ∀ j, j < n → j ≠ i → ∀ b, P j b → ¬ g.v.ownBlock = some b := fun j hj hne b q e => by
    rcases hcurlt b e with q2 | q2
    · exact hne (h.ne j i b hj hi q q2)
    · have := (h.sub j b hj q).2.1
      omega
  have hne' : ∀ q, q ∈ ts :: khd.E → q ≠ te := fun q hq => by
    rw [show khd.E = [] from rfl] at hq
    rw [List.mem_singleton.1 hq]
    exact ht.symm
  obtain ⟨Pb, b1, b2, b3, b4⟩ := h.bas
  refine ⟨Kd.R_over' h.row hty hne' hg, fun j hj hij => Kd.R_kept (h.own j hj hij) hkA (fun b q => hoff j hj (by omega) b q), fun j hj => ⟨Kd.F_kept (h.got j hj).1 hkA (fun b q => hoff j (by omega) (by omega) b q), Kd.F_kept (h.got j hj).2.1 hkA (fun b q => hoff j (by omega) (by omega) b q), (h.got j hj).2.2⟩, Kd.R_over' h.more hty hne' hg, h.sub, h.ne, ⟨h.le.1, h.le.2.1, Nat.le_trans h.le.2.2 hkA.1⟩, h.mlt, hcur, ?_⟩
  rcases hat with hat | ⟨⟨b, hb, hge⟩, hgn⟩
  · rcases b4 with b4 | b4
    · exact ⟨Pb, b1, fun b q => Nat.lt_of_lt_of_le (b2 b q) hkA.1, Kd.F_kept b3 hkA (fun b q => b4 b q), .inl (fun b q e => b4 b q (hat ▸ e))⟩
    · have h5 : Kd.F (Kd.int k) w1 (fun b => (Value.slice A1 ((hd i).n + (t + 1)) c1).ownBlock = some b) A1 ((hd i).n + (t + 1)) (List.replicate ((hd i).n + (t + 1)) (mrk i)) := Kd.R_F (R_two hcur)
      have hl1 : (List.replicate ((hd i).n + (t + 1)) (mrk i)).length = (hd i).n + (t + 1) := List.length_replicate
      have h6 : Kd.F (Kd.int k) w1 (fun b => (Value.slice A1 ((hd i).n + (t + 1)) c1).ownBlock = some b) A1 (hd i).n (List.replicate (hd i).n (mrk i)) := Kd.F_imp h5 (fun W' hC => by
        have h9 := Kd.C_take (m := (hd i).n) (show Kd.C (Kd.int k) W' A1 (List.replicate ((hd i).n + (t + 1)) (mrk i)).length (List.replicate ((hd i).n + (t + 1)) (mrk i)) by rw [hl1]; exact hC) (by rw [hl1]; omega)
        rw [List.take_replicate, Nat.min_eq_left (by omega)] at h9
        rw [List.length_replicate] at h9
        exact h9)
      have hA : A1 = g.A := by
        obtain ⟨gb, cap, e, _⟩ := Kd.R_form hcur (by rw [hl1]; omega)
        injection e with e1 _ _
        have e9 : (Value.slice A1 ((hd i).n + (t + 1)) c1).ownBlock = some gb := by rw [e1]; rfl
        rw [hat] at e9
        have e10 : g.v.ownBlock = some gb := e9
        by_cases hz : 0 < (hd i).n + t
        · obtain ⟨gb2, cap2, e2, _⟩ := Kd.R_form h.cur (by rw [List.length_replicate]; exact hz)
          unfold Hd.v at e2 e10
          injection e2 with e3 _ _
          rw [e3] at e10 ⊢
          simp only [Value.ownBlock, Option.some.injEq] at e10
          rw [e1, e10]
        · unfold Hd.v at e10
          cases hgA : g.A with
          | none => rw [hgA] at e10; simp [Value.ownBlock] at e10
          | some ad =>
            rw [hgA] at e10
            simp only [Value.ownBlock, Option.some.injEq] at e10
            have hc := h.cur
            unfold Hd.v at hc
            rw [hgA] at hc
            obtain ⟨g3, e11⟩ := Kd.R_head hc
            subst e11
            rw [e1, ← e10]
      exact ⟨_, fun b q => hcur.1 b q, fun b q => Kd.R_lt hcur b q, by rw [b4, ← hA]; exact h6, .inr (b4.trans hA.symm)⟩
  · have hkN : Kept W w1 (fun _ => False) := Kept.of_grown hgn (Kept.refl W _) (fun b q => by cases q)
    refine ⟨Pb, b1, fun b q => Nat.lt_of_lt_of_le (b2 b q) hkN.1, Kd.F_kept b3 hkN (fun b _ q => q), .inl (fun b' q e => ?_)⟩
    rw [show (Hd.v ⟨A1, (hd i).n + (t + 1), c1⟩).ownBlock = some b from hb] at e
    injection e with e
    have := b2 b' q
    omega
end Go.Proofs.Ytcffniaieegbgaa.P
end

