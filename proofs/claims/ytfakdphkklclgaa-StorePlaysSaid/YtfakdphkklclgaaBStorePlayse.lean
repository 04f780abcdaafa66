/- Proved: the law StorePlays holds for every input that the row lets in. No condition of ours. -/
import Derived.Test.YtfakdphkklclgaaBStorePlaysd
import Derived.Test.YtfakdphkklclgaaRows
import Derived.ShutString
import Derived.ChangeOld
import Derived.Lib.SmallJoins
section
namespace Go.Proofs.Ytfakdphkklclgaa.P
open Go.RowKit Go.Proofs.YtfakdphkklclgaaW.PrintWords Go.Proofs.YtfakdphkklclgaaW.PrintLast Go.Proofs.YtfakdphkklclgaaW.PrintMore
attribute [local go_sem] max2_int min2_int max_two min_two max_three min_three max_four min_four
set_option linter.unusedVariables false
set_option linter.unusedSimpArgs false
section
open Go.ChangeMaps Go.MapKept
set_option linter.unusedVariables false
set_option maxHeartbeats 12800000 in
set_option maxRecDepth 100000 in
theorem Put_d {Z : Nat → Prop} {xv : Value} {s : Sto} {w : World} (KF : Nat) (nm : ByteArray → Bool) (hK : StFacts KF nm) (hg : Good nm s) (h : DAt Z xv s w) (x : ByteArray) (b : List Int) (A : Option Addr) (c : Nat) (hr : Kd.C (Kd.int .u8) w A b.length b) (hc : b.length ≤ c) : Calls Try.prog 13 #[xv, .string x, .slice A b.length c] w fun e w' => DPost Z w (putS nm s x b) e w' := by
  have HX := Aside0.mk h
  obtain ⟨A0, c0, B1, d1, rfl, g1, g2, g3, g4⟩ := h
  have HI := Aside0.mk (And.intro g1 (And.intro g2 (And.intro g3 g4)))
  have HK := Aside0.mk hK
  have HG := Aside0.mk hg
  have HN := Aside0.mk (hK.rd.rname x)
  clear g1 g2 g3 g4 hK hg
  have HC := Aside0.mk hr
  clear hr
  by_cases c1 : nm x = false
  · rw [c1] at HN
    unfold putS
    rw [if_pos c1]
    go_enter Try.func13, Try.ntmps13
    go_wp2_with (first | ((with_reducible refine gate_dst (N := 3) rfl ?_); refine rw_box rfl 29 rfl (cs := #[.slice A0 s.img.length c0, .slice B1 s.L.length d1]) rfl (Rws.nil w) ?_; intro b3 w1 hX; have HM := Aside0.mk hX; clear hX) | ((with_reducible refine gate_dst (N := 6) rfl ?_); refine rw_allocS rfl 29 rfl (cs := #[.slice none 0 0, .slice none 0 0]) (by kernel_rfl) HM.out ?_; intro b6 w2 hg6 hM hb6; have HM2 := Aside0.mk hM; clear hg6 hM hb6 HM))
    refine (provisoref01_IsName.calls KF x _ _ HN.out).mono ?_
    rintro e w3 ⟨rfl, k1, rfl⟩
    have HM3 := Aside0.mk (HM2.out.drewN k1)
    have hc0 := blk_cell (HM3.out.mem (List.mem_cons_of_mem _ List.mem_cons_self)) 0
    have hc1 := blk_cell (HM3.out.mem (List.mem_cons_of_mem _ List.mem_cons_self)) 1
    go_wp2_with (first | ((with_reducible refine gate_dst (N := 14) rfl ?_); refine rw_load rfl 29 rfl rfl HM3.out (List.mem_cons_of_mem _ List.mem_cons_self) _ Try.underlying29 rfl (by kernel_rfl) ?_) | (refine rw_storeS rfl 29 rfl rfl (cs' := #[.slice A0 s.img.length c0, .slice B1 s.L.length d1]) rfl [] HM3.out (by kernel_rfl) rfl (by show _ = _; simp [Value.oneCell']) ?_; intro w9 hM hk3; have HM9 := Aside0.mk hM; clear hM hk3))
    refine bodyPost_ret (results_ctt rfl _ _ b6 29 #[.slice A0 s.img.length c0, .slice B1 s.L.length d1] (0, 0) _ rfl (HM9.out.mem List.mem_cons_self) Try.underlying29 rfl (by kernel_rfl)) rfl ?_
    exact ⟨_, _, rfl, (DAt.mono (DAt.step HX.out HM9.out.below) (fun k q => .inl q)), DWr.nil _ _, HM9.out.below⟩
  · rw [Bool.not_eq_false] at c1
    rw [c1] at HN
    unfold putS
    rw [if_neg (by rw [c1]; decide)]
    by_cases c2 : 4096 < b.length
    · have c2b : decide ((4096 : Int) < (b.length : Int)) = true := decide_eq_true (by omega)
      rw [if_pos c2]
      go_enter Try.func13, Try.ntmps13
      go_wp2_with (first | ((with_reducible refine gate_dst (N := 3) rfl ?_); refine rw_box rfl 29 rfl (cs := #[.slice A0 s.img.length c0, .slice B1 s.L.length d1]) rfl (Rws.nil w) ?_; intro b3 w1 hX; have HM := Aside0.mk hX; clear hX) | ((with_reducible refine gate_dst (N := 6) rfl ?_); refine rw_allocS rfl 29 rfl (cs := #[.slice none 0 0, .slice none 0 0]) (by kernel_rfl) HM.out ?_; intro b6 w2 hg6 hM hb6; have HM2 := Aside0.mk hM; clear hg6 hM hb6 HM))
      refine (provisoref01_IsName.calls KF x _ _ HN.out).mono ?_
      rintro e w3 ⟨rfl, k1, rfl⟩
      have HM3 := Aside0.mk (HM2.out.drewN k1)
      have hc0 := blk_cell (HM3.out.mem (List.mem_cons_of_mem _ List.mem_cons_self)) 0
      have hc1 := blk_cell (HM3.out.mem (List.mem_cons_of_mem _ List.mem_cons_self)) 1
      go_wp2_with (first | ((with_reducible refine gate_dst (N := 18) rfl ?_); refine rw_load rfl 29 rfl rfl HM3.out (List.mem_cons_of_mem _ List.mem_cons_self) _ Try.underlying29 rfl (by kernel_rfl) ?_) | (refine rw_storeS rfl 29 rfl rfl (cs' := #[.slice A0 s.img.length c0, .slice B1 s.L.length d1]) rfl [] HM3.out (by kernel_rfl) rfl (by show _ = _; simp [Value.oneCell']) ?_; intro w9 hM hk3; have HM9 := Aside0.mk hM; clear hM hk3))
      refine bodyPost_ret (results_ctt rfl _ _ b6 29 #[.slice A0 s.img.length c0, .slice B1 s.L.length d1] (0, 0) _ rfl (HM9.out.mem List.mem_cons_self) Try.underlying29 rfl (by kernel_rfl)) rfl ?_
      exact ⟨_, _, rfl, (DAt.mono (DAt.step HX.out HM9.out.below) (fun k q => .inl q)), DWr.nil _ _, HM9.out.below⟩
    · have c2b : decide ((4096 : Int) < (b.length : Int)) = false := decide_eq_false (by omega)
      rw [if_neg c2]
      have hlen := HG.out.len
      by_cases c3 : lkL s.L x = none
      · have c3b : (lkL s.L x).isSome = false := by rw [c3]; rfl
        by_cases c4 : 16 ≤ s.L.length
        · have c4b : ((s.L.length : Int) == 16) = true := by rw [beq_iff_eq]; omega
          rw [if_pos ⟨c3, c4⟩]
          go_enter Try.func13, Try.ntmps13
          go_wp2_with (first | ((with_reducible refine gate_dst (N := 3) rfl ?_); refine rw_box rfl 29 rfl (cs := #[.slice A0 s.img.length c0, .slice B1 s.L.length d1]) rfl (Rws.nil w) ?_; intro b3 w1 hX; have HM := Aside0.mk hX; clear hX) | ((with_reducible refine gate_dst (N := 6) rfl ?_); refine rw_allocS rfl 29 rfl (cs := #[.slice none 0 0, .slice none 0 0]) (by kernel_rfl) HM.out ?_; intro b6 w2 hg6 hM hb6; have HM2 := Aside0.mk hM; clear hg6 hM hb6 HM))
          refine (provisoref01_IsName.calls KF x _ _ HN.out).mono ?_
          rintro e w3 ⟨rfl, k1, rfl⟩
          have HM3 := Aside0.mk (HM2.out.drewN k1)
          have hc0 := blk_cell (HM3.out.mem (List.mem_cons_of_mem _ List.mem_cons_self)) 0
          have hc1 := blk_cell (HM3.out.mem (List.mem_cons_of_mem _ List.mem_cons_self)) 1
          go_wp2_with fail
          refine (provisoref21_place.calls KF B1 d1 s.L x _ _ _ (Kd.F_now (Kd.F_below HI.out.2.2.2 HM3.out.below)) HI.out.2.1 (HK.out.place s.L x (by have := HG.out.len; omega) HG.out.srt)).mono ?_
          rintro e w4 ⟨rfl, k2, rfl⟩
          have HM4 := Aside0.mk (HM2.out.drewN (k1 + k2))
          clear hc0 hc1
          have hc0 := blk_cell (HM4.out.mem (List.mem_cons_of_mem _ List.mem_cons_self)) 0
          have hc1 := blk_cell (HM4.out.mem (List.mem_cons_of_mem _ List.mem_cons_self)) 1
          go_wp2_with (first | ((with_reducible refine gate_dst (N := 34) rfl ?_); refine rw_load rfl 29 rfl rfl HM4.out (List.mem_cons_of_mem _ List.mem_cons_self) _ Try.underlying29 rfl (by kernel_rfl) ?_) | (refine rw_storeS rfl 29 rfl rfl (cs' := #[.slice A0 s.img.length c0, .slice B1 s.L.length d1]) rfl [] HM4.out (by kernel_rfl) rfl (by show _ = _; simp [Value.oneCell']) ?_; intro w9 hM hk3; have HM9 := Aside0.mk hM; clear hM hk3))
          refine bodyPost_ret (results_ctt rfl _ _ b6 29 #[.slice A0 s.img.length c0, .slice B1 s.L.length d1] (0, 0) _ rfl (HM9.out.mem List.mem_cons_self) Try.underlying29 rfl (by kernel_rfl)) rfl ?_
          exact ⟨_, _, rfl, (DAt.mono (DAt.step HX.out HM9.out.below) (fun k q => .inl q)), DWr.nil _ _, HM9.out.below⟩
        · have c4b : ((s.L.length : Int) == 16) = false := beq_eq_false_iff_ne.mpr (by omega)
          rw [if_neg (fun q => c4 q.2)]
          go_enter Try.func13, Try.ntmps13
          go_wp2_with (first | ((with_reducible refine gate_dst (N := 3) rfl ?_); refine rw_box rfl 29 rfl (cs := #[.slice A0 s.img.length c0, .slice B1 s.L.length d1]) rfl (Rws.nil w) ?_; intro b3 w1 hX; have HM := Aside0.mk hX; clear hX) | ((with_reducible refine gate_dst (N := 6) rfl ?_); refine rw_allocS rfl 29 rfl (cs := #[.slice none 0 0, .slice none 0 0]) (by kernel_rfl) HM.out ?_; intro b6 w2 hg6 hM hb6; have HM2 := Aside0.mk hM; clear hg6 hM hb6 HM))
          refine (provisoref01_IsName.calls KF x _ _ HN.out).mono ?_
          rintro e w3 ⟨rfl, k1, rfl⟩
          have HM3 := Aside0.mk (HM2.out.drewN k1)
          have hc0 := blk_cell (HM3.out.mem (List.mem_cons_of_mem _ List.mem_cons_self)) 0
          have hc1 := blk_cell (HM3.out.mem (List.mem_cons_of_mem _ List.mem_cons_self)) 1
          go_wp2_with fail
          refine (provisoref21_place.calls KF B1 d1 s.L x _ _ _ (Kd.F_now (Kd.F_below HI.out.2.2.2 HM3.out.below)) HI.out.2.1 (HK.out.place s.L x (by have := HG.out.len; omega) HG.out.srt)).mono ?_
          rintro e w4 ⟨rfl, k2, rfl⟩
          have HM4 := Aside0.mk (HM2.out.drewN (k1 + k2))
          clear hc0 hc1
          have hc0 := blk_cell (HM4.out.mem (List.mem_cons_of_mem _ List.mem_cons_self)) 0
          have hc1 := blk_cell (HM4.out.mem (List.mem_cons_of_mem _ List.mem_cons_self)) 1
          go_wp2_with fail
          have HMD := Aside0.mk (HM4.out.drewN 1)
          (try simp only [Act.put, List.setIfInBounds_toArray, List.set_cons_zero, List.set_cons_succ])
          refine wp_region_held_drew (S := fun w' => Rws w [(b3, 29, #[.slice A0 s.img.length c0, .slice B1 s.L.length d1])] w') (by kernel_rfl) ?_ (fun hHeld => ?_)
          · exact HMD.out.tail
          have HM10 := Aside0.mk (show Rws w _ (World.drew _) from HMD.out)
          clear HMD hc0 hc1
          generalize World.drew _ = w10 at HM10 hHeld ⊢
          refine take_dst (i := 0) (v := .agg #[.slice A0 s.img.length c0, .slice B1 s.L.length d1]) 35 rfl rfl (by kernel_rfl) (by kernel_rfl) (by kernel_rfl) (fun _ _ _ h => h) (rw_yields (by rfl) 29 rfl rfl (fun _ h => h) List.mem_cons_self _ Try.underlying29 rfl (by kernel_rfl)) (by assumption) ?_
          (try simp only [Act.put, List.setIfInBounds_toArray, List.set_cons_zero, List.set_cons_succ])
          refine take_dst (i := 1) (v := ?_) 36 rfl rfl (by kernel_rfl) (by kernel_rfl) (by kernel_rfl) (fun _ _ _ h => h) (Or.inl ⟨by rfl, ?_⟩) (by assumption) ?_
          rotate_left
          · intro w hSw
            go_simp
            try with_reducible rfl
          (try simp only [Act.put, List.setIfInBounds_toArray, List.set_cons_zero, List.set_cons_succ])
          refine take_dst (i := 2) (v := ?_) 37 rfl rfl (by kernel_rfl) (by kernel_rfl) (by kernel_rfl) (fun _ _ _ h => h) (Or.inl ⟨by rfl, ?_⟩) (by assumption) ?_
          rotate_left
          · intro w hSw
            have q0 := blk_cell (hSw.mem List.mem_cons_self) 0
            have q1 := blk_cell (hSw.mem List.mem_cons_self) 1
            go_simp
            try with_reducible rfl
          (try simp only [Act.put, List.setIfInBounds_toArray, List.set_cons_zero, List.set_cons_succ])
          refine take_dst (i := 3) (v := ?_) 38 rfl rfl (by kernel_rfl) (by kernel_rfl) (by kernel_rfl) (fun _ _ _ h => h) (Or.inl ⟨by rfl, ?_⟩) (by assumption) ?_
          rotate_left
          · intro w hSw
            go_simp
            try with_reducible rfl
          (try simp only [Act.put, List.setIfInBounds_toArray, List.set_cons_zero, List.set_cons_succ])
          refine take_dst (i := 5) (v := ?_) 40 rfl rfl (by kernel_rfl) (by kernel_rfl) (by kernel_rfl) (fun _ _ _ h => h) (Or.inl ⟨by rfl, ?_⟩) (by assumption) ?_
          rotate_left
          · intro w hSw
            go_simp
            try with_reducible rfl
          (try simp only [Act.put, List.setIfInBounds_toArray, List.set_cons_zero, List.set_cons_succ])
          refine take_dst (i := 8) (v := ?_) 43 rfl rfl (by kernel_rfl) (by kernel_rfl) (by kernel_rfl) (fun _ _ _ h => h) (Or.inl ⟨by rfl, ?_⟩) (by assumption) ?_
          rotate_left
          · intro w hSw
            go_simp
            try with_reducible rfl
          (try simp only [Act.put, List.setIfInBounds_toArray, List.set_cons_zero, List.set_cons_succ])
          refine take_dst (i := 9) (v := ?_) 44 rfl rfl (by kernel_rfl) (by kernel_rfl) (by kernel_rfl) (fun _ _ _ h => h) (Or.inl ⟨by rfl, ?_⟩) (by assumption) ?_
          rotate_left
          · intro w hSw
            go_simp
            try with_reducible rfl
          (try simp only [Act.put, List.setIfInBounds_toArray, List.set_cons_zero, List.set_cons_succ])
          refine wpAnyH_ready (rs := [4]) (by kernel_rfl) (by simp) ?_
          refine AllReadyH.cons rfl (fun K hK => ?_) (AllReadyH.nil)
          go_simp
          have hb := below_alloc (Below.refl w10.heap.size w10) (.cells #[] 5)
          have ho := nil_own w10 w10.heap.size (Nat.le_refl _)
          have HM11 := Aside0.mk (HM10.out.step hb)
          refine hK.out _ _ (HM10.out.step hb).tail (fun hHeld => ?_)
          (try simp only [Act.put, List.setIfInBounds_toArray, List.set_cons_zero, List.set_cons_succ])
          clear hK K
          obtain ⟨gk, hgk⟩ : ∃ gk, gk = w10.heap.size := ⟨_, rfl⟩
          rw [← hgk] at ho ⊢
          generalize (w10.alloc (.cells #[] 5)) = w11 at hb ho HM11 hHeld ⊢
          have HO := Aside0.mk ho
          have HB11 := Aside0.mk hb
          have HZK := Aside0.mk (show w.heap.size ≤ gk by have := HM10.out.below.size; omega)
          have HL6 := Aside0.mk (show w.heap.size ≤ b6 ∧ b6 < gk from ⟨(HM10.out.lies _ List.mem_cons_self).2, by have := blk_lt (HM10.out.mem List.mem_cons_self); omega⟩)
          have hgl : gk ≤ w11.heap.size := by have := hb.size; omega
          clear hb ho hgk
          refine wpAnyH_ready (rs := [6]) (by kernel_rfl) (by simp) ?_
          refine AllReadyH.cons rfl (fun K hK => ?_) (AllReadyH.nil)
          refine Kd.R_append_rows_step (Kd.int .u8) (w0 := w11) gk rfl (.tmp 39) (.tmp 40) 23 5 (.int .u8 0) 1 rfl Try.underlying23 info5 rfl (by decide) (by omega) (.slice (some ⟨gk, 0, none⟩) 0 0) ([] : List Int) b A b.length c (fun _ => True) (fun _ => False) rfl rfl HO.out (Kd.C_below HC.out HM11.out.below) (fun _ _ h => h) (fun _ h => h.elim) (fun _ _ => trivial) (Below.refl _ _) hgl (by simp; omega) ?_
          intro v12 w12 ho hb hg hat
          have HM12 := Aside0.mk (HM11.out.grownT HO.out hg (by intro p hp; rcases List.mem_cons.1 hp with rfl | hp; exact (show 29 ≠ 5 by decide); rw [List.mem_singleton.1 hp]; exact (show 29 ≠ 5 by decide)) (HM11.out.below.trans (hb.mono HZK.out)))
          obtain ⟨A12, c12, e12⟩ := Kd.R_slice ho
          rw [List.nil_append] at e12 ho
          subst e12
          have HO2 := Aside0.mk ho
          have HG12 := Aside0.mk (show gk ≤ w12.heap.size from Nat.le_trans hgl hb.size)
          have HB12 := Aside0.mk hb
          clear ho hb hg hat
          go_simp
          refine hK.out _ _ HM12.out.tail (fun hHeld => ?_)
          (try simp only [Act.put, List.setIfInBounds_toArray, List.set_cons_zero, List.set_cons_succ])
          clear hK K
          refine wpAnyH_ready (rs := [7]) (by kernel_rfl) (by simp) ?_
          refine AllReadyH.cons rfl (fun K hK => ?_) (AllReadyH.nil)
          go_simp
          refine (provisoref21_with.calls KF (fun k => Z k ∧ k < w.heap.size) B1 d1 s.L x (fun k => gk ≤ k) A12 c12 b (putL x b s.L) w12 (Kd.V_mk HI.out.2.1 (Kd.F_below (Kd.F_bound HI.out.2.2.2) HM12.out.below)) (Kd.V_mono (Kd.R_V (Kd.R_bound HO2.out)) (fun k q => q.2.1)) (HK.out.with_ s.L x b (by have := HG.out.len; omega) HG.out.srt)).mono ?_
          rintro e w13 ⟨v13, rfl, hN, hb⟩
          have hV := Kd.N_V (base' := 0) hN
          obtain ⟨A13, c13, e13⟩ := Kd.V_slice hV
          subst e13
          have HV := Aside0.mk (Kd.V_at hV).2
          have HM13 := Aside0.mk (HM12.out.step hb)
          have HS13 := Aside0.mk hb.size
          clear hN hb hV
          go_simp
          refine hK.out _ _ HM13.out.tail (fun hHeld => ?_)
          (try simp only [Act.put, List.setIfInBounds_toArray, List.set_cons_zero, List.set_cons_succ])
          clear hK K
          refine wpAnyH_ready (rs := [10]) (by kernel_rfl) (by simp) ?_
          refine AllReadyH.cons rfl (fun K hK => ?_) (AllReadyH.nil)
          go_simp
          refine (record_d 1 (.inl rfl) x (HK.out.siz x c1).2 b (by omega) A c w13 (Kd.C_below HC.out HM13.out.below)).mono ?_
          rintro e w14 ⟨v14, rfl, hR, hb⟩
          obtain ⟨A14, c14, e14⟩ := Kd.R_slice hR
          subst e14
          have HR14 := Aside0.mk hR
          have HM14 := Aside0.mk (HM13.out.step hb)
          have HS14 := Aside0.mk hb.size
          replace HV := Aside0.mk (And.intro HV.out.1 (Kd.F_below HV.out.2 hb))
          clear hR hb
          go_simp
          refine hK.out _ _ HM14.out.tail (fun hHeld => ?_)
          (try simp only [Act.put, List.setIfInBounds_toArray, List.set_cons_zero, List.set_cons_succ])
          clear hK K
          refine wpAnyH_ready (rs := [11]) (by kernel_rfl) (by simp) ?_
          refine AllReadyH.cons rfl (fun K hK => ?_) (AllReadyH.nil)
          go_simp
          have hrl : (recB 1 x b).length = x.size + 4 + b.length := by unfold recB; simp [bytes_len]; omega
          have hxs := HK.out.siz x c1
          refine (laid_d (Z := fun k => (Z k ∧ k < w.heap.size) ∨ gk ≤ k) (DAt.mono (DAt.step HX.out.bound HM14.out.below) (fun k q => .inl q)) HG.out.img (putL x b s.L) A13 c13 (Kd.F_mono HV.out.2 (fun k q => ?hz)) HV.out.1 (recB 1 x b) A14 c14 (Kd.R_reads' HR14.out).2.2 (Kd.R_reads' HR14.out).2.1 (by omega) (by omega)).mono ?_
          case hz =>
            rcases q with (q | q) | q
            · exact .inl q
            · exact .inr q
            · exact .inr (Nat.le_trans HG12.out q)
          rintro e w15 ⟨y, m, rfl, hy, hm, hb⟩
          have HY := Aside0.mk hy
          have HW := Aside0.mk hm
          have HB15 := Aside0.mk hb
          have HM15 := Aside0.mk (HM14.out.step hb)
          have HZ14 := Aside0.mk (show gk ≤ w14.heap.size from Nat.le_trans HG12.out (Nat.le_trans HS13.out HS14.out))
          obtain ⟨A15, c15, A16, c16, e15, _⟩ := hy
          subst e15
          clear hm hb hrl hxs
          go_simp
          refine hK.out _ _ HM15.out.tail (fun hHeld => ?_)
          (try simp only [Act.put, List.setIfInBounds_toArray, List.set_cons_zero, List.set_cons_succ])
          clear hK K
          refine take_dst (i := 12) (v := ?_) 47 rfl rfl (by kernel_rfl) (by kernel_rfl) (by kernel_rfl) (fun _ _ _ h => h) (Or.inl ⟨by rfl, ?_⟩) (by assumption) ?_
          rotate_left
          · intro w hSw
            go_simp
            try with_reducible rfl
          (try simp only [Act.put, List.setIfInBounds_toArray, List.set_cons_zero, List.set_cons_succ])
          refine take_dst (i := 13) (v := ?_) 48 rfl rfl (by kernel_rfl) (by kernel_rfl) (by kernel_rfl) (fun _ _ _ h => h) (Or.inl ⟨by rfl, ?_⟩) (by assumption) ?_
          rotate_left
          · intro w hSw
            go_simp
            try with_reducible rfl
          (try simp only [Act.put, List.setIfInBounds_toArray, List.set_cons_zero, List.set_cons_succ])
          refine take_dst (i := 14) (v := ?_) 49 rfl rfl (by kernel_rfl) (by kernel_rfl) (by kernel_rfl) (fun _ _ _ h => h) (Or.inl ⟨by rfl, ?_⟩) (by assumption) ?_
          rotate_left
          · intro w hSw
            go_simp
            try with_reducible rfl
          (try simp only [Act.put, List.setIfInBounds_toArray, List.set_cons_zero, List.set_cons_succ])
          refine wpAnyH_ready (rs := [15]) (by kernel_rfl) (by simp) ?_
          refine AllReadyH.cons rfl (fun K hK => ?_) (AllReadyH.nil)
          refine rw_store_wp 29 rfl rfl (cs' := #[.slice A15 (laidS s (putL x b s.L) (recB 1 x b)).1.img.length c15, .slice A16 (laidS s (putL x b s.L) (recB 1 x b)).1.L.length c16]) rfl [] HM15.out (by kernel_rfl) rfl (by show _ = _; simp [Value.oneCell']) ?_
          intro w16 hM hkp
          refine hK.out _ _ hM.tail (fun hHeld => ?_)
          (try simp only [Act.put, List.setIfInBounds_toArray, List.set_cons_zero, List.set_cons_succ])
          clear hK K
          have HM16 := Aside0.mk hM
          have HKP := Aside0.mk hkp
          clear hM hkp
          refine take_dst (i := 16) (v := ?_) 7 rfl rfl (by kernel_rfl) (by kernel_rfl) (by kernel_rfl) (fun _ _ _ h => h) (Or.inl ⟨by rfl, ?_⟩) (by assumption) ?_
          rotate_left
          · intro w hSw
            go_simp
            try with_reducible rfl
          (try simp only [Act.put, List.setIfInBounds_toArray, List.set_cons_zero, List.set_cons_succ])
          refine take_dst (i := 17) (v := ?_) 8 rfl rfl (by kernel_rfl) (by kernel_rfl) (by kernel_rfl) (fun _ _ _ h => h) (Or.inl ⟨by rfl, ?_⟩) (by assumption) ?_
          rotate_left
          · intro w hSw
            go_simp
            try with_reducible rfl
          (try simp only [Act.put, List.setIfInBounds_toArray, List.set_cons_zero, List.set_cons_succ])
          refine wpAnyH_done (by kernel_rfl) ?_ _
          go_wp2_with fail
          refine bodyPost_ret (results_ctt rfl _ _ b6 29 #[.slice A15 (laidS s (putL x b s.L) (recB 1 x b)).1.img.length c15, .slice A16 (laidS s (putL x b s.L) (recB 1 x b)).1.L.length c16] (0, 0) _ rfl (HM16.out.mem List.mem_cons_self) Try.underlying29 rfl (by kernel_rfl)) rfl ?_
          have hs15 : w14.heap.size ≤ w15.heap.size := HB15.out.size
          have hs16 : w15.heap.size ≤ w16.heap.size := HKP.out.1
          have hl6 := HL6.out
          have hzk := HZK.out
          have hz14 := HZ14.out
          refine ⟨_, _, rfl, (HY.out.bound.kept HKP.out (fun k q e => ?_)).mono (fun k q => ?_), (HW.out.kept HKP.out (fun k q e => ?_)).mono (fun k q => ⟨by omega, by omega⟩), HM16.out.below⟩
          · subst e
            rcases q.1 with (q1 | q1) | q1
            · omega
            · omega
            · omega
          · have q2 : k < w15.heap.size := q.2
            rcases q.1 with (q1 | q1) | q1
            · exact .inl q1.1
            · exact .inr ⟨by omega, by omega⟩
            · exact .inr ⟨by omega, by omega⟩
          · omega
      · have c3b : (lkL s.L x).isSome = true := by
          cases hq : lkL s.L x with
          | none => exact absurd hq c3
          | some y => rfl
        rw [if_neg (fun q => c3 q.1)]
        go_enter Try.func13, Try.ntmps13
        go_wp2_with (first | ((with_reducible refine gate_dst (N := 3) rfl ?_); refine rw_box rfl 29 rfl (cs := #[.slice A0 s.img.length c0, .slice B1 s.L.length d1]) rfl (Rws.nil w) ?_; intro b3 w1 hX; have HM := Aside0.mk hX; clear hX) | ((with_reducible refine gate_dst (N := 6) rfl ?_); refine rw_allocS rfl 29 rfl (cs := #[.slice none 0 0, .slice none 0 0]) (by kernel_rfl) HM.out ?_; intro b6 w2 hg6 hM hb6; have HM2 := Aside0.mk hM; clear hg6 hM hb6 HM))
        refine (provisoref01_IsName.calls KF x _ _ HN.out).mono ?_
        rintro e w3 ⟨rfl, k1, rfl⟩
        have HM3 := Aside0.mk (HM2.out.drewN k1)
        have hc0 := blk_cell (HM3.out.mem (List.mem_cons_of_mem _ List.mem_cons_self)) 0
        have hc1 := blk_cell (HM3.out.mem (List.mem_cons_of_mem _ List.mem_cons_self)) 1
        go_wp2_with fail
        refine (provisoref21_place.calls KF B1 d1 s.L x _ _ _ (Kd.F_now (Kd.F_below HI.out.2.2.2 HM3.out.below)) HI.out.2.1 (HK.out.place s.L x (by have := HG.out.len; omega) HG.out.srt)).mono ?_
        rintro e w4 ⟨rfl, k2, rfl⟩
        have HM4 := Aside0.mk (HM2.out.drewN (k1 + k2))
        clear hc0 hc1
        have hc0 := blk_cell (HM4.out.mem (List.mem_cons_of_mem _ List.mem_cons_self)) 0
        have hc1 := blk_cell (HM4.out.mem (List.mem_cons_of_mem _ List.mem_cons_self)) 1
        go_wp2_with fail
        have HMD := Aside0.mk (HM4.out.drewN 1)
        (try simp only [Act.put, List.setIfInBounds_toArray, List.set_cons_zero, List.set_cons_succ])
        refine wp_region_held_drew (S := fun w' => Rws w [(b3, 29, #[.slice A0 s.img.length c0, .slice B1 s.L.length d1])] w') (by kernel_rfl) ?_ (fun hHeld => ?_)
        · exact HMD.out.tail
        have HM10 := Aside0.mk (show Rws w _ (World.drew _) from HMD.out)
        clear HMD hc0 hc1
        generalize World.drew _ = w10 at HM10 hHeld ⊢
        refine take_dst (i := 0) (v := .agg #[.slice A0 s.img.length c0, .slice B1 s.L.length d1]) 35 rfl rfl (by kernel_rfl) (by kernel_rfl) (by kernel_rfl) (fun _ _ _ h => h) (rw_yields (by rfl) 29 rfl rfl (fun _ h => h) List.mem_cons_self _ Try.underlying29 rfl (by kernel_rfl)) (by assumption) ?_
        (try simp only [Act.put, List.setIfInBounds_toArray, List.set_cons_zero, List.set_cons_succ])
        refine take_dst (i := 1) (v := ?_) 36 rfl rfl (by kernel_rfl) (by kernel_rfl) (by kernel_rfl) (fun _ _ _ h => h) (Or.inl ⟨by rfl, ?_⟩) (by assumption) ?_
        rotate_left
        · intro w hSw
          go_simp
          try with_reducible rfl
        (try simp only [Act.put, List.setIfInBounds_toArray, List.set_cons_zero, List.set_cons_succ])
        refine take_dst (i := 2) (v := ?_) 37 rfl rfl (by kernel_rfl) (by kernel_rfl) (by kernel_rfl) (fun _ _ _ h => h) (Or.inl ⟨by rfl, ?_⟩) (by assumption) ?_
        rotate_left
        · intro w hSw
          have q0 := blk_cell (hSw.mem List.mem_cons_self) 0
          have q1 := blk_cell (hSw.mem List.mem_cons_self) 1
          go_simp
          try with_reducible rfl
        (try simp only [Act.put, List.setIfInBounds_toArray, List.set_cons_zero, List.set_cons_succ])
        refine take_dst (i := 3) (v := ?_) 38 rfl rfl (by kernel_rfl) (by kernel_rfl) (by kernel_rfl) (fun _ _ _ h => h) (Or.inl ⟨by rfl, ?_⟩) (by assumption) ?_
        rotate_left
        · intro w hSw
          go_simp
          try with_reducible rfl
        (try simp only [Act.put, List.setIfInBounds_toArray, List.set_cons_zero, List.set_cons_succ])
        refine take_dst (i := 5) (v := ?_) 40 rfl rfl (by kernel_rfl) (by kernel_rfl) (by kernel_rfl) (fun _ _ _ h => h) (Or.inl ⟨by rfl, ?_⟩) (by assumption) ?_
        rotate_left
        · intro w hSw
          go_simp
          try with_reducible rfl
        (try simp only [Act.put, List.setIfInBounds_toArray, List.set_cons_zero, List.set_cons_succ])
        refine take_dst (i := 8) (v := ?_) 43 rfl rfl (by kernel_rfl) (by kernel_rfl) (by kernel_rfl) (fun _ _ _ h => h) (Or.inl ⟨by rfl, ?_⟩) (by assumption) ?_
        rotate_left
        · intro w hSw
          go_simp
          try with_reducible rfl
        (try simp only [Act.put, List.setIfInBounds_toArray, List.set_cons_zero, List.set_cons_succ])
        refine take_dst (i := 9) (v := ?_) 44 rfl rfl (by kernel_rfl) (by kernel_rfl) (by kernel_rfl) (fun _ _ _ h => h) (Or.inl ⟨by rfl, ?_⟩) (by assumption) ?_
        rotate_left
        · intro w hSw
          go_simp
          try with_reducible rfl
        (try simp only [Act.put, List.setIfInBounds_toArray, List.set_cons_zero, List.set_cons_succ])
        refine wpAnyH_ready (rs := [4]) (by kernel_rfl) (by simp) ?_
        refine AllReadyH.cons rfl (fun K hK => ?_) (AllReadyH.nil)
        go_simp
        have hb := below_alloc (Below.refl w10.heap.size w10) (.cells #[] 5)
        have ho := nil_own w10 w10.heap.size (Nat.le_refl _)
        have HM11 := Aside0.mk (HM10.out.step hb)
        refine hK.out _ _ (HM10.out.step hb).tail (fun hHeld => ?_)
        (try simp only [Act.put, List.setIfInBounds_toArray, List.set_cons_zero, List.set_cons_succ])
        clear hK K
        obtain ⟨gk, hgk⟩ : ∃ gk, gk = w10.heap.size := ⟨_, rfl⟩
        rw [← hgk] at ho ⊢
        generalize (w10.alloc (.cells #[] 5)) = w11 at hb ho HM11 hHeld ⊢
        have HO := Aside0.mk ho
        have HB11 := Aside0.mk hb
        have HZK := Aside0.mk (show w.heap.size ≤ gk by have := HM10.out.below.size; omega)
        have HL6 := Aside0.mk (show w.heap.size ≤ b6 ∧ b6 < gk from ⟨(HM10.out.lies _ List.mem_cons_self).2, by have := blk_lt (HM10.out.mem List.mem_cons_self); omega⟩)
        have hgl : gk ≤ w11.heap.size := by have := hb.size; omega
        clear hb ho hgk
        refine wpAnyH_ready (rs := [6]) (by kernel_rfl) (by simp) ?_
        refine AllReadyH.cons rfl (fun K hK => ?_) (AllReadyH.nil)
        refine Kd.R_append_rows_step (Kd.int .u8) (w0 := w11) gk rfl (.tmp 39) (.tmp 40) 23 5 (.int .u8 0) 1 rfl Try.underlying23 info5 rfl (by decide) (by omega) (.slice (some ⟨gk, 0, none⟩) 0 0) ([] : List Int) b A b.length c (fun _ => True) (fun _ => False) rfl rfl HO.out (Kd.C_below HC.out HM11.out.below) (fun _ _ h => h) (fun _ h => h.elim) (fun _ _ => trivial) (Below.refl _ _) hgl (by simp; omega) ?_
        intro v12 w12 ho hb hg hat
        have HM12 := Aside0.mk (HM11.out.grownT HO.out hg (by intro p hp; rcases List.mem_cons.1 hp with rfl | hp; exact (show 29 ≠ 5 by decide); rw [List.mem_singleton.1 hp]; exact (show 29 ≠ 5 by decide)) (HM11.out.below.trans (hb.mono HZK.out)))
        obtain ⟨A12, c12, e12⟩ := Kd.R_slice ho
        rw [List.nil_append] at e12 ho
        subst e12
        have HO2 := Aside0.mk ho
        have HG12 := Aside0.mk (show gk ≤ w12.heap.size from Nat.le_trans hgl hb.size)
        have HB12 := Aside0.mk hb
        clear ho hb hg hat
        go_simp
        refine hK.out _ _ HM12.out.tail (fun hHeld => ?_)
        (try simp only [Act.put, List.setIfInBounds_toArray, List.set_cons_zero, List.set_cons_succ])
        clear hK K
        refine wpAnyH_ready (rs := [7]) (by kernel_rfl) (by simp) ?_
        refine AllReadyH.cons rfl (fun K hK => ?_) (AllReadyH.nil)
        go_simp
        refine (provisoref21_with.calls KF (fun k => Z k ∧ k < w.heap.size) B1 d1 s.L x (fun k => gk ≤ k) A12 c12 b (putL x b s.L) w12 (Kd.V_mk HI.out.2.1 (Kd.F_below (Kd.F_bound HI.out.2.2.2) HM12.out.below)) (Kd.V_mono (Kd.R_V (Kd.R_bound HO2.out)) (fun k q => q.2.1)) (HK.out.with_ s.L x b (by have := HG.out.len; omega) HG.out.srt)).mono ?_
        rintro e w13 ⟨v13, rfl, hN, hb⟩
        have hV := Kd.N_V (base' := 0) hN
        obtain ⟨A13, c13, e13⟩ := Kd.V_slice hV
        subst e13
        have HV := Aside0.mk (Kd.V_at hV).2
        have HM13 := Aside0.mk (HM12.out.step hb)
        have HS13 := Aside0.mk hb.size
        clear hN hb hV
        go_simp
        refine hK.out _ _ HM13.out.tail (fun hHeld => ?_)
        (try simp only [Act.put, List.setIfInBounds_toArray, List.set_cons_zero, List.set_cons_succ])
        clear hK K
        refine wpAnyH_ready (rs := [10]) (by kernel_rfl) (by simp) ?_
        refine AllReadyH.cons rfl (fun K hK => ?_) (AllReadyH.nil)
        go_simp
        refine (record_d 1 (.inl rfl) x (HK.out.siz x c1).2 b (by omega) A c w13 (Kd.C_below HC.out HM13.out.below)).mono ?_
        rintro e w14 ⟨v14, rfl, hR, hb⟩
        obtain ⟨A14, c14, e14⟩ := Kd.R_slice hR
        subst e14
        have HR14 := Aside0.mk hR
        have HM14 := Aside0.mk (HM13.out.step hb)
        have HS14 := Aside0.mk hb.size
        replace HV := Aside0.mk (And.intro HV.out.1 (Kd.F_below HV.out.2 hb))
        clear hR hb
        go_simp
        refine hK.out _ _ HM14.out.tail (fun hHeld => ?_)
        (try simp only [Act.put, List.setIfInBounds_toArray, List.set_cons_zero, List.set_cons_succ])
        clear hK K
        refine wpAnyH_ready (rs := [11]) (by kernel_rfl) (by simp) ?_
        refine AllReadyH.cons rfl (fun K hK => ?_) (AllReadyH.nil)
        go_simp
        have hrl : (recB 1 x b).length = x.size + 4 + b.length := by unfold recB; simp [bytes_len]; omega
        have hxs := HK.out.siz x c1
        refine (laid_d (Z := fun k => (Z k ∧ k < w.heap.size) ∨ gk ≤ k) (DAt.mono (DAt.step HX.out.bound HM14.out.below) (fun k q => .inl q)) HG.out.img (putL x b s.L) A13 c13 (Kd.F_mono HV.out.2 (fun k q => ?hz)) HV.out.1 (recB 1 x b) A14 c14 (Kd.R_reads' HR14.out).2.2 (Kd.R_reads' HR14.out).2.1 (by omega) (by omega)).mono ?_
        case hz =>
          rcases q with (q | q) | q
          · exact .inl q
          · exact .inr q
          · exact .inr (Nat.le_trans HG12.out q)
        rintro e w15 ⟨y, m, rfl, hy, hm, hb⟩
        have HY := Aside0.mk hy
        have HW := Aside0.mk hm
        have HB15 := Aside0.mk hb
        have HM15 := Aside0.mk (HM14.out.step hb)
        have HZ14 := Aside0.mk (show gk ≤ w14.heap.size from Nat.le_trans HG12.out (Nat.le_trans HS13.out HS14.out))
        obtain ⟨A15, c15, A16, c16, e15, _⟩ := hy
        subst e15
        clear hm hb hrl hxs
        go_simp
        refine hK.out _ _ HM15.out.tail (fun hHeld => ?_)
        (try simp only [Act.put, List.setIfInBounds_toArray, List.set_cons_zero, List.set_cons_succ])
        clear hK K
        refine take_dst (i := 12) (v := ?_) 47 rfl rfl (by kernel_rfl) (by kernel_rfl) (by kernel_rfl) (fun _ _ _ h => h) (Or.inl ⟨by rfl, ?_⟩) (by assumption) ?_
        rotate_left
        · intro w hSw
          go_simp
          try with_reducible rfl
        (try simp only [Act.put, List.setIfInBounds_toArray, List.set_cons_zero, List.set_cons_succ])
        refine take_dst (i := 13) (v := ?_) 48 rfl rfl (by kernel_rfl) (by kernel_rfl) (by kernel_rfl) (fun _ _ _ h => h) (Or.inl ⟨by rfl, ?_⟩) (by assumption) ?_
        rotate_left
        · intro w hSw
          go_simp
          try with_reducible rfl
        (try simp only [Act.put, List.setIfInBounds_toArray, List.set_cons_zero, List.set_cons_succ])
        refine take_dst (i := 14) (v := ?_) 49 rfl rfl (by kernel_rfl) (by kernel_rfl) (by kernel_rfl) (fun _ _ _ h => h) (Or.inl ⟨by rfl, ?_⟩) (by assumption) ?_
        rotate_left
        · intro w hSw
          go_simp
          try with_reducible rfl
        (try simp only [Act.put, List.setIfInBounds_toArray, List.set_cons_zero, List.set_cons_succ])
        refine wpAnyH_ready (rs := [15]) (by kernel_rfl) (by simp) ?_
        refine AllReadyH.cons rfl (fun K hK => ?_) (AllReadyH.nil)
        refine rw_store_wp 29 rfl rfl (cs' := #[.slice A15 (laidS s (putL x b s.L) (recB 1 x b)).1.img.length c15, .slice A16 (laidS s (putL x b s.L) (recB 1 x b)).1.L.length c16]) rfl [] HM15.out (by kernel_rfl) rfl (by show _ = _; simp [Value.oneCell']) ?_
        intro w16 hM hkp
        refine hK.out _ _ hM.tail (fun hHeld => ?_)
        (try simp only [Act.put, List.setIfInBounds_toArray, List.set_cons_zero, List.set_cons_succ])
        clear hK K
        have HM16 := Aside0.mk hM
        have HKP := Aside0.mk hkp
        clear hM hkp
        refine take_dst (i := 16) (v := ?_) 7 rfl rfl (by kernel_rfl) (by kernel_rfl) (by kernel_rfl) (fun _ _ _ h => h) (Or.inl ⟨by rfl, ?_⟩) (by assumption) ?_
        rotate_left
        · intro w hSw
          go_simp
          try with_reducible rfl
        (try simp only [Act.put, List.setIfInBounds_toArray, List.set_cons_zero, List.set_cons_succ])
        refine take_dst (i := 17) (v := ?_) 8 rfl rfl (by kernel_rfl) (by kernel_rfl) (by kernel_rfl) (fun _ _ _ h => h) (Or.inl ⟨by rfl, ?_⟩) (by assumption) ?_
        rotate_left
        · intro w hSw
          go_simp
          try with_reducible rfl
        (try simp only [Act.put, List.setIfInBounds_toArray, List.set_cons_zero, List.set_cons_succ])
        refine wpAnyH_done (by kernel_rfl) ?_ _
        go_wp2_with fail
        refine bodyPost_ret (results_ctt rfl _ _ b6 29 #[.slice A15 (laidS s (putL x b s.L) (recB 1 x b)).1.img.length c15, .slice A16 (laidS s (putL x b s.L) (recB 1 x b)).1.L.length c16] (0, 0) _ rfl (HM16.out.mem List.mem_cons_self) Try.underlying29 rfl (by kernel_rfl)) rfl ?_
        have hs15 : w14.heap.size ≤ w15.heap.size := HB15.out.size
        have hs16 : w15.heap.size ≤ w16.heap.size := HKP.out.1
        have hl6 := HL6.out
        have hzk := HZK.out
        have hz14 := HZ14.out
        refine ⟨_, _, rfl, (HY.out.bound.kept HKP.out (fun k q e => ?_)).mono (fun k q => ?_), (HW.out.kept HKP.out (fun k q e => ?_)).mono (fun k q => ⟨by omega, by omega⟩), HM16.out.below⟩
        · subst e
          rcases q.1 with (q1 | q1) | q1
          · omega
          · omega
          · omega
        · have q2 : k < w15.heap.size := q.2
          rcases q.1 with (q1 | q1) | q1
          · exact .inl q1.1
          · exact .inr ⟨by omega, by omega⟩
          · exact .inr ⟨by omega, by omega⟩
        · omega
end
end Go.Proofs.Ytfakdphkklclgaa.P

end

section
namespace Go.Proofs.Ytfakdphkklclgaa.P
open Go.RowKit Go.Proofs.YtfakdphkklclgaaW.PrintWords Go.Proofs.YtfakdphkklclgaaW.PrintLast Go.Proofs.YtfakdphkklclgaaW.PrintMore
attribute [local go_sem] max2_int min2_int max_two min_two max_three min_three max_four min_four
set_option linter.unusedVariables false
set_option linter.unusedSimpArgs false
section
open Go.ChangeMaps Go.MapKept
set_option linter.unusedVariables false
set_option maxHeartbeats 12800000 in
set_option maxRecDepth 100000 in
theorem Drop_d {Z : Nat → Prop} {xv : Value} {s : Sto} {w : World} (KF : Nat) (nm : ByteArray → Bool) (hK : StFacts KF nm) (hg : Good nm s) (h : DAt Z xv s w) (x : ByteArray) : Calls Try.prog 46 #[xv, .string x] w fun e w' => DPost Z w (dropS nm s x) e w' := by
  have HX := Aside0.mk h
  obtain ⟨A0, c0, B1, d1, rfl, g1, g2, g3, g4⟩ := h
  have HI := Aside0.mk (And.intro g1 (And.intro g2 (And.intro g3 g4)))
  have HK := Aside0.mk hK
  have HG := Aside0.mk hg
  have HN := Aside0.mk (hK.rd.rname x)
  clear g1 g2 g3 g4 hK hg
  by_cases c1 : nm x = false
  · rw [c1] at HN
    unfold dropS
    rw [if_pos c1]
    go_enter Try.func46, Try.ntmps46
    go_wp2_with (first | ((with_reducible refine gate_dst (N := 2) rfl ?_); refine rw_box rfl 29 rfl (cs := #[.slice A0 s.img.length c0, .slice B1 s.L.length d1]) rfl (Rws.nil w) ?_; intro b3 w1 hX; have HM := Aside0.mk hX; clear hX) | ((with_reducible refine gate_dst (N := 4) rfl ?_); refine rw_allocS rfl 29 rfl (cs := #[.slice none 0 0, .slice none 0 0]) (by kernel_rfl) HM.out ?_; intro b6 w2 hg6 hM hb6; have HM2 := Aside0.mk hM; clear hg6 hM hb6 HM))
    refine (provisoref01_IsName.calls KF x _ _ HN.out).mono ?_
    rintro e w3 ⟨rfl, k1, rfl⟩
    have HM3 := Aside0.mk (HM2.out.drewN k1)
    have hc0 := blk_cell (HM3.out.mem (List.mem_cons_of_mem _ List.mem_cons_self)) 0
    have hc1 := blk_cell (HM3.out.mem (List.mem_cons_of_mem _ List.mem_cons_self)) 1
    go_wp2_with (first | ((with_reducible refine gate_dst (N := 12) rfl ?_); refine rw_load rfl 29 rfl rfl HM3.out (List.mem_cons_of_mem _ List.mem_cons_self) _ Try.underlying29 rfl (by kernel_rfl) ?_) | (refine rw_storeS rfl 29 rfl rfl (cs' := #[.slice A0 s.img.length c0, .slice B1 s.L.length d1]) rfl [] HM3.out (by kernel_rfl) rfl (by show _ = _; simp [Value.oneCell']) ?_; intro w9 hM hk3; have HM9 := Aside0.mk hM; clear hM hk3))
    refine bodyPost_ret (results_ctt rfl _ _ b6 29 #[.slice A0 s.img.length c0, .slice B1 s.L.length d1] (0, 0) _ rfl (HM9.out.mem List.mem_cons_self) Try.underlying29 rfl (by kernel_rfl)) rfl ?_
    exact ⟨_, _, rfl, (DAt.mono (DAt.step HX.out HM9.out.below) (fun k q => .inl q)), DWr.nil _ _, HM9.out.below⟩
  · rw [Bool.not_eq_false] at c1
    rw [c1] at HN
    unfold dropS
    rw [if_neg (by rw [c1]; decide)]
    by_cases c3 : lkL s.L x = none
    · have c3b : (lkL s.L x).isSome = false := by rw [c3]; rfl
      rw [if_pos c3]
      go_enter Try.func46, Try.ntmps46
      go_wp2_with (first | ((with_reducible refine gate_dst (N := 2) rfl ?_); refine rw_box rfl 29 rfl (cs := #[.slice A0 s.img.length c0, .slice B1 s.L.length d1]) rfl (Rws.nil w) ?_; intro b3 w1 hX; have HM := Aside0.mk hX; clear hX) | ((with_reducible refine gate_dst (N := 4) rfl ?_); refine rw_allocS rfl 29 rfl (cs := #[.slice none 0 0, .slice none 0 0]) (by kernel_rfl) HM.out ?_; intro b6 w2 hg6 hM hb6; have HM2 := Aside0.mk hM; clear hg6 hM hb6 HM))
      refine (provisoref01_IsName.calls KF x _ _ HN.out).mono ?_
      rintro e w3 ⟨rfl, k1, rfl⟩
      have HM3 := Aside0.mk (HM2.out.drewN k1)
      have hc0 := blk_cell (HM3.out.mem (List.mem_cons_of_mem _ List.mem_cons_self)) 0
      have hc1 := blk_cell (HM3.out.mem (List.mem_cons_of_mem _ List.mem_cons_self)) 1
      go_wp2_with fail
      refine (provisoref21_place.calls KF B1 d1 s.L x _ _ _ (Kd.F_now (Kd.F_below HI.out.2.2.2 HM3.out.below)) HI.out.2.1 (HK.out.place s.L x (by have := HG.out.len; omega) HG.out.srt)).mono ?_
      rintro e w4 ⟨rfl, k2, rfl⟩
      have HM4 := Aside0.mk (HM2.out.drewN (k1 + k2))
      clear hc0 hc1
      have hc0 := blk_cell (HM4.out.mem (List.mem_cons_of_mem _ List.mem_cons_self)) 0
      have hc1 := blk_cell (HM4.out.mem (List.mem_cons_of_mem _ List.mem_cons_self)) 1
      go_wp2_with (first | ((with_reducible refine gate_dst (N := 22) rfl ?_); refine rw_load rfl 29 rfl rfl HM4.out (List.mem_cons_of_mem _ List.mem_cons_self) _ Try.underlying29 rfl (by kernel_rfl) ?_) | (refine rw_storeS rfl 29 rfl rfl (cs' := #[.slice A0 s.img.length c0, .slice B1 s.L.length d1]) rfl [] HM4.out (by kernel_rfl) rfl (by show _ = _; simp [Value.oneCell']) ?_; intro w9 hM hk3; have HM9 := Aside0.mk hM; clear hM hk3))
      refine bodyPost_ret (results_ctt rfl _ _ b6 29 #[.slice A0 s.img.length c0, .slice B1 s.L.length d1] (0, 0) _ rfl (HM9.out.mem List.mem_cons_self) Try.underlying29 rfl (by kernel_rfl)) rfl ?_
      exact ⟨_, _, rfl, (DAt.mono (DAt.step HX.out HM9.out.below) (fun k q => .inl q)), DWr.nil _ _, HM9.out.below⟩
    · have c3b : (lkL s.L x).isSome = true := by
        cases hq : lkL s.L x with
        | none => exact absurd hq c3
        | some y => rfl
      rw [if_neg c3]
      go_enter Try.func46, Try.ntmps46
      go_wp2_with (first | ((with_reducible refine gate_dst (N := 2) rfl ?_); refine rw_box rfl 29 rfl (cs := #[.slice A0 s.img.length c0, .slice B1 s.L.length d1]) rfl (Rws.nil w) ?_; intro b3 w1 hX; have HM := Aside0.mk hX; clear hX) | ((with_reducible refine gate_dst (N := 4) rfl ?_); refine rw_allocS rfl 29 rfl (cs := #[.slice none 0 0, .slice none 0 0]) (by kernel_rfl) HM.out ?_; intro b6 w2 hg6 hM hb6; have HM2 := Aside0.mk hM; clear hg6 hM hb6 HM))
      refine (provisoref01_IsName.calls KF x _ _ HN.out).mono ?_
      rintro e w3 ⟨rfl, k1, rfl⟩
      have HM3 := Aside0.mk (HM2.out.drewN k1)
      have hc0 := blk_cell (HM3.out.mem (List.mem_cons_of_mem _ List.mem_cons_self)) 0
      have hc1 := blk_cell (HM3.out.mem (List.mem_cons_of_mem _ List.mem_cons_self)) 1
      go_wp2_with fail
      refine (provisoref21_place.calls KF B1 d1 s.L x _ _ _ (Kd.F_now (Kd.F_below HI.out.2.2.2 HM3.out.below)) HI.out.2.1 (HK.out.place s.L x (by have := HG.out.len; omega) HG.out.srt)).mono ?_
      rintro e w4 ⟨rfl, k2, rfl⟩
      have HM4 := Aside0.mk (HM2.out.drewN (k1 + k2))
      clear hc0 hc1
      have hc0 := blk_cell (HM4.out.mem (List.mem_cons_of_mem _ List.mem_cons_self)) 0
      have hc1 := blk_cell (HM4.out.mem (List.mem_cons_of_mem _ List.mem_cons_self)) 1
      go_wp2_with fail
      have HMD := Aside0.mk (HM4.out.drewN 1)
      (try simp only [Act.put, List.setIfInBounds_toArray, List.set_cons_zero, List.set_cons_succ])
      refine wp_region_held_drew (S := fun w' => Rws w [(b3, 29, #[.slice A0 s.img.length c0, .slice B1 s.L.length d1])] w') (by kernel_rfl) ?_ (fun hHeld => ?_)
      · exact HMD.out.tail
      have HM10 := Aside0.mk (show Rws w _ (World.drew _) from HMD.out)
      clear HMD hc0 hc1
      generalize World.drew _ = w10 at HM10 hHeld ⊢
      have HL6 := Aside0.mk (show w.heap.size ≤ b6 ∧ b6 < w10.heap.size from ⟨(HM10.out.lies _ List.mem_cons_self).2, by have := blk_lt (HM10.out.mem List.mem_cons_self); omega⟩)
      refine take_dst (i := 0) (v := .agg #[.slice A0 s.img.length c0, .slice B1 s.L.length d1]) 23 rfl rfl (by kernel_rfl) (by kernel_rfl) (by kernel_rfl) (fun _ _ _ h => h) (rw_yields (by rfl) 29 rfl rfl (fun _ h => h) List.mem_cons_self _ Try.underlying29 rfl (by kernel_rfl)) (by assumption) ?_
      (try simp only [Act.put, List.setIfInBounds_toArray, List.set_cons_zero, List.set_cons_succ])
      refine take_dst (i := 1) (v := ?_) 24 rfl rfl (by kernel_rfl) (by kernel_rfl) (by kernel_rfl) (fun _ _ _ h => h) (Or.inl ⟨by rfl, ?_⟩) (by assumption) ?_
      rotate_left
      · intro w hSw
        go_simp
        try with_reducible rfl
      (try simp only [Act.put, List.setIfInBounds_toArray, List.set_cons_zero, List.set_cons_succ])
      refine take_dst (i := 2) (v := ?_) 25 rfl rfl (by kernel_rfl) (by kernel_rfl) (by kernel_rfl) (fun _ _ _ h => h) (Or.inl ⟨by rfl, ?_⟩) (by assumption) ?_
      rotate_left
      · intro w hSw
        have q0 := blk_cell (hSw.mem List.mem_cons_self) 0
        have q1 := blk_cell (hSw.mem List.mem_cons_self) 1
        go_simp
        try with_reducible rfl
      (try simp only [Act.put, List.setIfInBounds_toArray, List.set_cons_zero, List.set_cons_succ])
      refine take_dst (i := 3) (v := ?_) 26 rfl rfl (by kernel_rfl) (by kernel_rfl) (by kernel_rfl) (fun _ _ _ h => h) (Or.inl ⟨by rfl, ?_⟩) (by assumption) ?_
      rotate_left
      · intro w hSw
        go_simp
        try with_reducible rfl
      (try simp only [Act.put, List.setIfInBounds_toArray, List.set_cons_zero, List.set_cons_succ])
      refine take_dst (i := 5) (v := ?_) 28 rfl rfl (by kernel_rfl) (by kernel_rfl) (by kernel_rfl) (fun _ _ _ h => h) (Or.inl ⟨by rfl, ?_⟩) (by assumption) ?_
      rotate_left
      · intro w hSw
        go_simp
        try with_reducible rfl
      (try simp only [Act.put, List.setIfInBounds_toArray, List.set_cons_zero, List.set_cons_succ])
      refine wpAnyH_ready (rs := [4]) (by kernel_rfl) (by simp) ?_
      refine AllReadyH.cons rfl (fun K hK => ?_) (AllReadyH.nil)
      go_simp
      refine (provisoref21_without.calls KF (fun k => Z k ∧ k < w.heap.size) B1 d1 s.L x (cutL x s.L) w10 (Kd.V_mk HI.out.2.1 (Kd.F_below (Kd.F_bound HI.out.2.2.2) HM10.out.below)) (HK.out.wout s.L x (by have := HG.out.len; omega) HG.out.srt)).mono ?_
      rintro e w13 ⟨v13, rfl, hN, hb⟩
      have hV := Kd.N_V (base' := 0) hN
      obtain ⟨A13, c13, e13⟩ := Kd.V_slice hV
      subst e13
      have HV := Aside0.mk (Kd.V_at hV).2
      have HM13 := Aside0.mk (HM10.out.step hb)
      have HS13 := Aside0.mk hb.size
      clear hN hb hV
      go_simp
      refine hK.out _ _ HM13.out.tail (fun hHeld => ?_)
      (try simp only [Act.put, List.setIfInBounds_toArray, List.set_cons_zero, List.set_cons_succ])
      clear hK K
      refine wpAnyH_ready (rs := [6]) (by kernel_rfl) (by simp) ?_
      refine AllReadyH.cons rfl (fun K hK => ?_) (AllReadyH.nil)
      go_simp
      refine (record_d 2 (.inr rfl) x (HK.out.siz x c1).2 [] (by simp) none 0 w13 (Kd.C_nil _ _)).mono ?_
      rintro e w14 ⟨v14, rfl, hR, hb⟩
      obtain ⟨A14, c14, e14⟩ := Kd.R_slice hR
      subst e14
      have HR14 := Aside0.mk hR
      have HM14 := Aside0.mk (HM13.out.step hb)
      have HS14 := Aside0.mk hb.size
      replace HV := Aside0.mk (And.intro HV.out.1 (Kd.F_below HV.out.2 hb))
      clear hR hb
      go_simp
      refine hK.out _ _ HM14.out.tail (fun hHeld => ?_)
      (try simp only [Act.put, List.setIfInBounds_toArray, List.set_cons_zero, List.set_cons_succ])
      clear hK K
      refine wpAnyH_ready (rs := [7]) (by kernel_rfl) (by simp) ?_
      refine AllReadyH.cons rfl (fun K hK => ?_) (AllReadyH.nil)
      go_simp
      have hrl : (recB 2 x []).length = x.size + 2 := by unfold recB; simp [bytes_len]
      have hxs := HK.out.siz x c1
      refine (laid_d (Z := fun k => (Z k ∧ k < w.heap.size) ∨ w10.heap.size ≤ k) (DAt.mono (DAt.step HX.out.bound HM14.out.below) (fun k q => .inl q)) HG.out.img (cutL x s.L) A13 c13 HV.out.2 HV.out.1 (recB 2 x []) A14 c14 (Kd.R_reads' HR14.out).2.2 (Kd.R_reads' HR14.out).2.1 (by omega) (by omega)).mono ?_
      rintro e w15 ⟨y, m, rfl, hy, hm, hb⟩
      have HY := Aside0.mk hy
      have HW := Aside0.mk hm
      have HB15 := Aside0.mk hb
      have HM15 := Aside0.mk (HM14.out.step hb)
      have HZ14 := Aside0.mk (show w10.heap.size ≤ w14.heap.size from Nat.le_trans HS13.out HS14.out)
      obtain ⟨A15, c15, A16, c16, e15, _⟩ := hy
      subst e15
      clear hm hb hrl hxs
      go_simp
      refine hK.out _ _ HM15.out.tail (fun hHeld => ?_)
      (try simp only [Act.put, List.setIfInBounds_toArray, List.set_cons_zero, List.set_cons_succ])
      clear hK K
      refine take_dst (i := 8) (v := ?_) 31 rfl rfl (by kernel_rfl) (by kernel_rfl) (by kernel_rfl) (fun _ _ _ h => h) (Or.inl ⟨by rfl, ?_⟩) (by assumption) ?_
      rotate_left
      · intro w hSw
        go_simp
        try with_reducible rfl
      (try simp only [Act.put, List.setIfInBounds_toArray, List.set_cons_zero, List.set_cons_succ])
      refine take_dst (i := 9) (v := ?_) 32 rfl rfl (by kernel_rfl) (by kernel_rfl) (by kernel_rfl) (fun _ _ _ h => h) (Or.inl ⟨by rfl, ?_⟩) (by assumption) ?_
      rotate_left
      · intro w hSw
        go_simp
        try with_reducible rfl
      (try simp only [Act.put, List.setIfInBounds_toArray, List.set_cons_zero, List.set_cons_succ])
      refine take_dst (i := 10) (v := ?_) 33 rfl rfl (by kernel_rfl) (by kernel_rfl) (by kernel_rfl) (fun _ _ _ h => h) (Or.inl ⟨by rfl, ?_⟩) (by assumption) ?_
      rotate_left
      · intro w hSw
        go_simp
        try with_reducible rfl
      (try simp only [Act.put, List.setIfInBounds_toArray, List.set_cons_zero, List.set_cons_succ])
      refine wpAnyH_ready (rs := [11]) (by kernel_rfl) (by simp) ?_
      refine AllReadyH.cons rfl (fun K hK => ?_) (AllReadyH.nil)
      refine rw_store_wp 29 rfl rfl (cs' := #[.slice A15 (laidS s (cutL x s.L) (recB 2 x [])).1.img.length c15, .slice A16 (laidS s (cutL x s.L) (recB 2 x [])).1.L.length c16]) rfl [] HM15.out (by kernel_rfl) rfl (by show _ = _; simp [Value.oneCell']) ?_
      intro w16 hM hkp
      refine hK.out _ _ hM.tail (fun hHeld => ?_)
      (try simp only [Act.put, List.setIfInBounds_toArray, List.set_cons_zero, List.set_cons_succ])
      clear hK K
      have HM16 := Aside0.mk hM
      have HKP := Aside0.mk hkp
      clear hM hkp
      refine take_dst (i := 12) (v := ?_) 5 rfl rfl (by kernel_rfl) (by kernel_rfl) (by kernel_rfl) (fun _ _ _ h => h) (Or.inl ⟨by rfl, ?_⟩) (by assumption) ?_
      rotate_left
      · intro w hSw
        go_simp
        try with_reducible rfl
      (try simp only [Act.put, List.setIfInBounds_toArray, List.set_cons_zero, List.set_cons_succ])
      refine take_dst (i := 13) (v := ?_) 6 rfl rfl (by kernel_rfl) (by kernel_rfl) (by kernel_rfl) (fun _ _ _ h => h) (Or.inl ⟨by rfl, ?_⟩) (by assumption) ?_
      rotate_left
      · intro w hSw
        go_simp
        try with_reducible rfl
      (try simp only [Act.put, List.setIfInBounds_toArray, List.set_cons_zero, List.set_cons_succ])
      refine wpAnyH_done (by kernel_rfl) ?_ _
      go_wp2_with fail
      refine bodyPost_ret (results_ctt rfl _ _ b6 29 #[.slice A15 (laidS s (cutL x s.L) (recB 2 x [])).1.img.length c15, .slice A16 (laidS s (cutL x s.L) (recB 2 x [])).1.L.length c16] (0, 0) _ rfl (HM16.out.mem List.mem_cons_self) Try.underlying29 rfl (by kernel_rfl)) rfl ?_
      have hs15 : w14.heap.size ≤ w15.heap.size := HB15.out.size
      have hs16 : w15.heap.size ≤ w16.heap.size := HKP.out.1
      have hl6 := HL6.out
      have hz14 := HZ14.out
      refine ⟨_, _, rfl, (HY.out.bound.kept HKP.out (fun k q e => ?_)).mono (fun k q => ?_), (HW.out.kept HKP.out (fun k q e => ?_)).mono (fun k q => ⟨by omega, by omega⟩), HM16.out.below⟩
      · subst e
        rcases q.1 with (q1 | q1) | q1
        · omega
        · omega
        · omega
      · have q2 : k < w15.heap.size := q.2
        rcases q.1 with (q1 | q1) | q1
        · exact .inl q1.1
        · exact .inr ⟨by omega, by omega⟩
        · exact .inr ⟨by omega, by omega⟩
      · omega
end
end Go.Proofs.Ytfakdphkklclgaa.P

end

section
namespace Go.Proofs.Ytfakdphkklclgaa.P
open Go.RowKit Go.Proofs.YtfakdphkklclgaaW.PrintWords Go.Proofs.YtfakdphkklclgaaW.PrintLast Go.Proofs.YtfakdphkklclgaaW.PrintMore
attribute [local go_sem] max2_int min2_int max_two min_two max_three min_three max_four min_four
set_option linter.unusedVariables false
set_option linter.unusedSimpArgs false
section
open Go.ChangeMaps Go.MapKept
set_option linter.unusedVariables false
theorem pos_lt {L : List S101} (h : Srt L) {x : ByteArray} {b : List Int} (hl : lkL L x = some b) : posL x L < L.length ∧ ∀ z, L.getD (posL x L) z = ⟨x, b⟩ := by
  induction L with
  | nil => cases hl
  | cons k l ih =>
    unfold posL
    by_cases c1 : lessB k.f0 x = true
    · have hne : k.f0 ≠ x := fun e => by rw [e, lessB_irr] at c1; cases c1
      unfold lkL at hl
      rw [if_neg hne] at hl
      obtain ⟨h1, h2⟩ := ih (List.pairwise_cons.1 h).2 hl
      unfold posL at h1 h2
      rw [List.takeWhile_cons_of_pos (p := fun k : S101 => lessB k.f0 x) (a := k) c1]
      exact ⟨by simpa using Nat.succ_lt_succ h1, fun z => by simpa using h2 z⟩
    · rw [List.takeWhile_cons_of_neg (p := fun k : S101 => lessB k.f0 x) (a := k) c1]
      by_cases c2 : k.f0 = x
      · unfold lkL at hl
        rw [if_pos c2] at hl
        cases hl
        exact ⟨by simp, fun z => by simp [← c2]⟩
      · rw [srt_head h c1 c2] at hl
        cases hl
set_option maxHeartbeats 12800000 in
set_option maxRecDepth 100000 in
theorem Get_d {Z : Nat → Prop} {xv : Value} {s : Sto} {w : World} (KF : Nat) (nm : ByteArray → Bool) (hK : StFacts KF nm) (hg : Good nm s) (h : DAt Z xv s w) (x : ByteArray) : Calls Try.prog 31 #[xv, .string x] w fun e w' => ∃ A c, e = .returned (.tuple #[.slice A (getS nm s x).1.length c, .int .i64 (getS nm s x).2]) ∧ (getS nm s x).1.length ≤ c ∧ Kd.C (Kd.int .u8) w' A (getS nm s x).1.length (getS nm s x).1 ∧ Below w.heap.size w w' := by
  have HX := Aside0.mk h
  obtain ⟨A0, c0, B1, d1, rfl, g1, g2, g3, g4⟩ := h
  have HI := Aside0.mk (And.intro g1 (And.intro g2 (And.intro g3 g4)))
  have HK := Aside0.mk hK
  have HG := Aside0.mk hg
  have HN := Aside0.mk (hK.rd.rname x)
  clear g1 g2 g3 g4 hK hg
  unfold getS
  by_cases c1 : nm x = false
  · rw [c1] at HN
    rw [if_pos c1]
    go_enter Try.func31, Try.ntmps31
    go_wp2_with (first | ((with_reducible refine gate_dst (N := 2) rfl ?_); refine rw_box rfl 29 rfl (cs := #[.slice A0 s.img.length c0, .slice B1 s.L.length d1]) rfl (Rws.nil w) ?_; intro b3 w1 hX; have HM2 := Aside0.mk hX; clear hX))
    refine (provisoref01_IsName.calls KF x _ _ HN.out).mono ?_
    rintro e w3 ⟨rfl, k1, rfl⟩
    have HM3 := Aside0.mk (HM2.out.drewN k1)
    have hc1 := blk_cell (HM3.out.mem List.mem_cons_self) 1
    go_wp2_with fail
    go_ret2
    exact ⟨none, 0, rfl, Nat.le_refl _, Kd.C_nil _ _, HM3.out.below⟩
  · rw [if_neg c1]
    rw [Bool.not_eq_false] at c1
    rw [c1] at HN
    cases c3 : lkL s.L x with
    | none =>
      have c3b : (lkL s.L x).isSome = false := by rw [c3]; rfl
      go_enter Try.func31, Try.ntmps31
      go_wp2_with (first | ((with_reducible refine gate_dst (N := 2) rfl ?_); refine rw_box rfl 29 rfl (cs := #[.slice A0 s.img.length c0, .slice B1 s.L.length d1]) rfl (Rws.nil w) ?_; intro b3 w1 hX; have HM2 := Aside0.mk hX; clear hX))
      refine (provisoref01_IsName.calls KF x _ _ HN.out).mono ?_
      rintro e w3 ⟨rfl, k1, rfl⟩
      have HM3 := Aside0.mk (HM2.out.drewN k1)
      have hc1 := blk_cell (HM3.out.mem List.mem_cons_self) 1
      go_wp2_with fail
      refine (provisoref21_place.calls KF B1 d1 s.L x _ _ _ (Kd.F_now (Kd.F_below HI.out.2.2.2 HM3.out.below)) HI.out.2.1 (HK.out.place s.L x (by have := HG.out.len; omega) HG.out.srt)).mono ?_
      rintro e w4 ⟨rfl, k2, rfl⟩
      have HM4 := Aside0.mk (HM2.out.drewN (k1 + k2))
      clear hc1
      have hc1 := blk_cell (HM4.out.mem List.mem_cons_self) 1
      go_wp2_with fail
      go_ret2
      exact ⟨none, 0, rfl, Nat.le_refl _, Kd.C_nil _ _, HM4.out.below⟩
    | some b =>
      have c3b : (lkL s.L x).isSome = true := by rw [c3]; rfl
      have hpos := pos_lt HG.out.srt c3
      go_enter Try.func31, Try.ntmps31
      go_wp2_with (first | ((with_reducible refine gate_dst (N := 2) rfl ?_); refine rw_box rfl 29 rfl (cs := #[.slice A0 s.img.length c0, .slice B1 s.L.length d1]) rfl (Rws.nil w) ?_; intro b3 w1 hX; have HM2 := Aside0.mk hX; clear hX))
      refine (provisoref01_IsName.calls KF x _ _ HN.out).mono ?_
      rintro e w3 ⟨rfl, k1, rfl⟩
      have HM3 := Aside0.mk (HM2.out.drewN k1)
      have hc1 := blk_cell (HM3.out.mem List.mem_cons_self) 1
      go_wp2_with fail
      refine (provisoref21_place.calls KF B1 d1 s.L x _ _ _ (Kd.F_now (Kd.F_below HI.out.2.2.2 HM3.out.below)) HI.out.2.1 (HK.out.place s.L x (by have := HG.out.len; omega) HG.out.srt)).mono ?_
      rintro e w4 ⟨rfl, k2, rfl⟩
      have HM4 := Aside0.mk (HM2.out.drewN (k1 + k2))
      clear hc1
      have hc1 := blk_cell (HM4.out.mem List.mem_cons_self) 1
      have hCL := Kd.F_now (Kd.F_below HI.out.2.2.2 HM4.out.below)
      obtain ⟨ad, A2, c2, eA, q1, q2, q3, q4⟩ := at_T101 hCL (posL x s.L : Int) (by omega) (by omega)
      have hrd : rd_T101 s.L (posL x s.L : Int) = ⟨x, b⟩ := by unfold rd_T101; rw [Int.toNat_natCast]; exact hpos.2 _
      rw [hrd] at q1 q2 q3 q4
      rw [Int.toNat_natCast] at q1 q2
      simp only at q2 q3 q4
      subst eA
      have p5 : (0 ≤ (posL x s.L : Int)) = True := eq_true (by omega)
      have p6 : ((posL x s.L : Int) < (s.L.length : Int)) = True := eq_true (by omega)
      have p7 := hpos.1
      have HQ3 := Aside0.mk q3
      have HQ4 := Aside0.mk q4
      clear q1 q3 q4 hCL hrd hpos
      go_wp2_with fail
      go_ret2
      exact ⟨A2, c2, rfl, HQ3.out, HQ4.out, HM4.out.below⟩
end
end Go.Proofs.Ytfakdphkklclgaa.P

end

section
namespace Go.Proofs.Ytfakdphkklclgaa.P
open Go.RowKit Go.Proofs.YtfakdphkklclgaaW.PrintWords Go.Proofs.YtfakdphkklclgaaW.PrintLast Go.Proofs.YtfakdphkklclgaaW.PrintMore
attribute [local go_sem] max2_int min2_int max_two min_two max_three min_three max_four min_four
set_option linter.unusedVariables false
set_option linter.unusedSimpArgs false
section
open Go.ChangeMaps Go.MapKept
set_option linter.unusedVariables false
def packI (L : List S101) (i : Nat) : List Int := (L.take i).flatMap fun k => recB 1 k.f0 k.f1
theorem packI_succ (L : List S101) (i : Nat) (h : i < L.length) : packI L (i + 1) = packI L i ++ recB 1 L[i].f0 L[i].f1 := by
  unfold packI
  rw [List.take_succ_eq_append_getElem h, List.flatMap_append]
  simp
theorem rec1_len (x : ByteArray) (b : List Int) : (recB 1 x b).length = x.size + 4 + b.length := by unfold recB; simp [bytes_len]; omega
theorem packI_len {KF : Nat} {nm : ByteArray → Bool} (hK : StFacts KF nm) {s : Sto} (hg : Good nm s) (i : Nat) (hi : i ≤ s.L.length) : (packI s.L i).length ≤ i * 4124 := by
  induction i with
  | zero => simp [packI]
  | succ i ih =>
    rw [packI_succ s.L i (by omega), List.length_append, rec1_len]
    have h1 := (hK.siz _ (hg.nam _ (List.getElem_mem (show i < s.L.length by omega)))).2
    have h2 := (hg.val _ (List.getElem_mem (show i < s.L.length by omega))).1
    have := ih (by omega)
    omega
theorem Rws.first {w0 W : World} {p : Nat × TypeId × Array Value} {l : List (Nat × TypeId × Array Value)} (h : Rws w0 (p :: l) W) : Rws w0 [p] W := ⟨fun q hq => h.lies q (by rw [List.mem_singleton.1 hq]; exact List.mem_cons_self), by simp, h.below⟩
set_option maxHeartbeats 12800000 in
set_option maxRecDepth 100000 in
theorem Pack_d {Z : Nat → Prop} {xv : Value} {s : Sto} {w : World} (KF : Nat) (nm : ByteArray → Bool) (hK : StFacts KF nm) (hg : Good nm s) (h : DAt Z xv s w) : Calls Try.prog 32 #[xv] w fun e w' => ∃ y, e = .returned y ∧ DAt (fun k => Z k ∨ (w.heap.size ≤ k ∧ k < w'.heap.size)) y ⟨packI s.L s.L.length, s.L⟩ w' ∧ Below w.heap.size w w' := by
  have HX := Aside0.mk h
  obtain ⟨A0, c0, B1, d1, rfl, g1, g2, g3, g4⟩ := h
  have HI := Aside0.mk (And.intro g1 (And.intro g2 (And.intro g3 g4)))
  have HK := Aside0.mk hK
  have HG := Aside0.mk hg
  clear g1 g2 g3 g4 hK hg
  have hu101 := Try.underlying101
  go_enter Try.func32, Try.ntmps32
  go_wp2_with (first | ((with_reducible refine gate_dst (N := 1) rfl ?_); refine rw_box rfl 29 rfl (cs := #[.slice A0 s.img.length c0, .slice B1 s.L.length d1]) rfl (Rws.nil w) ?_; intro b1 w1 hX; have HM := Aside0.mk hX; clear hX) | ((with_reducible refine gate_dst (N := 2) rfl ?_); refine rw_allocS rfl 29 rfl (cs := #[.slice none 0 0, .slice none 0 0]) (by kernel_rfl) HM.out ?_; intro b2 w2 hg6 hM hb6; have HM2 := Aside0.mk hM; have hc1 := blk_cell (hM.mem (List.mem_cons_of_mem _ List.mem_cons_self)) 1; clear hg6 hM hb6) | ((with_reducible refine gate_dst (N := 3) rfl ?_); refine rw_allocS rfl 29 rfl (cs := #[.slice none 0 0, .slice none 0 0]) (by kernel_rfl) HM2.out ?_; intro b3 w3 hg6 hM hb6; have HM3 := Aside0.mk hM; clear hc1; have hc1 := blk_cell (hM.mem (List.mem_cons_of_mem _ (List.mem_cons_of_mem _ List.mem_cons_self))) 1; clear hg6 hM hb6) | (refine rw_storeS rfl 29 rfl rfl (cs' := #[.slice none 0 0, .slice B1 s.L.length d1]) rfl [] HM3.out (by kernel_rfl) rfl (by show _ = _; simp [Value.oneCell']) ?_; intro w4 hM hk3; have HM4 := Aside0.mk hM; clear hM hk3 hc1; have hc1 := blk_cell (HM4.out.mem (List.mem_cons_of_mem _ (List.mem_cons_of_mem _ List.mem_cons_self))) 1))
  have HI4 := Aside0.mk (show Kd.R (Kd.int .u8) 5 w4 w.heap.size (fun _ => True) (.slice none (packI s.L 0).length 0) (packI s.L 0) from Kd.R_nil _ _ _ _ _)
  go_loopw [12] (fun v12 wr => ∃ (i : Nat) (Ai : Option Addr) (ci : Nat), v12 = .int .i64 (i : Int) ∧ i ≤ s.L.length ∧ Aside0 (Rws w [(b3, 29, #[.slice Ai (packI s.L i).length ci, .slice B1 s.L.length d1]), (b2, 29, #[.slice none 0 0, .slice none 0 0]), (b1, 29, #[.slice A0 s.img.length c0, .slice B1 s.L.length d1])] wr) ∧ Aside0 (Kd.R (Kd.int .u8) 5 wr w.heap.size (fun _ => True) (.slice Ai (packI s.L i).length ci) (packI s.L i))) (fun v12 _ => ((s.L.length : Int) - intOf v12).toNat)
  case atStart => exact ⟨0, none, 0, rfl, Nat.zero_le _, HM4, HI4⟩
  case round =>
    clear HM4 HI4 hc1 HM HM2 HM3
    obtain ⟨i, Ai, ci, rfl, hi, HMR, HRI0⟩ := hrel
    by_cases c2_ : i < s.L.length
    · have c2b : decide ((i : Int) < (s.L.length : Int)) = true := decide_eq_true (by omega)
      have c2c : decide (i < s.L.length) = true := decide_eq_true c2_
      have p5 : (0 ≤ (i : Int)) = True := eq_true (by omega)
      have p6 : ((i : Int) < (s.L.length : Int)) = True := eq_true (by omega)
      have hsl := HG.out.len
      have HRW : Aside0 (wrap64 ((i : Int) + 1) = ((i + 1 : Nat) : Int)) := ⟨by unfold wrap64; omega⟩
      have hFL := Kd.F_below (Kd.F_bound HI.out.2.2.2) HMR.out.below
      obtain ⟨ad, cs, eA, _, hFK, hcc, _⟩ := Kd.F_get hFL z101 (i : Int) (by omega) (by omega)
      obtain ⟨A2, c2, e2, q3, q4⟩ := k101_openF hFK
      subst e2
      have hrd : s.L.getD (i : Int).toNat z101 = s.L[i] := by rw [Int.toNat_natCast, List.getD_eq_getElem?_getD, List.getElem?_eq_getElem c2_]; rfl
      rw [hrd] at q3 q4 hcc
      rw [Int.toNat_natCast] at hcc
      have q1 : wr.cell? (ad.add (i * 2)) = some (.string s.L[i].f0) := hcc 0 _ rfl
      have q2 : wr.cell? ⟨(ad.add (i * 2)).block, (ad.add (i * 2)).off + 1, none⟩ = some (.slice A2 s.L[i].f1.length c2) := by
        have h9 := hcc 1 _ rfl
        rw [show k101.sz = 2 from rfl, ← Addr.add_add] at h9
        exact h9
      have HPS := Aside0.mk (packI_succ s.L i c2_)
      have HPL := Aside0.mk (Nat.le_trans (packI_len HK.out HG.out i hi) (show i * 4124 ≤ 100000 by omega))
      have hmem := List.getElem_mem c2_
      have HS24 := Aside0.mk (HK.out.siz _ (HG.out.nam _ hmem)).2
      have HS46 := Aside0.mk (HG.out.val _ hmem).1
      obtain ⟨x, hx⟩ : ∃ x, x = s.L[i].f0 := ⟨_, rfl⟩
      obtain ⟨b, hb⟩ : ∃ b, b = s.L[i].f1 := ⟨_, rfl⟩
      rw [← hx] at q1 HPS HS24
      rw [← hb] at q2 q3 q4 HPS HS46
      subst eA
      have HCB0 := Aside0.mk q4
      clear q3 q4 hFL hFK hcc hrd hmem hx hb
      go_wp2_with (first | ((with_reducible refine gate_dst (N := 5) rfl ?_); refine rw_allocS rfl 101 rfl (cs := #[.string ⟨#[]⟩, .slice none 0 0]) (by kernel_rfl) HMR.out ?_; intro b5 w6 hg6 hM hb6; have HM6 := Aside0.mk hM; have HB6 := Aside0.mk hb6; clear hg6 hM hb6) | (refine rw_storeS rfl 101 rfl rfl (cs' := #[.string x, .slice A2 b.length c2]) rfl [] HM6.out (by kernel_rfl) rfl (by show _ = _; simp [Value.oneCell']) ?_; intro w7 hM hk3; have HM7 := Aside0.mk hM; have HK7 := Aside0.mk hk3; clear hM hk3))
      have HCB := Aside0.mk (show Kd.C (Kd.int .u8) w7 A2 b.length b from Kd.F_now (Kd.F_step HCB0.out (fun k q _ => (HM7.out.below.block k q.2).trans (HMR.out.below.block k q.2).symm)))
      replace HRI0 := Aside0.mk (Kd.R_mono (Kd.R_kept (Kd.R_tight2 rfl (Kd.R_below HRI0.out HB6.out)) HK7.out (fun k q e => by
        subst e
        obtain ⟨cs, h7⟩ := Kd.R_typed (Kd.R_below HRI0.out HB6.out) _ q.1.symm
        exact typ_nst (HM6.out.mem List.mem_cons_self) h7 (show 101 ≠ 5 by decide) rfl)) (fun _ _ => trivial))
      have HMD := Aside0.mk (HM7.out.drewN 1)
      (try simp only [Act.put, List.setIfInBounds_toArray, List.set_cons_zero, List.set_cons_succ])
      refine wp_region_held_drew (S := fun w' => Rws w [(b5, 101, #[.string x, .slice A2 b.length c2])] w') (by kernel_rfl) ?_ (fun hHeld => ?_)
      · exact Rws.first HMD.out
      have HM10 := Aside0.mk (show Rws w _ (World.drew _) from HMD.out)
      replace HRI0 := Aside0.mk (show Kd.R (Kd.int .u8) 5 (World.drew _) w.heap.size (fun _ => True) _ _ from Kd.R_drewN HRI0.out 1)
      replace HCB := Aside0.mk (show Kd.C (Kd.int .u8) (World.drew _) _ _ _ from Kd.C_drewN HCB.out 1)
      clear HMD
      generalize World.drew _ = w10 at HM10 HRI0 HCB hHeld ⊢
      have HRI := HRI0
      have HBW10 := Aside0.mk (Below.refl w10.heap.size w10)
      refine take_dst (i := 0) (v := ?_) 16 rfl rfl (by kernel_rfl) (by kernel_rfl) (by kernel_rfl) (fun _ _ _ h => h) (Or.inl ⟨by rfl, ?_⟩) (by assumption) ?_
      rotate_left
      · intro w hSw
        go_simp
        try with_reducible rfl
      (try simp only [Act.put, List.setIfInBounds_toArray, List.set_cons_zero, List.set_cons_succ])
      refine take_dst (i := 2) (v := ?_) 18 rfl rfl (by kernel_rfl) (by kernel_rfl) (by kernel_rfl) (fun _ _ _ h => h) (Or.inl ⟨by rfl, ?_⟩) (by assumption) ?_
      rotate_left
      · intro w hSw
        go_simp
        try with_reducible rfl
      (try simp only [Act.put, List.setIfInBounds_toArray, List.set_cons_zero, List.set_cons_succ])
      refine take_dst (i := 3) (v := ?_) 19 rfl rfl (by kernel_rfl) (by kernel_rfl) (by kernel_rfl) (fun _ _ _ h => h) (Or.inl ⟨by rfl, ?_⟩) (by assumption) ?_
      rotate_left
      · intro w hSw
        have q0 := blk_cell (hSw.mem List.mem_cons_self) 0
        have q1 := blk_cell (hSw.mem List.mem_cons_self) 1
        go_simp
        try with_reducible rfl
      (try simp only [Act.put, List.setIfInBounds_toArray, List.set_cons_zero, List.set_cons_succ])
      refine take_dst (i := 4) (v := ?_) 20 rfl rfl (by kernel_rfl) (by kernel_rfl) (by kernel_rfl) (fun _ _ _ h => h) (Or.inl ⟨by rfl, ?_⟩) (by assumption) ?_
      rotate_left
      · intro w hSw
        go_simp
        try with_reducible rfl
      (try simp only [Act.put, List.setIfInBounds_toArray, List.set_cons_zero, List.set_cons_succ])
      refine take_dst (i := 5) (v := ?_) 21 rfl rfl (by kernel_rfl) (by kernel_rfl) (by kernel_rfl) (fun _ _ _ h => h) (Or.inl ⟨by rfl, ?_⟩) (by assumption) ?_
      rotate_left
      · intro w hSw
        have q0 := blk_cell (hSw.mem List.mem_cons_self) 0
        have q1 := blk_cell (hSw.mem List.mem_cons_self) 1
        go_simp
        try with_reducible rfl
      (try simp only [Act.put, List.setIfInBounds_toArray, List.set_cons_zero, List.set_cons_succ])
      refine wpAnyH_ready (rs := [1, 6]) (by kernel_rfl) (by simp) ?_
      refine AllReadyH.cons rfl (fun K hK => ?_) (AllReadyH.cons rfl (fun K hK => ?_) (AllReadyH.nil))
      · have hc9 := blk_cell (HM10.out.mem (List.mem_cons_of_mem _ List.mem_cons_self)) 0
        go_simp
        refine hK.out _ _ (Rws.first HM10.out) (fun hHeld => ?_)
        (try simp only [Act.put, List.setIfInBounds_toArray, List.set_cons_zero, List.set_cons_succ])
        clear hK K hc9
        refine wpAnyH_ready (rs := [6]) (by kernel_rfl) (by simp) ?_
        refine AllReadyH.cons rfl (fun K hK => ?_) (AllReadyH.nil)
        go_simp
        refine (record_d 1 (.inl rfl) x HS24.out b HS46.out A2 c2 w10 (Kd.C_below HCB.out HBW10.out)).mono ?_
        rintro e w11 ⟨vr, rfl, hR, hb⟩
        obtain ⟨Ar, cr, er⟩ := Kd.R_slice hR
        subst er
        have HRR := Aside0.mk hR
        have HM11 := Aside0.mk (HM10.out.step hb)
        have HRI := Aside0.mk (Kd.R_below HRI0.out (below_step HBW10.out hb))
        have HBW11 := Aside0.mk (below_step HBW10.out hb)
        have HW10 := Aside0.mk (show w10.heap.size ≤ w10.heap.size from Nat.le_refl _)
        clear hR hb
        go_simp
        refine hK.out _ _ (Rws.first HM11.out) (fun hHeld => ?_)
        (try simp only [Act.put, List.setIfInBounds_toArray, List.set_cons_zero, List.set_cons_succ])
        clear hK K
        refine wpAnyH_ready (rs := [7]) (by kernel_rfl) (by simp) ?_
        refine AllReadyH.cons rfl (fun K hK => ?_) (AllReadyH.nil)
        refine Kd.R_append_rows_step (Kd.int .u8) (w0 := w11) w.heap.size rfl (.tmp 17) (.tmp 22) 23 5 (.int .u8 0) 1 rfl Try.underlying23 info5 rfl (by decide) (by omega) (.slice Ai (packI s.L i).length ci) (packI s.L i) (recB 1 x b) Ar (recB 1 x b).length cr (fun _ => True) (fun _ => False) rfl rfl HRI.out (Kd.R_reads' HRR.out).2.2 (fun _ _ h => h) (fun _ h => h.elim) (fun _ _ => trivial) (Below.refl _ _) HM11.out.below.size (by rw [rec1_len]; have := HPL.out; have := HS24.out; have := HS46.out; omega) ?_
        intro v12 w12 ho hb hg hat
        have HM12 := Aside0.mk (HM11.out.grownT HRI.out hg (by intro p hp; rcases List.mem_cons.1 hp with rfl | hp; exact (show 101 ≠ 5 by decide); rcases List.mem_cons.1 hp with rfl | hp; exact (show 29 ≠ 5 by decide); rcases List.mem_cons.1 hp with rfl | hp; exact (show 29 ≠ 5 by decide); rw [List.mem_singleton.1 hp]; exact (show 29 ≠ 5 by decide)) (HM11.out.below.trans hb))
        obtain ⟨A12, c12, e12⟩ := Kd.R_slice ho
        rw [← HPS.out] at e12 ho
        subst e12
        have HRN := Aside0.mk ho
        clear ho hb hg hat
        go_simp
        refine hK.out _ _ (Rws.first HM12.out) (fun hHeld => ?_)
        (try simp only [Act.put, List.setIfInBounds_toArray, List.set_cons_zero, List.set_cons_succ])
        clear hK K
        refine take_dst (i := 8) (v := ?_) 24 rfl rfl (by kernel_rfl) (by kernel_rfl) (by kernel_rfl) (fun _ _ _ h => h) (Or.inl ⟨by rfl, ?_⟩) (by assumption) ?_
        rotate_left
        · intro w hSw
          go_simp
          try with_reducible rfl
        (try simp only [Act.put, List.setIfInBounds_toArray, List.set_cons_zero, List.set_cons_succ])
        refine wpAnyH_ready (rs := [9]) (by kernel_rfl) (by simp) ?_
        refine AllReadyH.cons rfl (fun K hK => ?_) (AllReadyH.nil)
        refine rw_cell_wp 23 rfl (g := b3) (i := 0) rfl (u := .slice A12 (packI s.L (i + 1)).length c12) rfl rfl [(b5, 101, #[.string x, .slice A2 b.length c2])] HM12.out (by show (0 : Nat) < 2; decide) (by kernel_rfl) ?_
        intro w13 hM hkp
        have HM13 := Aside0.mk hM.tail
        have HRN2 := Aside0.mk (Kd.R_kept (Kd.R_tight2 rfl HRN.out) hkp (fun k q e => by
          subst e
          obtain ⟨cs, h7⟩ := Kd.R_typed HRN.out _ q.1.symm
          exact typ_nst (HM12.out.mem (List.mem_cons_of_mem _ List.mem_cons_self)) h7 (show 29 ≠ 5 by decide) rfl))
        refine hK.out _ _ (Rws.first hM) (fun hHeld => ?_)
        (try simp only [Act.put, List.setIfInBounds_toArray, List.set_cons_zero, List.set_cons_succ])
        clear hK K hM hkp
        refine wpAnyH_done (by kernel_rfl) ?_ _
        go_wp2_with fail
        go_roundw
        case rel => exact ⟨i + 1, A12, c12, by have e9 := HRW.out; first | (rw [e9]; done) | (simp; done), c2_, HM13, ⟨Kd.R_mono HRN2.out (fun _ _ => trivial)⟩⟩
        case measure => have e9 := HRW.out; first | omega | (simp only [intOf] at *; omega)
      · go_simp
        refine (record_d 1 (.inl rfl) x HS24.out b HS46.out A2 c2 w10 (Kd.C_below HCB.out HBW10.out)).mono ?_
        rintro e w11 ⟨vr, rfl, hR, hb⟩
        obtain ⟨Ar, cr, er⟩ := Kd.R_slice hR
        subst er
        have HRR := Aside0.mk hR
        have HM11 := Aside0.mk (HM10.out.step hb)
        have HRI := Aside0.mk (Kd.R_below HRI0.out (below_step HBW10.out hb))
        have HBW11 := Aside0.mk (below_step HBW10.out hb)
        have HW10 := Aside0.mk (show w10.heap.size ≤ w10.heap.size from Nat.le_refl _)
        clear hR hb
        go_simp
        refine hK.out _ _ (Rws.first HM11.out) (fun hHeld => ?_)
        (try simp only [Act.put, List.setIfInBounds_toArray, List.set_cons_zero, List.set_cons_succ])
        clear hK K
        refine wpAnyH_ready (rs := [1]) (by kernel_rfl) (by simp) ?_
        refine AllReadyH.cons rfl (fun K hK => ?_) (AllReadyH.nil)
        have hc9 := blk_cell (HM11.out.mem (List.mem_cons_of_mem _ List.mem_cons_self)) 0
        go_simp
        refine hK.out _ _ (Rws.first HM11.out) (fun hHeld => ?_)
        (try simp only [Act.put, List.setIfInBounds_toArray, List.set_cons_zero, List.set_cons_succ])
        clear hK K hc9
        refine wpAnyH_ready (rs := [7]) (by kernel_rfl) (by simp) ?_
        refine AllReadyH.cons rfl (fun K hK => ?_) (AllReadyH.nil)
        refine Kd.R_append_rows_step (Kd.int .u8) (w0 := w11) w.heap.size rfl (.tmp 17) (.tmp 22) 23 5 (.int .u8 0) 1 rfl Try.underlying23 info5 rfl (by decide) (by omega) (.slice Ai (packI s.L i).length ci) (packI s.L i) (recB 1 x b) Ar (recB 1 x b).length cr (fun _ => True) (fun _ => False) rfl rfl HRI.out (Kd.R_reads' HRR.out).2.2 (fun _ _ h => h) (fun _ h => h.elim) (fun _ _ => trivial) (Below.refl _ _) HM11.out.below.size (by rw [rec1_len]; have := HPL.out; have := HS24.out; have := HS46.out; omega) ?_
        intro v12 w12 ho hb hg hat
        have HM12 := Aside0.mk (HM11.out.grownT HRI.out hg (by intro p hp; rcases List.mem_cons.1 hp with rfl | hp; exact (show 101 ≠ 5 by decide); rcases List.mem_cons.1 hp with rfl | hp; exact (show 29 ≠ 5 by decide); rcases List.mem_cons.1 hp with rfl | hp; exact (show 29 ≠ 5 by decide); rw [List.mem_singleton.1 hp]; exact (show 29 ≠ 5 by decide)) (HM11.out.below.trans hb))
        obtain ⟨A12, c12, e12⟩ := Kd.R_slice ho
        rw [← HPS.out] at e12 ho
        subst e12
        have HRN := Aside0.mk ho
        clear ho hb hg hat
        go_simp
        refine hK.out _ _ (Rws.first HM12.out) (fun hHeld => ?_)
        (try simp only [Act.put, List.setIfInBounds_toArray, List.set_cons_zero, List.set_cons_succ])
        clear hK K
        refine take_dst (i := 8) (v := ?_) 24 rfl rfl (by kernel_rfl) (by kernel_rfl) (by kernel_rfl) (fun _ _ _ h => h) (Or.inl ⟨by rfl, ?_⟩) (by assumption) ?_
        rotate_left
        · intro w hSw
          go_simp
          try with_reducible rfl
        (try simp only [Act.put, List.setIfInBounds_toArray, List.set_cons_zero, List.set_cons_succ])
        refine wpAnyH_ready (rs := [9]) (by kernel_rfl) (by simp) ?_
        refine AllReadyH.cons rfl (fun K hK => ?_) (AllReadyH.nil)
        refine rw_cell_wp 23 rfl (g := b3) (i := 0) rfl (u := .slice A12 (packI s.L (i + 1)).length c12) rfl rfl [(b5, 101, #[.string x, .slice A2 b.length c2])] HM12.out (by show (0 : Nat) < 2; decide) (by kernel_rfl) ?_
        intro w13 hM hkp
        have HM13 := Aside0.mk hM.tail
        have HRN2 := Aside0.mk (Kd.R_kept (Kd.R_tight2 rfl HRN.out) hkp (fun k q e => by
          subst e
          obtain ⟨cs, h7⟩ := Kd.R_typed HRN.out _ q.1.symm
          exact typ_nst (HM12.out.mem (List.mem_cons_of_mem _ List.mem_cons_self)) h7 (show 29 ≠ 5 by decide) rfl))
        refine hK.out _ _ (Rws.first hM) (fun hHeld => ?_)
        (try simp only [Act.put, List.setIfInBounds_toArray, List.set_cons_zero, List.set_cons_succ])
        clear hK K hM hkp
        refine wpAnyH_done (by kernel_rfl) ?_ _
        go_wp2_with fail
        go_roundw
        case rel => exact ⟨i + 1, A12, c12, by have e9 := HRW.out; first | (rw [e9]; done) | (simp; done), c2_, HM13, ⟨Kd.R_mono HRN2.out (fun _ _ => trivial)⟩⟩
        case measure => have e9 := HRW.out; first | omega | (simp only [intOf] at *; omega)
    · have c2b : decide ((i : Int) < (s.L.length : Int)) = false := decide_eq_false (by omega)
      have c2c : decide (i < s.L.length) = false := decide_eq_false c2_
      have hie : i = s.L.length := by omega
      rw [hie] at HMR HRI0
      clear hie hi c2_
      go_wp2_with (first | ((with_reducible refine gate_dst (N := 26) rfl ?_); refine rw_load rfl 29 rfl rfl HMR.out List.mem_cons_self _ Try.underlying29 rfl (by kernel_rfl) ?_) | (refine rw_storeS rfl 29 rfl rfl (cs' := #[.slice Ai (packI s.L s.L.length).length ci, .slice B1 s.L.length d1]) rfl [_] HMR.out (by kernel_rfl) rfl (by show _ = _; simp [Value.oneCell']) ?_; intro w9 hM hk3; have HM9 := Aside0.mk hM; have HK9 := Aside0.mk hk3; clear hM hk3))
      refine bodyPost_ret (results_single rfl (.cell b2 29 #[.slice Ai (packI s.L s.L.length).length ci, .slice B1 s.L.length d1] (0, 0) _ rfl (HM9.out.mem (List.mem_cons_of_mem _ List.mem_cons_self)) Try.underlying29 rfl (by kernel_rfl) .nil)) rfl ?_
      have hR := Kd.R_kept (Kd.R_tight2 rfl HRI0.out) HK9.out (fun k q e => by
        subst e
        obtain ⟨cs, h7⟩ := Kd.R_typed HRI0.out _ q.1.symm
        exact typ_nst (HMR.out.mem (List.mem_cons_of_mem _ List.mem_cons_self)) h7 (show 29 ≠ 5 by decide) rfl)
      refine ⟨_, rfl, ⟨Ai, ci, B1, d1, rfl, (Kd.R_reads' hR).2.1, HI.out.2.1, ?_, Kd.F_mono (Kd.F_below HI.out.2.2.2 HM9.out.below) (fun k q => .inl q)⟩, HM9.out.below⟩
      exact Kd.F_mono (Kd.R_F (Kd.R_bound hR)) (fun k q => .inr ⟨q.2.1, q.2.2.1⟩)
end
end Go.Proofs.Ytfakdphkklclgaa.P

end

section
namespace Go.Proofs.Ytfakdphkklclgaa.P
open Go.RowKit Go.Proofs.YtfakdphkklclgaaW.PrintWords Go.Proofs.YtfakdphkklclgaaW.PrintLast Go.Proofs.YtfakdphkklclgaaW.PrintMore
attribute [local go_sem] max2_int min2_int max_two min_two max_three min_three max_four min_four
set_option linter.unusedVariables false
set_option linter.unusedSimpArgs false
section
open Go.ChangeMaps Go.MapKept
set_option linter.unusedVariables false
theorem name_cell {W : World} {base gA n c : Nat} {ok : Nat → Prop} {L : List S101} (h : Kd.R Kd.string 9 W base ok (.slice (some ⟨gA, 0, none⟩) n c) (L.map (·.f0))) (i : Nat) (hi : i < L.length) : W.cell? ⟨gA, i, none⟩ = some (.string L[i].f0) := by
  have hmi : (L.map (fun k => k.f0)).length = L.length := List.length_map _
  have hrdi : rdOf ByteArray.empty (L.map (fun k => k.f0)) (i : Int) = L[i].f0 := by
    simp [rdOf, List.getD_eq_getElem?_getD, hi]
  have hcell := Kd.foot_string (Kd.R_reads' h).2.2 (i : Int) (by omega) (by rw [hmi]; omega)
  rw [Int.toNat_natCast, hrdi] at hcell
  rcases Nat.eq_zero_or_pos i with e | e
  · subst e; simpa [Addr.add] using hcell
  · simpa [Addr.add, Nat.pos_iff_ne_zero.1 e] using hcell
set_option maxHeartbeats 12800000 in
set_option maxRecDepth 100000 in
theorem alike_st {base g : Nat} {F Z : Nat → Prop} {xv : Value} {s : Sto} {w : World} (KF : Nat) (nm : ByteArray → Bool) (hK : StFacts KF nm) (hg : Good nm s) (h : SAt base F g s w) (hd : DAt Z xv s w) : Calls Try.prog 22 #[.pointer (some ⟨g, 0, none⟩), xv] w fun e w' => e = .returned (.bool true) ∧ Below w.heap.size w w' := by
  obtain ⟨A0, c0, B1, d1, rfl, g1, g2, g3, g4⟩ := hd
  have HI := Aside0.mk (And.intro g1 (And.intro g2 (And.intro g3 g4)))
  have HK := Aside0.mk hK
  have HG := Aside0.mk hg
  have HS := Aside0.mk h
  have hu101 := Try.underlying101
  clear g1 g2 g3 g4 hK hg h
  go_enter Try.func22, Try.ntmps22
  go_wp2_with (first | ((with_reducible refine gate_dst (N := 3) rfl ?_); refine rw_box rfl 29 rfl (cs := #[.slice A0 s.img.length c0, .slice B1 s.L.length d1]) rfl (Rws.nil w) ?_; intro b3 w1 hX; have HM := Aside0.mk hX; clear hX))
  refine (Names_st HG.out.srt HG.out.len (HS.out.step HM.out.below)).mono ?_
  rintro e w2 ⟨vn, rfl, hR, hb⟩
  obtain ⟨An, cn, en⟩ := Kd.R_slice hR
  rw [List.length_map] at en
  subst en
  have HR := Aside0.mk (Kd.R_bound hR)
  have HM2 := Aside0.mk (HM.out.step hb)
  have HZW := Aside0.mk (Nat.le_refl w2.heap.size)
  clear hR hb
  go_wp2_with fail
  have HMD := Aside0.mk (HM2.out.drewN 1)
  (try simp only [Act.put, List.setIfInBounds_toArray, List.set_cons_zero, List.set_cons_succ])
  refine wp_region_held_drew (S := fun w' => Rws w [(b3, 29, #[.slice A0 s.img.length c0, .slice B1 s.L.length d1])] w') (by kernel_rfl) ?_ (fun hHeld => ?_)
  · exact HMD.out
  have HMD2 := Aside0.mk (show Rws w [(b3, 29, #[.slice A0 s.img.length c0, .slice B1 s.L.length d1])] (World.drew _) from HMD.out)
  have HRD := Aside0.mk (show Kd.R Kd.string 9 (World.drew _) _ _ _ (s.L.map (·.f0)) from Kd.R_drewN HR.out 1)
  have HSD := Aside0.mk (HS.out.step HMD2.out.below)
  replace HZW := Aside0.mk (show w2.heap.size ≤ (World.drew _).heap.size from HZW.out)
  clear HMD
  generalize World.drew _ = wd at HMD2 HRD HSD HZW hHeld ⊢
  refine take_dst (i := 0) (v := ?_) 14 rfl rfl (by kernel_rfl) (by kernel_rfl) (by kernel_rfl) (fun _ _ _ h => h) (Or.inl ⟨by rfl, ?_⟩) (by assumption) ?_
  rotate_left
  · intro w hSw
    go_simp
    try with_reducible rfl
  (try simp only [Act.put, List.setIfInBounds_toArray, List.set_cons_zero, List.set_cons_succ])
  refine take_dst (i := 2) (v := ?_) 16 rfl rfl (by kernel_rfl) (by kernel_rfl) (by kernel_rfl) (fun _ _ _ h => h) (Or.inl ⟨by rfl, ?_⟩) (by assumption) ?_
  rotate_left
  · intro w hSw
    go_simp
    try with_reducible rfl
  (try simp only [Act.put, List.setIfInBounds_toArray, List.set_cons_zero, List.set_cons_succ])
  refine take_dst (i := 3) (v := ?_) 17 rfl rfl (by kernel_rfl) (by kernel_rfl) (by kernel_rfl) (fun _ _ _ h => h) (Or.inl ⟨by rfl, ?_⟩) (by assumption) ?_
  rotate_left
  · intro w hSw
    have q0 := blk_cell (hSw.mem List.mem_cons_self) 0
    have q1 := blk_cell (hSw.mem List.mem_cons_self) 1
    go_simp
    try with_reducible rfl
  (try simp only [Act.put, List.setIfInBounds_toArray, List.set_cons_zero, List.set_cons_succ])
  refine wpAnyH_ready (rs := [1]) (by kernel_rfl) (by simp) ?_
  refine AllReadyH.cons rfl (fun K hK => ?_) (AllReadyH.nil)
  go_simp
  refine (Image_st HG.out.img HSD.out).mono ?_
  rintro e w3 ⟨v, rfl, hR, hb⟩
  obtain ⟨Ai, ci, ei⟩ := Kd.R_slice hR
  subst ei
  have HRI := Aside0.mk hR
  have HM3 := Aside0.mk (HMD2.out.step hb)
  replace HRD := Aside0.mk (Kd.R_below HRD.out hb)
  replace HZW := Aside0.mk (show w2.heap.size ≤ w3.heap.size from Nat.le_trans HZW.out hb.size)
  clear hR hb
  go_simp
  refine hK.out _ _ HM3.out (fun hHeld => ?_)
  (try simp only [Act.put, List.setIfInBounds_toArray, List.set_cons_zero, List.set_cons_succ])
  clear hK K
  refine wpAnyH_ready (rs := [4]) (by kernel_rfl) (by simp) ?_
  refine AllReadyH.cons rfl (fun K hK => ?_) (AllReadyH.nil)
  go_simp
  refine (slices_Equal_byte_byte.calls KF Ai ci s.img A0 c0 s.img true w3 (Kd.R_reads' HRI.out).2.2 (Kd.R_reads' HRI.out).2.1 (Kd.F_now (Kd.F_below HI.out.2.2.1 HM3.out.below)) HI.out.1 (HK.out.rd.eq s.img (by have := HG.out.img; omega))).mono ?_
  rintro e w4 ⟨rfl, k4, rfl⟩
  have HM4 := Aside0.mk (HM3.out.drewN k4)
  replace HRD := Aside0.mk (Kd.R_drewN HRD.out k4)
  replace HZW := Aside0.mk (show w2.heap.size ≤ (w3.drewN k4).heap.size from HZW.out)
  generalize w3.drewN k4 = w4 at HM4 HRD HZW ⊢
  go_simp
  refine hK.out _ _ HM4.out (fun hHeld => ?_)
  (try simp only [Act.put, List.setIfInBounds_toArray, List.set_cons_zero, List.set_cons_succ])
  clear hK K
  refine take_dst (i := 5) (v := ?_) 19 rfl rfl (by kernel_rfl) (by kernel_rfl) (by kernel_rfl) (fun _ _ _ h => h) (Or.inl ⟨by rfl, ?_⟩) (by assumption) ?_
  rotate_left
  · intro w hSw
    go_simp
    try with_reducible rfl
  (try simp only [Act.put, List.setIfInBounds_toArray, List.set_cons_zero, List.set_cons_succ])
  refine take_dst (i := 6) (v := ?_) 20 rfl rfl (by kernel_rfl) (by kernel_rfl) (by kernel_rfl) (fun _ _ _ h => h) (Or.inl ⟨by rfl, ?_⟩) (by assumption) ?_
  rotate_left
  · intro w hSw
    go_simp
    try with_reducible rfl
  (try simp only [Act.put, List.setIfInBounds_toArray, List.set_cons_zero, List.set_cons_succ])
  refine take_dst (i := 7) (v := ?_) 21 rfl rfl (by kernel_rfl) (by kernel_rfl) (by kernel_rfl) (fun _ _ _ h => h) (Or.inl ⟨by rfl, ?_⟩) (by assumption) ?_
  rotate_left
  · intro w hSw
    go_simp
    try with_reducible rfl
  (try simp only [Act.put, List.setIfInBounds_toArray, List.set_cons_zero, List.set_cons_succ])
  refine take_dst (i := 8) (v := ?_) 22 rfl rfl (by kernel_rfl) (by kernel_rfl) (by kernel_rfl) (fun _ _ _ h => h) (Or.inl ⟨by rfl, ?_⟩) (by assumption) ?_
  rotate_left
  · intro w hSw
    go_simp
    try with_reducible rfl
  (try simp only [Act.put, List.setIfInBounds_toArray, List.set_cons_zero, List.set_cons_succ])
  refine take_dst (i := 9) (v := ?_) 23 rfl rfl (by kernel_rfl) (by kernel_rfl) (by kernel_rfl) (fun _ _ _ h => h) (Or.inl ⟨by rfl, ?_⟩) (by assumption) ?_
  rotate_left
  · intro w hSw
    go_simp
    try with_reducible rfl
  (try simp only [Act.put, List.setIfInBounds_toArray, List.set_cons_zero, List.set_cons_succ])
  refine take_dst (i := 10) (v := ?_) 24 rfl rfl (by kernel_rfl) (by kernel_rfl) (by kernel_rfl) (fun _ _ _ h => h) (Or.inl ⟨by rfl, ?_⟩) (by assumption) ?_
  rotate_left
  · intro w hSw
    have q0 := blk_cell (hSw.mem List.mem_cons_self) 0
    have q1 := blk_cell (hSw.mem List.mem_cons_self) 1
    go_simp
    try with_reducible rfl
  (try simp only [Act.put, List.setIfInBounds_toArray, List.set_cons_zero, List.set_cons_succ])
  refine take_dst (i := 11) (v := ?_) 25 rfl rfl (by kernel_rfl) (by kernel_rfl) (by kernel_rfl) (fun _ _ _ h => h) (Or.inl ⟨by rfl, ?_⟩) (by assumption) ?_
  rotate_left
  · intro w hSw
    go_simp
    try with_reducible rfl
  (try simp only [Act.put, List.setIfInBounds_toArray, List.set_cons_zero, List.set_cons_succ])
  refine take_dst (i := 12) (v := ?_) 26 rfl rfl (by kernel_rfl) (by kernel_rfl) (by kernel_rfl) (fun _ _ _ h => h) (Or.inl ⟨by rfl, ?_⟩) (by assumption) ?_
  rotate_left
  · intro w hSw
    go_simp
    try with_reducible rfl
  (try simp only [Act.put, List.setIfInBounds_toArray, List.set_cons_zero, List.set_cons_succ])
  refine take_dst (i := 13) (v := ?_) 27 rfl rfl (by kernel_rfl) (by kernel_rfl) (by kernel_rfl) (fun _ _ _ h => h) (Or.inl ⟨by rfl, ?_⟩) (by assumption) ?_
  rotate_left
  · intro w hSw
    go_simp
    try with_reducible rfl
  (try simp only [Act.put, List.setIfInBounds_toArray, List.set_cons_zero, List.set_cons_succ])
  refine wpAnyH_done (by kernel_rfl) ?_ _
  have hc1 := blk_cell (HM4.out.mem List.mem_cons_self) 1
  go_wp2_with fail
  clear hc1
  have HRR0 := Aside0.mk (Kd.R_mono HRD.out (ok' := fun k => k < w2.heap.size) (fun k q => q.2.2.1))
  have HZ4 := Aside0.mk (show w2.heap.size ≤ w4.heap.size from HZW.out)
  go_loopw [31] (fun v31 wr => ∃ i : Nat, v31 = .int .i64 (i : Int) ∧ i ≤ s.L.length ∧ Aside0 (Rws w [(b3, 29, #[.slice A0 s.img.length c0, .slice B1 s.L.length d1])] wr) ∧ Aside0 (Kd.R Kd.string 9 wr w1.heap.size (fun k => k < w2.heap.size) (.slice An s.L.length cn) (s.L.map (·.f0))) ∧ Aside0 (w2.heap.size ≤ wr.heap.size)) (fun v31 _ => ((s.L.length : Int) - intOf v31).toNat)
  case atStart => exact ⟨0, rfl, Nat.zero_le _, HM4, HRR0, HZ4⟩
  case round =>
    clear HRR0 HZ4 HRD HM4 HM3 HMD2 HM2 HR
    obtain ⟨i, rfl, hi, HMR, HRR, HZR⟩ := hrel
    by_cases c2_ : i < s.L.length
    · have c2b : decide ((i : Int) < (s.L.length : Int)) = true := decide_eq_true (by omega)
      have c2c : decide (i < s.L.length) = true := decide_eq_true c2_
      have p5 : (0 ≤ (i : Int)) = True := eq_true (by omega)
      have p6 : ((i : Int) < (s.L.length : Int)) = True := eq_true (by omega)
      have hsl := HG.out.len
      have HRW : Aside0 (wrap64 ((i : Int) + 1) = ((i + 1 : Nat) : Int)) := ⟨by unfold wrap64; omega⟩
      obtain ⟨gA, e1⟩ : ∃ gA, An = some ⟨gA, 0, none⟩ := by
        obtain ⟨gb, cb, e, _⟩ := Kd.R_form HRR.out (by rw [List.length_map]; omega)
        injection e with e
        exact ⟨gb, e⟩
      subst e1
      have hFL := Kd.F_below (Kd.F_bound HI.out.2.2.2) HMR.out.below
      obtain ⟨ad, cs, eA, _, hFK, hcc, _⟩ := Kd.F_get hFL z101 (i : Int) (by omega) (by omega)
      obtain ⟨A2, c2, e2, q3, q4⟩ := k101_openF hFK
      subst e2
      have hrd : s.L.getD (i : Int).toNat z101 = s.L[i] := by rw [Int.toNat_natCast, List.getD_eq_getElem?_getD, List.getElem?_eq_getElem c2_]; rfl
      rw [hrd] at q3 q4 hcc
      rw [Int.toNat_natCast] at hcc
      have q1 : wr.cell? (ad.add (i * 2)) = some (.string s.L[i].f0) := hcc 0 _ rfl
      have q2 : wr.cell? ⟨(ad.add (i * 2)).block, (ad.add (i * 2)).off + 1, none⟩ = some (.slice A2 s.L[i].f1.length c2) := by
        have h9 := hcc 1 _ rfl
        rw [show k101.sz = 2 from rfl, ← Addr.add_add] at h9
        exact h9
      have hmem := List.getElem_mem c2_
      have hget : getS nm s s.L[i].f0 = (s.L[i].f1, 0) := by
        unfold getS
        rw [if_neg (by rw [HG.out.nam _ hmem]; decide), lk_at HG.out.srt i c2_]
      have hxs := (HK.out.siz _ (HG.out.nam _ hmem)).2
      have HS46 := Aside0.mk (HG.out.val _ hmem).1
      obtain ⟨x, hx⟩ : ∃ x, x = s.L[i].f0 := ⟨_, rfl⟩
      obtain ⟨b, hb⟩ : ∃ b, b = s.L[i].f1 := ⟨_, rfl⟩
      rw [← hx] at q1 hget hxs
      rw [← hb] at q2 q3 q4 hget HS46
      subst eA
      have HCB0 := Aside0.mk (And.intro q3 q4)
      have HGT := Aside0.mk hget
      have HXM := Aside0.mk (show x.size ≤ maxLen by unfold maxLen; omega)
      clear q3 q4 hFL hFK hcc hrd hmem hb hget hxs
      have HXE := Aside0.mk hx
      clear hx
      go_wp2_with (first | ((with_reducible refine gate_dst (N := 7) rfl ?_); refine rw_allocS rfl 101 rfl (cs := #[.string ⟨#[]⟩, .slice none 0 0]) (by kernel_rfl) HMR.out ?_; intro b7 w6 hg6 hM hb6; have HM6 := Aside0.mk hM; have HB6 := Aside0.mk hb6; have HE7 := Aside0.mk hg6; clear hg6 hM hb6) | (refine rw_storeS rfl 101 rfl rfl (cs' := #[.string x, .slice A2 b.length c2]) rfl [] HM6.out (by kernel_rfl) rfl (by show _ = _; simp [Value.oneCell']) ?_; intro w7 hM hk3; have HM7 := Aside0.mk hM; have HK7 := Aside0.mk hk3; have hc70 := blk_cell (hM.mem List.mem_cons_self) 0; clear hM hk3))
      refine (Get_st KF nm HK.out HG.out x HXM.out (HS.out.step HM7.out.below)).mono ?_
      rintro e w8 ⟨v8, rfl, hR, hb⟩
      rw [HGT.out] at hR ⊢
      simp only at hR ⊢
      obtain ⟨A8, c8, e8⟩ := Kd.R_slice hR
      subst e8
      have HR8 := Aside0.mk hR
      have HM8 := Aside0.mk (HM7.out.step hb)
      have HRR8 := Aside0.mk (Kd.R_below (Kd.R_kept (Kd.R_below HRR.out HB6.out) HK7.out (fun k q e => by have := HZR.out; have := HE7.out; omega)) hb)
      have HZ8 := Aside0.mk (show w2.heap.size ≤ w8.heap.size from Nat.le_trans HZR.out (Nat.le_trans HB6.out.size (Nat.le_trans HK7.out.1 hb.size)))
      have hcl := name_cell HRR8.out i c2_
      rw [← HXE.out] at hcl
      clear hR hb hc70
      go_wp2_with fail
      have HMD := Aside0.mk (HM8.out.drewN 1)
      (try simp only [Act.put, List.setIfInBounds_toArray, List.set_cons_zero, List.set_cons_succ])
      refine wp_region_held_drew (S := fun w' => (Rws w [(b7, 101, #[.string x, .slice A2 b.length c2]), (b3, 29, #[.slice A0 s.img.length c0, .slice (some ad) s.L.length d1])] w') ∧ w'.cell? ⟨gA, i, none⟩ = some (.string x)) (by kernel_rfl) ?_ (fun hHeld => ?_)
      · exact ⟨HMD.out, hcl⟩
      have HMD2 := Aside0.mk (show Rws w [(b7, 101, #[.string x, .slice A2 b.length c2]), (b3, 29, #[.slice A0 s.img.length c0, .slice (some ad) s.L.length d1])] (World.drew _) from HMD.out)
      have HRD8 := Aside0.mk (show Kd.R (Kd.int .u8) 5 (World.drew _) _ _ _ b from Kd.R_drewN HR8.out 1)
      replace HRR8 := Aside0.mk (show Kd.R Kd.string 9 (World.drew _) _ _ _ (s.L.map (·.f0)) from Kd.R_drewN HRR8.out 1)
      replace HZ8 := Aside0.mk (show w2.heap.size ≤ (World.drew _).heap.size from HZ8.out)
      clear HMD hcl
      generalize World.drew _ = wd at HMD2 HRD8 HRR8 HZ8 hHeld ⊢
      refine take_dst (i := 0) (v := ?_) 43 rfl rfl (by kernel_rfl) (by kernel_rfl) (by kernel_rfl) (fun _ _ _ h => h) (Or.inl ⟨by rfl, ?_⟩) (by assumption) ?_
      rotate_left
      · intro w hSw
        go_simp
        try with_reducible rfl
      (try simp only [Act.put, List.setIfInBounds_toArray, List.set_cons_zero, List.set_cons_succ])
      refine take_dst (i := 1) (v := ?_) 44 rfl rfl (by kernel_rfl) (by kernel_rfl) (by kernel_rfl) (fun _ _ _ h => h) (Or.inl ⟨by rfl, ?_⟩) (by assumption) ?_
      rotate_left
      · intro w hSw
        go_simp
        try with_reducible rfl
      (try simp only [Act.put, List.setIfInBounds_toArray, List.set_cons_zero, List.set_cons_succ])
      refine take_dst (i := 2) (v := ?_) 45 rfl rfl (by kernel_rfl) (by kernel_rfl) (by kernel_rfl) (fun _ _ _ h => h) (Or.inl ⟨by rfl, ?_⟩) (by assumption) ?_
      rotate_left
      · intro w hSw
        go_simp
        try with_reducible rfl
      (try simp only [Act.put, List.setIfInBounds_toArray, List.set_cons_zero, List.set_cons_succ])
      refine take_dst (i := 3) (v := ?_) 46 rfl rfl (by kernel_rfl) (by kernel_rfl) (by kernel_rfl) (fun _ _ _ h => h) (Or.inl ⟨by rfl, ?_⟩) (by assumption) ?_
      rotate_left
      · intro w hSw
        have q0 := blk_cell (hSw.1.mem List.mem_cons_self) 0
        have q1 := blk_cell (hSw.1.mem List.mem_cons_self) 1
        have q2 := hSw.2
        go_simp
        try with_reducible rfl
      (try simp only [Act.put, List.setIfInBounds_toArray, List.set_cons_zero, List.set_cons_succ])
      refine take_dst (i := 4) (v := ?_) 47 rfl rfl (by kernel_rfl) (by kernel_rfl) (by kernel_rfl) (fun _ _ _ h => h) (Or.inl ⟨by rfl, ?_⟩) (by assumption) ?_
      rotate_left
      · intro w hSw
        go_simp
        try with_reducible rfl
      (try simp only [Act.put, List.setIfInBounds_toArray, List.set_cons_zero, List.set_cons_succ])
      refine take_dst (i := 5) (v := ?_) 48 rfl rfl (by kernel_rfl) (by kernel_rfl) (by kernel_rfl) (fun _ _ _ h => h) (Or.inl ⟨by rfl, ?_⟩) (by assumption) ?_
      rotate_left
      · intro w hSw
        have q0 := blk_cell (hSw.1.mem List.mem_cons_self) 0
        have q1 := blk_cell (hSw.1.mem List.mem_cons_self) 1
        have q2 := hSw.2
        go_simp
        try with_reducible rfl
      (try simp only [Act.put, List.setIfInBounds_toArray, List.set_cons_zero, List.set_cons_succ])
      refine take_dst (i := 6) (v := ?_) 49 rfl rfl (by kernel_rfl) (by kernel_rfl) (by kernel_rfl) (fun _ _ _ h => h) (Or.inl ⟨by rfl, ?_⟩) (by assumption) ?_
      rotate_left
      · intro w hSw
        go_simp
        try with_reducible rfl
      (try simp only [Act.put, List.setIfInBounds_toArray, List.set_cons_zero, List.set_cons_succ])
      refine take_dst (i := 7) (v := ?_) 50 rfl rfl (by kernel_rfl) (by kernel_rfl) (by kernel_rfl) (fun _ _ _ h => h) (Or.inl ⟨by rfl, ?_⟩) (by assumption) ?_
      rotate_left
      · intro w hSw
        go_simp
        try with_reducible rfl
      (try simp only [Act.put, List.setIfInBounds_toArray, List.set_cons_zero, List.set_cons_succ])
      refine take_dst (i := 8) (v := ?_) 51 rfl rfl (by kernel_rfl) (by kernel_rfl) (by kernel_rfl) (fun _ _ _ h => h) (Or.inl ⟨by rfl, ?_⟩) (by assumption) ?_
      rotate_left
      · intro w hSw
        go_simp
        try with_reducible rfl
      (try simp only [Act.put, List.setIfInBounds_toArray, List.set_cons_zero, List.set_cons_succ])
      refine take_dst (i := 9) (v := ?_) 52 rfl rfl (by kernel_rfl) (by kernel_rfl) (by kernel_rfl) (fun _ _ _ h => h) (Or.inl ⟨by rfl, ?_⟩) (by assumption) ?_
      rotate_left
      · intro w hSw
        go_simp
        try with_reducible rfl
      (try simp only [Act.put, List.setIfInBounds_toArray, List.set_cons_zero, List.set_cons_succ])
      refine take_dst (i := 10) (v := ?_) 53 rfl rfl (by kernel_rfl) (by kernel_rfl) (by kernel_rfl) (fun _ _ _ h => h) (Or.inl ⟨by rfl, ?_⟩) (by assumption) ?_
      rotate_left
      · intro w hSw
        go_simp
        try with_reducible rfl
      (try simp only [Act.put, List.setIfInBounds_toArray, List.set_cons_zero, List.set_cons_succ])
      refine take_dst (i := 11) (v := ?_) 54 rfl rfl (by kernel_rfl) (by kernel_rfl) (by kernel_rfl) (fun _ _ _ h => h) (Or.inl ⟨by rfl, ?_⟩) (by assumption) ?_
      rotate_left
      · intro w hSw
        go_simp
        try with_reducible rfl
      (try simp only [Act.put, List.setIfInBounds_toArray, List.set_cons_zero, List.set_cons_succ])
      refine take_dst (i := 12) (v := ?_) 55 rfl rfl (by kernel_rfl) (by kernel_rfl) (by kernel_rfl) (fun _ _ _ h => h) (Or.inl ⟨by rfl, ?_⟩) (by assumption) ?_
      rotate_left
      · intro w hSw
        go_simp
        try with_reducible rfl
      (try simp only [Act.put, List.setIfInBounds_toArray, List.set_cons_zero, List.set_cons_succ])
      refine take_dst (i := 13) (v := ?_) 56 rfl rfl (by kernel_rfl) (by kernel_rfl) (by kernel_rfl) (fun _ _ _ h => h) (Or.inl ⟨by rfl, ?_⟩) (by assumption) ?_
      rotate_left
      · intro w hSw
        go_simp
        try with_reducible rfl
      (try simp only [Act.put, List.setIfInBounds_toArray, List.set_cons_zero, List.set_cons_succ])
      refine take_dst (i := 14) (v := ?_) 57 rfl rfl (by kernel_rfl) (by kernel_rfl) (by kernel_rfl) (fun _ _ _ h => h) (Or.inl ⟨by rfl, ?_⟩) (by assumption) ?_
      rotate_left
      · intro w hSw
        have q0 := blk_cell (hSw.1.mem List.mem_cons_self) 0
        have q1 := blk_cell (hSw.1.mem List.mem_cons_self) 1
        have q2 := hSw.2
        go_simp
        try with_reducible rfl
      (try simp only [Act.put, List.setIfInBounds_toArray, List.set_cons_zero, List.set_cons_succ])
      refine wpAnyH_ready (rs := [15]) (by kernel_rfl) (by simp) ?_
      refine AllReadyH.cons rfl (fun K hK => ?_) (AllReadyH.nil)
      go_simp
      have hCB := Kd.F_now (Kd.F_step HCB0.out.2 (fun k q _ => (HMD2.out.below.block k q.2).trans (HMR.out.below.block k q.2).symm))
      refine (slices_Equal_byte_byte.calls KF A8 c8 b A2 c2 b true wd (Kd.R_reads' HRD8.out).2.2 (Kd.R_reads' HRD8.out).2.1 hCB HCB0.out.1 (HK.out.rd.eq b (by have := HS46.out; omega))).mono ?_
      rintro e w9 ⟨rfl, k9, rfl⟩
      have HM9 := Aside0.mk (HMD2.out.drewN k9)
      have HRR9 := Aside0.mk (Kd.R_drewN HRR8.out k9)
      have HZ9 := Aside0.mk (show w2.heap.size ≤ (wd.drewN k9).heap.size from HZ8.out)
      generalize wd.drewN k9 = w9 at HM9 HRR9 HZ9 ⊢
      have hcl := name_cell HRR9.out i c2_
      rw [← HXE.out] at hcl
      go_simp
      refine hK.out _ _ ⟨HM9.out, hcl⟩ (fun hHeld => ?_)
      (try simp only [Act.put, List.setIfInBounds_toArray, List.set_cons_zero, List.set_cons_succ])
      clear hK K hcl hCB
      refine take_dst (i := 16) (v := ?_) 59 rfl rfl (by kernel_rfl) (by kernel_rfl) (by kernel_rfl) (fun _ _ _ h => h) (Or.inl ⟨by rfl, ?_⟩) (by assumption) ?_
      rotate_left
      · intro w hSw
        go_simp
        try with_reducible rfl
      (try simp only [Act.put, List.setIfInBounds_toArray, List.set_cons_zero, List.set_cons_succ])
      refine take_dst (i := 17) (v := ?_) 60 rfl rfl (by kernel_rfl) (by kernel_rfl) (by kernel_rfl) (fun _ _ _ h => h) (Or.inl ⟨by rfl, ?_⟩) (by assumption) ?_
      rotate_left
      · intro w hSw
        go_simp
        try with_reducible rfl
      (try simp only [Act.put, List.setIfInBounds_toArray, List.set_cons_zero, List.set_cons_succ])
      refine wpAnyH_done (by kernel_rfl) ?_ _
      go_wp2_with fail
      go_roundw
      case rel => exact ⟨i + 1, by have e9 := HRW.out; first | (rw [e9]; done) | (simp; done), c2_, HM9.out.tail |> Aside0.mk, HRR9, HZ9⟩
      case measure => have e9 := HRW.out; first | omega | (simp only [intOf] at *; omega)
    · have c2b : decide ((i : Int) < (s.L.length : Int)) = false := decide_eq_false (by omega)
      have c2c : decide (i < s.L.length) = false := decide_eq_false c2_
      go_wp2_with fail
      go_ret
      exact ⟨rfl, HMR.out.below⟩
end
end Go.Proofs.Ytfakdphkklclgaa.P

end

section
namespace Go.Proofs.Ytfakdphkklclgaa.P
open Go.RowKit Go.Proofs.YtfakdphkklclgaaW.PrintWords Go.Proofs.YtfakdphkklclgaaW.PrintLast Go.Proofs.YtfakdphkklclgaaW.PrintMore
attribute [local go_sem] max2_int min2_int max_two min_two max_three min_three max_four min_four
set_option linter.unusedVariables false
set_option linter.unusedSimpArgs false
section
open Go.ChangeMaps Go.MapKept
set_option linter.unusedVariables false
theorem SAt.lower {base base' g : Nat} {F : Nat → Prop} {s : Sto} {W : World} (h : SAt base F g s W) (hb : base' ≤ base) : SAt base' F g s W := by
  obtain ⟨⟨v, B, m, h1, h2, h3⟩, hf, hl⟩ := h
  exact ⟨⟨v, B, m, h1, Kd.R_lower h2 hb, h3⟩, hf, fun b q => ⟨Nat.le_trans hb (hl b q).1, (hl b q).2⟩⟩
theorem Rws.keptF {w0 W W1 : World} {l : List (Nat × TypeId × Array Value)} {S : Nat → Prop} (h : Rws w0 l W) (hk : Kept W W1 S) (hS : ∀ p ∈ l, ¬ S p.1) (hb : Below w0.heap.size w0 W1) : Rws w0 l W1 :=
  ⟨fun p hp => ⟨(hk.2 _ (blk_lt (h.lies p hp).1) (hS p hp)).trans (h.lies p hp).1, (h.lies p hp).2⟩, h.ne, hb⟩
theorem Rws.keptT {w0 W W1 : World} {l : List (Nat × TypeId × Array Value)} {base ga n c : Nat} {ok : Nat → Prop} {xs : List Int} (h : Rws w0 l W) (hR : Kd.R (Kd.int .u8) 5 W base ok (.slice (some ⟨ga, 0, none⟩) n c) xs) (hk : Kept W W1 (fun k => k = ga)) (ht : ∀ p ∈ l, p.2.1 ≠ 5) (hb : Below w0.heap.size w0 W1) : Rws w0 l W1 :=
  h.keptF hk (fun p hp e => by
    obtain ⟨cs, h7⟩ := Kd.R_typed hR ga rfl
    have h8 := (h.lies p hp).1
    rw [e] at h8
    exact typ_nst h8 h7 (ht p hp) rfl) hb
theorem Rws.rebase {w0 w W W1 : World} {l : List (Nat × TypeId × Array Value)} {S : Nat → Prop} (h : Rws w l W) (hk : Kept W W1 S) (hS : ∀ p ∈ l, ¬ S p.1) (hw : w0.heap.size ≤ w.heap.size) (hb : Below w0.heap.size w0 W1) : Rws w0 l W1 :=
  ⟨fun p hp => ⟨(hk.2 _ (blk_lt (h.lies p hp).1) (hS p hp)).trans (h.lies p hp).1, Nat.le_trans hw (h.lies p hp).2⟩, h.ne, hb⟩
theorem kept_at1 {W W1 : World} {S : Nat → Prop} (hk : Kept W W1 S) {p : Addr} (hp : S p.block) (v : Value) : Kept W (W1.setCell p v) S := ⟨by have := hk.1; simpa [World.setCell] using this, fun k h1 hn => (Below.heap_setCell W1 p v k (fun e => hn (e ▸ hp))).trans (hk.2 k h1 hn)⟩
def DoPost (w0 : World) (F Z : Nat → Prop) (g : Nat) (w : World) (out : Sto × List S52 × Int) (e : Ending) (w' : World) : Prop := ∃ (y m : Value) (F' Z' M : Nat → Prop), e = .returned (.tuple #[y, m, .bool true]) ∧ SAt w0.heap.size F' g out.1 w' ∧ DAt Z' y out.1 w' ∧ DWr M m out.2.1 w' ∧ (∀ k, Z' k → ¬ F' k) ∧ (∀ k, F' k → F k ∨ w.heap.size ≤ k) ∧ (∀ k, Z' k → Z k ∨ w.heap.size ≤ k) ∧ (∀ k, M k → w.heap.size ≤ k) ∧ Kept w w' F ∧ Below w0.heap.size w0 w'
theorem Wrs.now {S1 S2 : Nat} {A : Option Addr} {c : Nat} {ws : List S52} {W : World} (h : Wrs S1 S2 (.slice A ws.length c) ws W) : Kd.C k52 W A ws.length ws := by
  obtain ⟨A', c', e, _, h2⟩ := h.reads
  injection e with e
  rw [e]; exact h2
theorem DWr.now {Z : Nat → Prop} {A : Option Addr} {c : Nat} {ws : List S52} {W : World} (h : DWr Z (.slice A ws.length c) ws W) : Kd.C k52 W A ws.length ws := by
  obtain ⟨A', c', e, _, h2⟩ := h
  injection e with e
  rw [e]; exact Kd.F_now h2
def EndOK (w wr : World) (F Z F1 Z1 M : Nat → Prop) (b6 : Nat) : Prop := (¬ F1 b6 ∧ ¬ Z1 b6 ∧ ¬ M b6) ∧ Kept w wr F ∧ w.heap.size ≤ b6 ∧ (∀ k, F1 k → F k ∨ w.heap.size ≤ k) ∧ (∀ k, Z1 k → Z k ∨ w.heap.size ≤ k) ∧ (∀ k, M k → w.heap.size ≤ k) ∧ ∀ k, Z1 k → ¬ F1 k
theorem do_end {w0 w wr W : World} {F Z F1 Z1 M : Nat → Prop} {g b6 : Nat} {out : Sto × List S52 × Int} {y m : Value} (hS : SAt w0.heap.size F1 g out.1 wr) (hY : DAt Z1 y out.1 wr) (hM : DWr M m out.2.1 wr) (hK : Kept wr W (fun k => k = b6)) (h : EndOK w wr F Z F1 Z1 M b6) (hB : Below w0.heap.size w0 W) : DoPost w0 F Z g w out (.returned (.tuple #[y, m, .bool true])) W := by
  obtain ⟨⟨h1, h2, h3⟩, h4, h5, h6, h7, h8, h9⟩ := h
  exact ⟨y, m, F1, Z1, M, rfl, hS.kept hK (fun k q e => h1 (e ▸ q)), hY.kept hK (fun k q e => h2 (e ▸ q)), hM.kept hK (fun k q e => h3 (e ▸ q)), h9, h6, h7, h8, ⟨Nat.le_trans h4.1 hK.1, fun k hk hn => (hK.2 k (Nat.lt_of_lt_of_le hk h4.1) (fun e => by omega)).trans (h4.2 k hk hn)⟩, hB⟩
theorem laid_wr (s : Sto) (l : List S101) (r : List Int) (hi : s.img.length ≤ 1048576) : (laidS s l r).2.1.length ≤ 2 ∧ ∀ x ∈ (laidS s l r).2.1, x.f1.length ≤ 2097152 := by
  unfold laidS
  split
  · exact ⟨Nat.zero_le _, fun x hx => by cases hx⟩
  · refine ⟨Nat.le_refl _, fun x hx => ?_⟩
    rcases List.mem_cons.1 hx with rfl | hx
    · simp; omega
    · rw [List.mem_singleton.1 hx]; simp
theorem put_wr (nm : ByteArray → Bool) (s : Sto) (x : ByteArray) (b : List Int) (hi : s.img.length ≤ 1048576) : (putS nm s x b).2.1.length ≤ 2 ∧ ∀ x' ∈ (putS nm s x b).2.1, x'.f1.length ≤ 2097152 := by
  unfold putS
  split
  · exact ⟨Nat.zero_le _, fun x hx => by cases hx⟩
  split
  · exact ⟨Nat.zero_le _, fun x hx => by cases hx⟩
  split
  · exact ⟨Nat.zero_le _, fun x hx => by cases hx⟩
  exact laid_wr _ _ _ hi
theorem drop_wr (nm : ByteArray → Bool) (s : Sto) (x : ByteArray) (hi : s.img.length ≤ 1048576) : (dropS nm s x).2.1.length ≤ 2 ∧ ∀ x' ∈ (dropS nm s x).2.1, x'.f1.length ≤ 2097152 := by
  unfold dropS
  split
  · exact ⟨Nat.zero_le _, fun x hx => by cases hx⟩
  split
  · exact ⟨Nat.zero_le _, fun x hx => by cases hx⟩
  exact laid_wr _ _ _ hi
set_option maxHeartbeats 12800000 in
set_option maxRecDepth 100000 in
theorem do_put {w0 w : World} {g : Nat} {F Z : Nat → Prop} {xv : Value} {s : Sto} (KF : Nat) (nm : ByteArray → Bool) (hK : StFacts KF nm) (hU : ∀ l : List Int, l.length ≤ 140737488351232 → provisoplain_Untouched.f KF (l ++ [165, 90, 195, 60]) l = some true) (hg : Good nm s) (x : ByteArray) (hx : x.size ≤ maxLen) (b : List Int) (Ad : Option Addr) (cd : Nat) (hlim : b.length ≤ 140737488351232) (hb : Kd.F (Kd.int .u8) w (fun k => k < w0.heap.size) Ad b.length b) (hcd : b.length ≤ cd) (hB : Below w0.heap.size w0 w) (h : SAt w0.heap.size F g s w) (hd : DAt Z xv s w) (hZ : ∀ k, Z k → ¬ F k) : Calls Try.prog 14 #[.pointer (some ⟨g, 0, none⟩), xv, .agg #[.int .i64 0, .string x, .slice Ad b.length cd]] w fun e w' => DoPost w0 F Z g w (putS nm s x b) e w' := by
  have HK := Aside0.mk hK
  have HU := Aside0.mk hU
  have HG := Aside0.mk hg
  have HX := Aside0.mk hx
  have HLIM := Aside0.mk hlim
  have HBF := Aside0.mk hb
  have HCD := Aside0.mk hcd
  have HS := Aside0.mk h
  have HD := Aside0.mk hd.bound
  have HZZ := Aside0.mk hZ
  have HN0 := Aside0.mk hB
  obtain ⟨A0, c0, B1, d1, rfl, _⟩ := hd
  clear hK hU hg hx hlim hb hcd hB h hZ
  go_enter Try.func14, Try.ntmps14
  go_wp2_with (first | ((with_reducible refine gate_dst (N := 4) rfl ?_); refine rw_box rfl 29 rfl (cs := #[.slice A0 s.img.length c0, .slice B1 s.L.length d1]) rfl (Rws.nil w) ?_; intro b4 w1 hX; have HM4 := Aside0.mk hX; clear hX) | ((with_reducible refine gate_dst (N := 5) rfl ?_); refine rw_box rfl 37 rfl (cs := #[.int .i64 0, .string x, .slice Ad b.length cd]) rfl HM4.out ?_; intro b5 w2 hX; have HM5 := Aside0.mk hX; clear hX) | ((with_reducible refine gate_dst (N := 6) rfl ?_); refine rw_allocS rfl 29 rfl (cs := #[.slice none 0 0, .slice none 0 0]) (by kernel_rfl) HM5.out ?_; intro b6 w3 hg6 hM hb6; have HM6 := Aside0.mk hM; have hc50 := blk_cell (hM.mem (List.mem_cons_of_mem _ List.mem_cons_self)) 0; have hc51 := blk_cell (hM.mem (List.mem_cons_of_mem _ List.mem_cons_self)) 1; have hc52 := blk_cell (hM.mem (List.mem_cons_of_mem _ List.mem_cons_self)) 2; clear hg6 hM hb6))
  refine (Roomy_calls Ad cd b _ (Kd.F_now (Kd.F_below HBF.out HM6.out.below)) HCD.out HLIM.out).mono ?_
  rintro e w4 ⟨A, c, rfl, hcap, hR, hb⟩
  obtain ⟨adr, hAd, _⟩ := Kd.at_int (Kd.R_reads' hR).2.2 0 (by omega) (by simp; omega)
  subst hAd
  obtain ⟨ga, rfl⟩ := Kd.R_head hR
  have HR := Aside0.mk (Kd.R_bound hR)
  have HCAP := Aside0.mk hcap
  have HM7 := Aside0.mk (HM6.out.step hb)
  have HGA := Aside0.mk (show w3.heap.size ≤ ga ∧ ga < w4.heap.size from ⟨Kd.R_base_ hR ga rfl, Kd.R_lt hR ga rfl⟩)
  have HL3 := Aside0.mk (show b4 < w3.heap.size ∧ b5 < w3.heap.size ∧ b6 < w3.heap.size ∧ w.heap.size ≤ w3.heap.size from ⟨blk_lt (HM6.out.mem (List.mem_cons_of_mem _ (List.mem_cons_of_mem _ List.mem_cons_self))), blk_lt (HM6.out.mem (List.mem_cons_of_mem _ List.mem_cons_self)), blk_lt (HM6.out.mem List.mem_cons_self), HM6.out.below.size⟩)
  clear hc51 hc52
  have hc51 := blk_cell (HM7.out.mem (List.mem_cons_of_mem _ List.mem_cons_self)) 1
  have hc52 := blk_cell (HM7.out.mem (List.mem_cons_of_mem _ List.mem_cons_self)) 2
  clear hcap hR hb
  have HLT := Aside0.mk HS.out.lt
  have HSG := Aside0.mk (HS.out.lt g HS.out.fs)
  go_wp2_with fail
  refine (Put_st KF nm HK.out HG.out x HX.out b (some ⟨ga, 0, none⟩) c (fun k => w3.heap.size ≤ k) (fun W' hW => ?hpf) (fun k q1 q2 => by have := (HLT.out k q2).2; have := HL3.out; omega) (HS.out.step HM7.out.below)).mono ?_
  case hpf =>
    have h8 : Kd.C (Kd.int .u8) W' (some ⟨ga, 0, none⟩) (b ++ [165, 90, 195, 60]).length (b ++ [165, 90, 195, 60]) := by
      have hl4 : (b ++ ([165, 90, 195, 60] : List Int)).length = b.length + 4 := by simp
      rw [hl4]
      exact Kd.R_F HR.out W' (fun k q1 q2 => hW k q1.2.1 q2)
    have h9 := Kd.C_take h8 (m := b.length) (by simp)
    rwa [List.take_left] at h9
  rintro e w5 ⟨v, S1, S2, rfl, q1, q2, q3, q4, q5, q6, q7⟩
  have HW5 := Aside0.mk (And.intro q1 (And.intro q2 q3))
  have HWR := Aside0.mk q4
  have HS5 := Aside0.mk q5
  have HK5 := Aside0.mk (show Kept w w5 F from ⟨Nat.le_trans HM7.out.below.size q6.1, fun k hk hn => (q6.2 k (Nat.lt_of_lt_of_le hk HM7.out.below.size) hn).trans (HM7.out.below.block k hk)⟩)
  have hbn : Below w0.heap.size w0 w5 := q7 _ w0 (Nat.le_refl _) (HN0.out.trans (HM7.out.below.mono HN0.out.size))
  have hnF : ∀ k, w.heap.size ≤ k → ¬ F k := fun k hk q => by have := (HLT.out k q).2; omega
  have HM8 := Aside0.mk (HM7.out.rebase q6 (fun p hp => hnF _ (HM7.out.lies p hp).2) HN0.out.size hbn)
  have HR8 := Aside0.mk (Kd.R_kept HR.out q6 (fun k q => hnF k (by have := q.2.1; have := HL3.out; omega)))
  have HD8 := Aside0.mk (HD.out.kept HK5.out (fun k q => HZZ.out k q.1))
  have HBF8 := Aside0.mk (Kd.F_kept HBF.out HK5.out (fun k q1 q2 => by have := (HLT.out k q2).1; omega))
  have HGA8 := Aside0.mk (show ga < w5.heap.size by have := HGA.out.2; have := q6.1; omega)
  clear q1 q2 q3 q4 q5 q6 q7 hbn hnF hc51 hc52
  have hc51 := blk_cell (HM8.out.mem (List.mem_cons_of_mem _ List.mem_cons_self)) 1
  have hc52 := blk_cell (HM8.out.mem (List.mem_cons_of_mem _ List.mem_cons_self)) 2
  go_wp2_with (first | ((with_reducible refine gate_dst (N := 41) rfl ?_); refine rw_load rfl 29 rfl rfl HM8.out (List.mem_cons_of_mem _ (List.mem_cons_of_mem _ List.mem_cons_self)) _ Try.underlying29 rfl (by kernel_rfl) ?_))
  refine (Put_d KF nm HK.out HG.out HD8.out x b Ad cd (Kd.F_now HBF8.out) HCD.out).mono ?_
  rintro e w6 ⟨y, m, rfl, hy, hm, hb⟩
  obtain ⟨out, hout⟩ : ∃ out, out = putS nm s x b := ⟨_, rfl⟩
  have hwr := put_wr nm s x b HG.out.img
  rw [← hout] at hy hm HS5 HWR hwr ⊢
  have HY := Aside0.mk hy
  have HWM := Aside0.mk hm
  have HWW := Aside0.mk hwr
  have HB6 := Aside0.mk hb
  obtain ⟨A15, c15, A16, c16, e15, _⟩ := hy
  subst e15
  have HM9 := Aside0.mk (HM8.out.step hb)
  have HR9 := Aside0.mk (Kd.R_below HR8.out hb)
  have HOUT := Aside0.mk hout
  clear hm hb hwr hc51 hc52 hout
  have hc51 := blk_cell (HM9.out.mem (List.mem_cons_of_mem _ List.mem_cons_self)) 1
  have hc52 := blk_cell (HM9.out.mem (List.mem_cons_of_mem _ List.mem_cons_self)) 2
  go_wp2_with (first | ((with_reducible refine gate_dst (N := 13) rfl ?_); refine rw_allocS rfl 29 rfl (cs := #[.slice none 0 0, .slice none 0 0]) (by kernel_rfl) HM9.out ?_; intro b13 w7 hg6 hM hb6; have HM10 := Aside0.mk hM; have HB7 := Aside0.mk hb6; have HE13 := Aside0.mk hg6; clear hg6 hM hb6) | (refine rw_storeS rfl 29 rfl rfl (cs' := #[.slice A15 out.1.img.length c15, .slice A16 out.1.L.length c16]) rfl [] HM10.out (by kernel_rfl) rfl (by show _ = _; simp [Value.oneCell']) ?_; intro w8 hM hk3; have HM11 := Aside0.mk hM; have HK8 := Aside0.mk hk3; have hc53 := blk_cell (hM.mem (List.mem_cons_of_mem _ (List.mem_cons_of_mem _ List.mem_cons_self))) 2; clear hM hk3))
  have HK58 := Aside0.mk (show Kept w5 w8 (fun _ => False) from ⟨Nat.le_trans HB6.out.size (Nat.le_trans HB7.out.size HK8.out.1), fun k hk _ => by
    have h6 := HB6.out.size
    exact (HK8.out.2 k (by have := HB7.out.size; omega) (by have := HE13.out; omega)).trans ((HB7.out.block k (by omega)).trans (HB6.out.block k hk))⟩)
  have HK68 := Aside0.mk (show Kept w6 w8 (fun _ => False) from ⟨Nat.le_trans HB7.out.size HK8.out.1, fun k hk _ => (HK8.out.2 k (by have := HB7.out.size; omega) (by have := HE13.out; omega)).trans (HB7.out.block k hk)⟩)
  have hrow8 := Kd.R_kept HR8.out HK58.out (fun k q e => e)
  have hlen4 : (b ++ [165, 90, 195, 60]).length = b.length + 4 := by simp
  have hun := provisoplain_Untouched.calls KF (some ⟨ga, 0, none⟩) c (b ++ [165, 90, 195, 60]) Ad cd b true w8 (Kd.R_reads' hrow8).2.2 (by rw [hlen4]; exact HCAP.out) (Kd.F_now (Kd.F_kept HBF8.out HK58.out (fun k q e => e))) HCD.out (HU.out b HLIM.out)
  rw [hlen4] at hun
  refine hun.mono ?_
  clear hun hlen4
  rintro e w9 ⟨rfl, k9, rfl⟩
  have HM12 := Aside0.mk (HM11.out.drewN k9)
  have HB0 := Aside0.mk (show Below w0.heap.size w0 (w8.drewN k9) from HM12.out.below)
  have HRW0 := Aside0.mk (show ∃ ys : List Int, Kd.R (Kd.int .u8) 5 (w8.drewN k9) w3.heap.size (fun k => w3.heap.size ≤ k ∧ k < w4.heap.size) (.slice (some ⟨ga, 0, none⟩) (b.length + 4) c) ys from ⟨_, Kd.R_mono (Kd.R_drewN hrow8 k9) (fun k q => ⟨q.2.1, q.2.2.1⟩)⟩)
  have HKG := Aside0.mk ((Kept.refl w8 (fun k => k = ga)).drewN k9)
  have HRW8 := Aside0.mk (show ∃ ys : List Int, Kd.R (Kd.int .u8) 5 w8 w3.heap.size (fun k => w3.heap.size ≤ k ∧ k < w4.heap.size) (.slice (some ⟨ga, 0, none⟩) (b.length + 4) c) ys from ⟨_, Kd.R_mono hrow8 (fun k q => ⟨q.2.1, q.2.2.1⟩)⟩)
  clear hrow8 hc53 hc50
  go_wp2_with fail
  go_loopw [58] (fun v58 wr => ∃ i : Nat, v58 = .int .i64 (i : Int) ∧ i ≤ b.length ∧ Aside0 (Below w0.heap.size w0 wr) ∧ Aside0 (Kept w8 wr (fun k => k = ga)) ∧ Aside0 (∃ ys : List Int, Kd.R (Kd.int .u8) 5 wr w3.heap.size (fun k => w3.heap.size ≤ k ∧ k < w4.heap.size) (.slice (some ⟨ga, 0, none⟩) (b.length + 4) c) ys)) (fun v58 _ => ((b.length : Int) - intOf v58).toNat)
  case atStart => exact ⟨0, rfl, Nat.zero_le _, HB0, HKG, HRW0⟩
  case round =>
    clear HB0 HKG HRW0 HM12
    obtain ⟨i, rfl, hi, HB0, HKG, HRW0⟩ := hrel
    by_cases c1_ : i < b.length
    · have c1b : decide ((i : Int) < (b.length : Int)) = true := decide_eq_true (by omega)
      have p1 : (0 ≤ (i : Int)) = True := eq_true (by omega)
      have p2 : ((i : Int) < (b.length : Int)) = True := eq_true (by omega)
      have HI : Aside0 (i < b.length) := ⟨c1_⟩
      obtain ⟨ys, hR⟩ := HRW0.out
      obtain ⟨hc1, hf1⟩ := Kd.R_celln 0 hR (i : Int) (by omega) (by omega)
      rw [Int.toNat_natCast] at hc1 hf1
      have HR := Aside0.mk hR
      obtain ⟨z, hz⟩ : ∃ z, rdOf 0 ys (i : Int) = z := ⟨_, rfl⟩
      rw [hz] at hc1
      have HW9 : Aside0 (wrap64 ((i : Int) + 1) = ((i + 1 : Nat) : Int)) := ⟨by have := HLIM.out; unfold wrap64; omega⟩
      clear hR hz HRW0 c1_
      go_wp2_with fail
      have hrow := Kd.R_putn HR.out (i : Int) (bits BinOp.xor IntKind.u8 z 255)
      rw [Int.toNat_natCast] at hrow
      have HROW := Aside0.mk hrow
      have HB1 := Aside0.mk (HB0.out.setCell (p := ⟨ga, i, none⟩) (show w0.heap.size ≤ ga from by have := HGA.out; have := HL3.out; have := HN0.out.size; omega) (.int .u8 (bits BinOp.xor IntKind.u8 z 255)))
      have HKG1 := Aside0.mk (kept_at1 HKG.out (p := ⟨ga, i, none⟩) rfl (.int .u8 (bits BinOp.xor IntKind.u8 z 255)))
      clear hrow
      go_roundw
      case rel => exact ⟨i + 1, (by rw [HW9.out]), HI.out, HB1, HKG1, ⟨_, HROW.out⟩⟩
      case measure => rw [HW9.out]; have := HI.out; show ((b.length : Int) - ((i + 1 : Nat) : Int)).toNat < ((b.length : Int) - (i : Int)).toNat; omega
    · have c1b : decide ((i : Int) < (b.length : Int)) = false := decide_eq_false (by omega)
      have c1n : decide (i < b.length) = false := decide_eq_false c1_
      have hR9 := HRW0.out
      have hnga : ∀ k, (∃ q : Nat, q = ga ∧ k = ga) → k = ga := fun k q => q.elim (fun _ q => q.2)
      have hga := HGA.out
      have hl3 := HL3.out
      have hw5 := HW5.out
      have HK5r := Aside0.mk (show Kept w5 wr (fun k => k = ga) from ⟨Nat.le_trans HK58.out.1 HKG.out.1, fun k hk hn => (HKG.out.2 k (Nat.lt_of_lt_of_le hk HK58.out.1) hn).trans (HK58.out.2 k hk (fun q => q))⟩)
      have HK6r := Aside0.mk (show Kept w6 wr (fun k => k = ga) from ⟨Nat.le_trans HK68.out.1 HKG.out.1, fun k hk hn => (HKG.out.2 k (Nat.lt_of_lt_of_le hk HK68.out.1) hn).trans (HK68.out.2 k hk (fun q => q))⟩)
      have HSr := Aside0.mk (HS5.out.kept HK5r.out (fun k q e => by
        subst e
        rcases q with q | q
        · have := (HLT.out k q).2; omega
        · omega))
      have HWr := Aside0.mk (HWR.out.kept HK5r.out (fun k q1 q2 e => by omega))
      have HYr := Aside0.mk (HY.out.kept HK6r.out (fun k q e => by
        subst e
        rcases q with q | q
        · have := q.2; omega
        · have := q.1; omega))
      have HMr := Aside0.mk (HWM.out.kept HK6r.out (fun k q e => by have := q.1; omega))
      obtain ⟨ys9, hR9⟩ := HRW0.out
      obtain ⟨ysz, hRz⟩ : ∃ ys : List Int, Kd.R (Kd.int .u8) 5 w8 w3.heap.size (fun k => w3.heap.size ≤ k ∧ k < w4.heap.size) (.slice (some ⟨ga, 0, none⟩) (b.length + 4) c) ys := HRW8.out
      have HM13 := Aside0.mk (HM11.out.keptT hRz HKG.out (by intro p hp; rcases List.mem_cons.1 hp with rfl | hp; exact (show 29 ≠ 5 by decide); rcases List.mem_cons.1 hp with rfl | hp; exact (show 29 ≠ 5 by decide); rcases List.mem_cons.1 hp with rfl | hp; exact (show 37 ≠ 5 by decide); rcases List.mem_cons.1 hp with rfl | hp; exact (show 29 ≠ 5 by decide); cases hp) HB0.out)
      obtain ⟨Aw, cw, ew, hw1, hw2⟩ := HWr.out.reads
      subst ew
      obtain ⟨Am, cm, em, hm1, hm2⟩ := HMr.out
      subst em
      have HWC := Aside0.mk (And.intro hw1 hm1)
      have HLX := Aside0.mk (show w.heap.size ≤ wr.heap.size by have h1 := HK5r.out.1; have h2 := HK5.out.1; omega)
      have hF1 : ∀ k, (F k ∨ (S2 ≤ k ∧ k < w5.heap.size)) → F k ∨ w.heap.size ≤ k := fun k q => q.elim .inl (fun q => .inr (by omega))
      have HEND := Aside0.mk (show EndOK w wr F Z (fun k => F k ∨ (S2 ≤ k ∧ k < w5.heap.size)) (fun k => (Z k ∧ k < w.heap.size) ∨ (w5.heap.size ≤ k ∧ k < w6.heap.size)) (fun k => w5.heap.size ≤ k ∧ k < w6.heap.size) b6 from by
        have hk1 := HK5.out.1
        refine ⟨⟨fun q => ?_, fun q => ?_, fun q => by omega⟩, ?_, by have := (HM6.out.lies _ List.mem_cons_self).2; exact this, hF1, fun k q => q.elim (fun q => .inl q.1) (fun q => .inr (by omega)), fun k q => by omega, fun k q1 q2 => ?_⟩
        · rcases q with q | q
          · have := (HLT.out b6 q).2; have := (HM6.out.lies _ List.mem_cons_self).2; simp only at this; omega
          · omega
        · rcases q with q | q
          · have := q.2; have := (HM6.out.lies _ List.mem_cons_self).2; simp only at this; omega
          · omega
        · exact ⟨Nat.le_trans HK5.out.1 HK5r.out.1, fun k hk hn => (HK5r.out.2 k (Nat.lt_of_lt_of_le hk HK5.out.1) (fun e => by omega)).trans (HK5.out.2 k hk hn)⟩
        · rcases q1 with q1 | q1
          · rcases q2 with q2 | q2
            · exact HZZ.out k q1.1 q2
            · omega
          · rcases q2 with q2 | q2
            · have := (HLT.out k q2).2; omega
            · omega)
      clear hnga hga hl3 hw5 hR9 hRz hw1 hw2 hm1 hm2 hF1
      go_wp2_with fail
      have herr : (out.2.2 == out.2.2) = true := by simp
      have HMD := Aside0.mk (HM13.out.drewN 1)
      (try simp only [Act.put, List.setIfInBounds_toArray, List.set_cons_zero, List.set_cons_succ])
      refine wp_region_held_drew (S := fun w' => Rws w0 [(b13, 29, #[.slice A15 out.1.img.length c15, .slice A16 out.1.L.length c16])] w') (by kernel_rfl) ?_ (fun hHeld => ?_)
      · exact Rws.first HMD.out
      have HV20 := Aside0.mk (show Rws w0 _ (World.drew _) from HMD.out)
      have HKV20 := Aside0.mk (show Kept wr (World.drew _) (fun k => k = b6) from (Kept.refl wr (fun k => k = b6)).drewN 1)
      clear HMD
      generalize World.drew _ = w20 at HV20 HKV20 hHeld ⊢
      refine take_dst (i := 0) (v := .agg #[.slice A15 out.1.img.length c15, .slice A16 out.1.L.length c16]) 68 rfl rfl (by kernel_rfl) (by kernel_rfl) (by kernel_rfl) (fun _ _ _ h => h) (rw_yields (by rfl) 29 rfl rfl (fun _ h => h) List.mem_cons_self _ Try.underlying29 rfl (by kernel_rfl)) (by assumption) ?_
      (try simp only [Act.put, List.setIfInBounds_toArray, List.set_cons_zero, List.set_cons_succ])
      refine take_dst (i := 1) (v := ?_) 69 rfl rfl (by kernel_rfl) (by kernel_rfl) (by kernel_rfl) (fun _ _ _ h => h) (Or.inl ⟨by rfl, ?_⟩) (by assumption) ?_
      rotate_left
      · intro w hSw
        obtain q1 := hSw
        go_simp
        try with_reducible rfl
      (try simp only [Act.put, List.setIfInBounds_toArray, List.set_cons_zero, List.set_cons_succ])
      refine take_dst (i := 2) (v := ?_) 70 rfl rfl (by kernel_rfl) (by kernel_rfl) (by kernel_rfl) (fun _ _ _ h => h) (Or.inl ⟨by rfl, ?_⟩) (by assumption) ?_
      rotate_left
      · intro w hSw
        obtain q1 := hSw
        go_simp
        try with_reducible rfl
      (try simp only [Act.put, List.setIfInBounds_toArray, List.set_cons_zero, List.set_cons_succ])
      refine take_dst (i := 3) (v := ?_) 71 rfl rfl (by kernel_rfl) (by kernel_rfl) (by kernel_rfl) (fun _ _ _ h => h) (Or.inl ⟨by rfl, ?_⟩) (by assumption) ?_
      rotate_left
      · intro w hSw
        obtain q1 := hSw
        go_simp
        try with_reducible rfl
      (try simp only [Act.put, List.setIfInBounds_toArray, List.set_cons_zero, List.set_cons_succ])
      refine take_dst (i := 4) (v := ?_) 72 rfl rfl (by kernel_rfl) (by kernel_rfl) (by kernel_rfl) (fun _ _ _ h => h) (Or.inl ⟨by rfl, ?_⟩) (by assumption) ?_
      rotate_left
      · intro w hSw
        obtain q1 := hSw
        go_simp
        try with_reducible rfl
      (try simp only [Act.put, List.setIfInBounds_toArray, List.set_cons_zero, List.set_cons_succ])
      refine take_dst (i := 5) (v := ?_) 73 rfl rfl (by kernel_rfl) (by kernel_rfl) (by kernel_rfl) (fun _ _ _ h => h) (Or.inl ⟨by rfl, ?_⟩) (by assumption) ?_
      rotate_left
      · intro w hSw
        obtain q1 := hSw
        go_simp
        try with_reducible rfl
      (try simp only [Act.put, List.setIfInBounds_toArray, List.set_cons_zero, List.set_cons_succ])
      refine take_dst (i := 6) (v := ?_) 74 rfl rfl (by kernel_rfl) (by kernel_rfl) (by kernel_rfl) (fun _ _ _ h => h) (Or.inl ⟨by rfl, ?_⟩) (by assumption) ?_
      rotate_left
      · intro w hSw
        obtain q1 := hSw
        go_simp
        try with_reducible rfl
      (try simp only [Act.put, List.setIfInBounds_toArray, List.set_cons_zero, List.set_cons_succ])
      refine take_dst (i := 7) (v := ?_) 75 rfl rfl (by kernel_rfl) (by kernel_rfl) (by kernel_rfl) (fun _ _ _ h => h) (Or.inl ⟨by rfl, ?_⟩) (by assumption) ?_
      rotate_left
      · intro w hSw
        obtain q1 := hSw
        go_simp
        try with_reducible rfl
      (try simp only [Act.put, List.setIfInBounds_toArray, List.set_cons_zero, List.set_cons_succ])
      refine wpAnyH_ready (rs := [8]) (by kernel_rfl) (by simp) ?_
      refine AllReadyH.cons rfl (fun K hK => ?_) (AllReadyH.nil)
      go_simp
      refine (provisoplain_SameWrites.calls KF Aw cw out.2.1 Am cm out.2.1 true w20 (HWr.out.kept HKV20.out (fun k q1 q2 e => by have h3 := HL3.out; have h5 := HW5.out; have h6 := HGA.out; omega)).now HWC.out.1 (HMr.out.kept HKV20.out (fun k q e => by have h3 := HL3.out; have h5 := HW5.out; have h6 := HGA.out; have := q.1; omega)).now HWC.out.2 (HK.out.wr _ HWW.out.1 HWW.out.2)).mono ?_
      rintro e w21 ⟨rfl, k21, rfl⟩
      have HV21 := Aside0.mk (HV20.out.drewN k21)
      have HKV21 := Aside0.mk (HKV20.out.drewN k21)
      generalize w20.drewN k21 = w21 at HV21 HKV21 ⊢
      go_simp
      refine hK.out _ _ (Rws.first HV21.out) (fun hHeld => ?_)
      (try simp only [Act.put, List.setIfInBounds_toArray, List.set_cons_zero, List.set_cons_succ])
      clear hK K
      refine take_dst (i := 9) (v := ?_) 77 rfl rfl (by kernel_rfl) (by kernel_rfl) (by kernel_rfl) (fun _ _ _ h => h) (Or.inl ⟨by rfl, ?_⟩) (by assumption) ?_
      rotate_left
      · intro w hSw
        obtain q1 := hSw
        go_simp
        try with_reducible rfl
      (try simp only [Act.put, List.setIfInBounds_toArray, List.set_cons_zero, List.set_cons_succ])
      refine wpAnyH_ready (rs := [10]) (by kernel_rfl) (by simp) ?_
      refine AllReadyH.cons rfl (fun K hK => ?_) (AllReadyH.nil)
      refine rw_store_wp 29 rfl rfl (cs' := #[.slice A15 out.1.img.length c15, .slice A16 out.1.L.length c16]) rfl [_] HV21.out (by kernel_rfl) rfl (by show _ = _; simp [Value.oneCell']) ?_
      intro w22 hM hkp
      refine hK.out _ _ (Rws.first hM) (fun hHeld => ?_)
      (try simp only [Act.put, List.setIfInBounds_toArray, List.set_cons_zero, List.set_cons_succ])
      clear hK K
      have HV22 := Aside0.mk hM
      have HKV22 := Aside0.mk (show Kept wr w22 (fun k => k = b6) from ⟨Nat.le_trans HKV21.out.1 hkp.1, fun k hk hn => (hkp.2 k (Nat.lt_of_lt_of_le hk HKV21.out.1) hn).trans (HKV21.out.2 k hk hn)⟩)
      clear hM hkp
      refine take_dst (i := 11) (v := ?_) 7 rfl rfl (by kernel_rfl) (by kernel_rfl) (by kernel_rfl) (fun _ _ _ h => h) (Or.inl ⟨by rfl, ?_⟩) (by assumption) ?_
      rotate_left
      · intro w hSw
        obtain q1 := hSw
        go_simp
        try with_reducible rfl
      (try simp only [Act.put, List.setIfInBounds_toArray, List.set_cons_zero, List.set_cons_succ])
      refine take_dst (i := 12) (v := ?_) 8 rfl rfl (by kernel_rfl) (by kernel_rfl) (by kernel_rfl) (fun _ _ _ h => h) (Or.inl ⟨by rfl, ?_⟩) (by assumption) ?_
      rotate_left
      · intro w hSw
        obtain q1 := hSw
        go_simp
        try with_reducible rfl
      (try simp only [Act.put, List.setIfInBounds_toArray, List.set_cons_zero, List.set_cons_succ])
      refine wpAnyH_done (by kernel_rfl) ?_ _
      go_wp2_with fail
      refine bodyPost_ret (results_ctt rfl _ _ b6 29 #[.slice A15 out.1.img.length c15, .slice A16 out.1.L.length c16] (0, 0) _ rfl (HV22.out.mem (List.mem_cons_of_mem _ List.mem_cons_self)) Try.underlying29 rfl (by kernel_rfl)) rfl ?_
      rw [← HOUT.out]
      exact do_end HSr.out HYr.out HMr.out HKV22.out HEND.out HV22.out.below
end
end Go.Proofs.Ytfakdphkklclgaa.P

end

section
namespace Go.Proofs.Ytfakdphkklclgaa.P
open Go.RowKit Go.Proofs.YtfakdphkklclgaaW.PrintWords Go.Proofs.YtfakdphkklclgaaW.PrintLast Go.Proofs.YtfakdphkklclgaaW.PrintMore
attribute [local go_sem] max2_int min2_int max_two min_two max_three min_three max_four min_four
set_option linter.unusedVariables false
set_option linter.unusedSimpArgs false
section
open Go.ChangeMaps Go.MapKept
set_option linter.unusedVariables false
set_option maxHeartbeats 12800000 in
set_option maxRecDepth 100000 in
theorem do_drop {w0 w : World} {g : Nat} {F Z : Nat → Prop} {xv : Value} {s : Sto} (KF : Nat) (nm : ByteArray → Bool) (hK : StFacts KF nm) (hU : ∀ l : List Int, l.length ≤ 140737488351232 → provisoplain_Untouched.f KF (l ++ [165, 90, 195, 60]) l = some true) (hg : Good nm s) (x : ByteArray) (hx : x.size ≤ maxLen) (b : List Int) (Ad : Option Addr) (cd : Nat) (hlim : b.length ≤ 140737488351232) (hb : Kd.F (Kd.int .u8) w (fun k => k < w0.heap.size) Ad b.length b) (hcd : b.length ≤ cd) (hB : Below w0.heap.size w0 w) (h : SAt w0.heap.size F g s w) (hd : DAt Z xv s w) (hZ : ∀ k, Z k → ¬ F k) : Calls Try.prog 14 #[.pointer (some ⟨g, 0, none⟩), xv, .agg #[.int .i64 1, .string x, .slice Ad b.length cd]] w fun e w' => DoPost w0 F Z g w (dropS nm s x) e w' := by
  have HK := Aside0.mk hK
  have HU := Aside0.mk hU
  have HG := Aside0.mk hg
  have HX := Aside0.mk hx
  have HLIM := Aside0.mk hlim
  have HBF := Aside0.mk hb
  have HCD := Aside0.mk hcd
  have HS := Aside0.mk h
  have HD := Aside0.mk hd.bound
  have HZZ := Aside0.mk hZ
  have HN0 := Aside0.mk hB
  obtain ⟨A0, c0, B1, d1, rfl, _⟩ := hd
  clear hK hU hg hx hlim hb hcd hB h hZ
  go_enter Try.func14, Try.ntmps14
  go_wp2_with (first | ((with_reducible refine gate_dst (N := 4) rfl ?_); refine rw_box rfl 29 rfl (cs := #[.slice A0 s.img.length c0, .slice B1 s.L.length d1]) rfl (Rws.nil w) ?_; intro b4 w1 hX; have HM4 := Aside0.mk hX; clear hX) | ((with_reducible refine gate_dst (N := 5) rfl ?_); refine rw_box rfl 37 rfl (cs := #[.int .i64 1, .string x, .slice Ad b.length cd]) rfl HM4.out ?_; intro b5 w2 hX; have HM5 := Aside0.mk hX; clear hX) | ((with_reducible refine gate_dst (N := 6) rfl ?_); refine rw_allocS rfl 29 rfl (cs := #[.slice none 0 0, .slice none 0 0]) (by kernel_rfl) HM5.out ?_; intro b6 w3 hg6 hM hb6; have HM6 := Aside0.mk hM; have hc50 := blk_cell (hM.mem (List.mem_cons_of_mem _ List.mem_cons_self)) 0; have hc51 := blk_cell (hM.mem (List.mem_cons_of_mem _ List.mem_cons_self)) 1; have hc52 := blk_cell (hM.mem (List.mem_cons_of_mem _ List.mem_cons_self)) 2; clear hg6 hM hb6))
  have HL3 := Aside0.mk (show b4 < w3.heap.size ∧ b5 < w3.heap.size ∧ b6 < w3.heap.size ∧ w.heap.size ≤ w3.heap.size from ⟨blk_lt (HM6.out.mem (List.mem_cons_of_mem _ (List.mem_cons_of_mem _ List.mem_cons_self))), blk_lt (HM6.out.mem (List.mem_cons_of_mem _ List.mem_cons_self)), blk_lt (HM6.out.mem List.mem_cons_self), HM6.out.below.size⟩)
  have HGA := Aside0.mk True.intro
  have HLT := Aside0.mk HS.out.lt
  have HSG := Aside0.mk (HS.out.lt g HS.out.fs)
  refine (Drop_st KF nm HK.out HG.out x HX.out (HS.out.step HM6.out.below)).mono ?_
  rintro e w5 ⟨v, S1, S2, rfl, q1, q2, q3, q4, q5, q6, q7⟩
  have HW5 := Aside0.mk (And.intro q1 (And.intro q2 q3))
  have HWR := Aside0.mk q4
  have HS5 := Aside0.mk q5
  have HK5 := Aside0.mk (show Kept w w5 F from ⟨Nat.le_trans HM6.out.below.size q6.1, fun k hk hn => (q6.2 k (Nat.lt_of_lt_of_le hk HM6.out.below.size) hn).trans (HM6.out.below.block k hk)⟩)
  have hbn : Below w0.heap.size w0 w5 := q7 _ w0 (Nat.le_refl _) (HN0.out.trans (HM6.out.below.mono HN0.out.size))
  have hnF : ∀ k, w.heap.size ≤ k → ¬ F k := fun k hk q => by have := (HLT.out k q).2; omega
  have HM8 := Aside0.mk (HM6.out.rebase q6 (fun p hp => hnF _ (HM6.out.lies p hp).2) HN0.out.size hbn)
  have HD8 := Aside0.mk (HD.out.kept HK5.out (fun k q => HZZ.out k q.1))
  clear q1 q2 q3 q4 q5 q6 q7 hbn hnF hc50 hc51 hc52
  have hc51 := blk_cell (HM8.out.mem (List.mem_cons_of_mem _ List.mem_cons_self)) 1
  have hc52 := blk_cell (HM8.out.mem (List.mem_cons_of_mem _ List.mem_cons_self)) 2
  go_wp2_with (first | ((with_reducible refine gate_dst (N := 86) rfl ?_); refine rw_load rfl 29 rfl rfl HM8.out (List.mem_cons_of_mem _ (List.mem_cons_of_mem _ List.mem_cons_self)) _ Try.underlying29 rfl (by kernel_rfl) ?_))
  refine (Drop_d KF nm HK.out HG.out HD8.out x).mono ?_
  rintro e w6 ⟨y, m, rfl, hy, hm, hb⟩
  obtain ⟨out, hout⟩ : ∃ out, out = dropS nm s x := ⟨_, rfl⟩
  have hwr := drop_wr nm s x HG.out.img
  rw [← hout] at hy hm HS5 HWR hwr ⊢
  have HY := Aside0.mk hy
  have HWM := Aside0.mk hm
  have HWW := Aside0.mk hwr
  have HB6 := Aside0.mk hb
  obtain ⟨A15, c15, A16, c16, e15, _⟩ := hy
  subst e15
  have HM9 := Aside0.mk (HM8.out.step hb)
  have HOUT := Aside0.mk hout
  clear hm hb hwr hc51 hc52 hout
  go_wp2_with (first | ((with_reducible refine gate_dst (N := 19) rfl ?_); refine rw_allocS rfl 29 rfl (cs := #[.slice none 0 0, .slice none 0 0]) (by kernel_rfl) HM9.out ?_; intro b13 w7 hg6 hM hb6; have HM10 := Aside0.mk hM; have HB7 := Aside0.mk hb6; have HE13 := Aside0.mk hg6; clear hg6 hM hb6) | (refine rw_storeS rfl 29 rfl rfl (cs' := #[.slice A15 out.1.img.length c15, .slice A16 out.1.L.length c16]) rfl [] HM10.out (by kernel_rfl) rfl (by show _ = _; simp [Value.oneCell']) ?_; intro wr hM hk3; have HM13 := Aside0.mk hM; have HK8 := Aside0.mk hk3; clear hM hk3))
  have HK5r := Aside0.mk (show Kept w5 wr (fun _ => False) from ⟨Nat.le_trans HB6.out.size (Nat.le_trans HB7.out.size HK8.out.1), fun k hk _ => by
    have h6 := HB6.out.size
    exact (HK8.out.2 k (by have := HB7.out.size; omega) (by have := HE13.out; omega)).trans ((HB7.out.block k (by omega)).trans (HB6.out.block k hk))⟩)
  have HK6r := Aside0.mk (show Kept w6 wr (fun _ => False) from ⟨Nat.le_trans HB7.out.size HK8.out.1, fun k hk _ => (HK8.out.2 k (by have := HB7.out.size; omega) (by have := HE13.out; omega)).trans (HB7.out.block k hk)⟩)
  have hl3 := HL3.out
  have hw5 := HW5.out
  have HSr := Aside0.mk (HS5.out.kept HK5r.out (fun k q e => e))
  have HWr := Aside0.mk (HWR.out.kept HK5r.out (fun k q1 q2 e => e))
  have HYr := Aside0.mk (HY.out.kept HK6r.out (fun k q e => e))
  have HMr := Aside0.mk (HWM.out.kept HK6r.out (fun k q e => e))
  obtain ⟨Aw, cw, ew, hw1, hw2⟩ := HWr.out.reads
  subst ew
  obtain ⟨Am, cm, em, hm1, hm2⟩ := HMr.out
  subst em
  have HWC := Aside0.mk (And.intro hw1 hm1)
  have hF1 : ∀ k, (F k ∨ (S2 ≤ k ∧ k < w5.heap.size)) → F k ∨ w.heap.size ≤ k := fun k q => q.elim .inl (fun q => .inr (by omega))
  have HEND := Aside0.mk (show EndOK w wr F Z (fun k => F k ∨ (S2 ≤ k ∧ k < w5.heap.size)) (fun k => (Z k ∧ k < w.heap.size) ∨ (w5.heap.size ≤ k ∧ k < w6.heap.size)) (fun k => w5.heap.size ≤ k ∧ k < w6.heap.size) b6 from by
    have hk1 := HK5.out.1
    refine ⟨⟨fun q => ?_, fun q => ?_, fun q => by omega⟩, ?_, by have := (HM6.out.lies _ List.mem_cons_self).2; exact this, hF1, fun k q => q.elim (fun q => .inl q.1) (fun q => .inr (by omega)), fun k q => by omega, fun k q1 q2 => ?_⟩
    · rcases q with q | q
      · have := (HLT.out b6 q).2; have := (HM6.out.lies _ List.mem_cons_self).2; simp only at this; omega
      · omega
    · rcases q with q | q
      · have := q.2; have := (HM6.out.lies _ List.mem_cons_self).2; simp only at this; omega
      · omega
    · exact ⟨Nat.le_trans HK5.out.1 HK5r.out.1, fun k hk hn => (HK5r.out.2 k (Nat.lt_of_lt_of_le hk HK5.out.1) (fun e => e)).trans (HK5.out.2 k hk hn)⟩
    · rcases q1 with q1 | q1
      · rcases q2 with q2 | q2
        · exact HZZ.out k q1.1 q2
        · omega
      · rcases q2 with q2 | q2
        · have := (HLT.out k q2).2; omega
        · omega)
  clear hl3 hw5 hw1 hw2 hm1 hm2 hF1
  have herr : (out.2.2 == out.2.2) = true := by simp
  have HMD := Aside0.mk (HM13.out.drewN 1)
  (try simp only [Act.put, List.setIfInBounds_toArray, List.set_cons_zero, List.set_cons_succ])
  refine wp_region_held_drew (S := fun w' => Rws w0 [(b13, 29, #[.slice A15 out.1.img.length c15, .slice A16 out.1.L.length c16])] w') (by kernel_rfl) ?_ (fun hHeld => ?_)
  · exact Rws.first HMD.out
  have HV20 := Aside0.mk (show Rws w0 _ (World.drew _) from HMD.out)
  have HKV20 := Aside0.mk (show Kept wr (World.drew _) (fun k => k = b6) from (Kept.refl wr (fun k => k = b6)).drewN 1)
  clear HMD
  generalize World.drew _ = w20 at HV20 HKV20 hHeld ⊢
  refine take_dst (i := 0) (v := .agg #[.slice A15 out.1.img.length c15, .slice A16 out.1.L.length c16]) 93 rfl rfl (by kernel_rfl) (by kernel_rfl) (by kernel_rfl) (fun _ _ _ h => h) (rw_yields (by rfl) 29 rfl rfl (fun _ h => h) List.mem_cons_self _ Try.underlying29 rfl (by kernel_rfl)) (by assumption) ?_
  (try simp only [Act.put, List.setIfInBounds_toArray, List.set_cons_zero, List.set_cons_succ])
  refine take_dst (i := 1) (v := ?_) 94 rfl rfl (by kernel_rfl) (by kernel_rfl) (by kernel_rfl) (fun _ _ _ h => h) (Or.inl ⟨by rfl, ?_⟩) (by assumption) ?_
  rotate_left
  · intro w hSw
    obtain q1 := hSw
    go_simp
    try with_reducible rfl
  (try simp only [Act.put, List.setIfInBounds_toArray, List.set_cons_zero, List.set_cons_succ])
  refine take_dst (i := 2) (v := ?_) 95 rfl rfl (by kernel_rfl) (by kernel_rfl) (by kernel_rfl) (fun _ _ _ h => h) (Or.inl ⟨by rfl, ?_⟩) (by assumption) ?_
  rotate_left
  · intro w hSw
    obtain q1 := hSw
    go_simp
    try with_reducible rfl
  (try simp only [Act.put, List.setIfInBounds_toArray, List.set_cons_zero, List.set_cons_succ])
  refine take_dst (i := 3) (v := ?_) 96 rfl rfl (by kernel_rfl) (by kernel_rfl) (by kernel_rfl) (fun _ _ _ h => h) (Or.inl ⟨by rfl, ?_⟩) (by assumption) ?_
  rotate_left
  · intro w hSw
    obtain q1 := hSw
    go_simp
    try with_reducible rfl
  (try simp only [Act.put, List.setIfInBounds_toArray, List.set_cons_zero, List.set_cons_succ])
  refine take_dst (i := 4) (v := ?_) 97 rfl rfl (by kernel_rfl) (by kernel_rfl) (by kernel_rfl) (fun _ _ _ h => h) (Or.inl ⟨by rfl, ?_⟩) (by assumption) ?_
  rotate_left
  · intro w hSw
    obtain q1 := hSw
    go_simp
    try with_reducible rfl
  (try simp only [Act.put, List.setIfInBounds_toArray, List.set_cons_zero, List.set_cons_succ])
  refine take_dst (i := 5) (v := ?_) 98 rfl rfl (by kernel_rfl) (by kernel_rfl) (by kernel_rfl) (fun _ _ _ h => h) (Or.inl ⟨by rfl, ?_⟩) (by assumption) ?_
  rotate_left
  · intro w hSw
    obtain q1 := hSw
    go_simp
    try with_reducible rfl
  (try simp only [Act.put, List.setIfInBounds_toArray, List.set_cons_zero, List.set_cons_succ])
  refine take_dst (i := 6) (v := ?_) 99 rfl rfl (by kernel_rfl) (by kernel_rfl) (by kernel_rfl) (fun _ _ _ h => h) (Or.inl ⟨by rfl, ?_⟩) (by assumption) ?_
  rotate_left
  · intro w hSw
    obtain q1 := hSw
    go_simp
    try with_reducible rfl
  (try simp only [Act.put, List.setIfInBounds_toArray, List.set_cons_zero, List.set_cons_succ])
  refine take_dst (i := 7) (v := ?_) 100 rfl rfl (by kernel_rfl) (by kernel_rfl) (by kernel_rfl) (fun _ _ _ h => h) (Or.inl ⟨by rfl, ?_⟩) (by assumption) ?_
  rotate_left
  · intro w hSw
    obtain q1 := hSw
    go_simp
    try with_reducible rfl
  (try simp only [Act.put, List.setIfInBounds_toArray, List.set_cons_zero, List.set_cons_succ])
  refine wpAnyH_ready (rs := [8]) (by kernel_rfl) (by simp) ?_
  refine AllReadyH.cons rfl (fun K hK => ?_) (AllReadyH.nil)
  go_simp
  refine (provisoplain_SameWrites.calls KF Aw cw out.2.1 Am cm out.2.1 true w20 (HWr.out.kept HKV20.out (fun k q1 q2 e => by have h3 := HL3.out; have h5 := HW5.out; have h6 := HGA.out; omega)).now HWC.out.1 (HMr.out.kept HKV20.out (fun k q e => by have h3 := HL3.out; have h5 := HW5.out; have h6 := HGA.out; have := q.1; omega)).now HWC.out.2 (HK.out.wr _ HWW.out.1 HWW.out.2)).mono ?_
  rintro e w21 ⟨rfl, k21, rfl⟩
  have HV21 := Aside0.mk (HV20.out.drewN k21)
  have HKV21 := Aside0.mk (HKV20.out.drewN k21)
  generalize w20.drewN k21 = w21 at HV21 HKV21 ⊢
  go_simp
  refine hK.out _ _ (Rws.first HV21.out) (fun hHeld => ?_)
  (try simp only [Act.put, List.setIfInBounds_toArray, List.set_cons_zero, List.set_cons_succ])
  clear hK K
  refine take_dst (i := 9) (v := ?_) 102 rfl rfl (by kernel_rfl) (by kernel_rfl) (by kernel_rfl) (fun _ _ _ h => h) (Or.inl ⟨by rfl, ?_⟩) (by assumption) ?_
  rotate_left
  · intro w hSw
    obtain q1 := hSw
    go_simp
    try with_reducible rfl
  (try simp only [Act.put, List.setIfInBounds_toArray, List.set_cons_zero, List.set_cons_succ])
  refine wpAnyH_ready (rs := [10]) (by kernel_rfl) (by simp) ?_
  refine AllReadyH.cons rfl (fun K hK => ?_) (AllReadyH.nil)
  refine rw_store_wp 29 rfl rfl (cs' := #[.slice A15 out.1.img.length c15, .slice A16 out.1.L.length c16]) rfl [_] HV21.out (by kernel_rfl) rfl (by show _ = _; simp [Value.oneCell']) ?_
  intro w22 hM hkp
  refine hK.out _ _ (Rws.first hM) (fun hHeld => ?_)
  (try simp only [Act.put, List.setIfInBounds_toArray, List.set_cons_zero, List.set_cons_succ])
  clear hK K
  have HV22 := Aside0.mk hM
  have HKV22 := Aside0.mk (show Kept wr w22 (fun k => k = b6) from ⟨Nat.le_trans HKV21.out.1 hkp.1, fun k hk hn => (hkp.2 k (Nat.lt_of_lt_of_le hk HKV21.out.1) hn).trans (HKV21.out.2 k hk hn)⟩)
  clear hM hkp
  refine take_dst (i := 11) (v := ?_) 7 rfl rfl (by kernel_rfl) (by kernel_rfl) (by kernel_rfl) (fun _ _ _ h => h) (Or.inl ⟨by rfl, ?_⟩) (by assumption) ?_
  rotate_left
  · intro w hSw
    obtain q1 := hSw
    go_simp
    try with_reducible rfl
  (try simp only [Act.put, List.setIfInBounds_toArray, List.set_cons_zero, List.set_cons_succ])
  refine take_dst (i := 12) (v := ?_) 8 rfl rfl (by kernel_rfl) (by kernel_rfl) (by kernel_rfl) (fun _ _ _ h => h) (Or.inl ⟨by rfl, ?_⟩) (by assumption) ?_
  rotate_left
  · intro w hSw
    obtain q1 := hSw
    go_simp
    try with_reducible rfl
  (try simp only [Act.put, List.setIfInBounds_toArray, List.set_cons_zero, List.set_cons_succ])
  refine wpAnyH_done (by kernel_rfl) ?_ _
  go_wp2_with fail
  refine bodyPost_ret (results_ctt rfl _ _ b6 29 #[.slice A15 out.1.img.length c15, .slice A16 out.1.L.length c16] (0, 0) _ rfl (HV22.out.mem (List.mem_cons_of_mem _ List.mem_cons_self)) Try.underlying29 rfl (by kernel_rfl)) rfl ?_
  rw [← HOUT.out]
  exact do_end HSr.out HYr.out HMr.out HKV22.out HEND.out HV22.out.below
end
end Go.Proofs.Ytfakdphkklclgaa.P

end

section
namespace Go.Proofs.Ytfakdphkklclgaa.P
open Go.RowKit Go.Proofs.YtfakdphkklclgaaW.PrintWords Go.Proofs.YtfakdphkklclgaaW.PrintLast Go.Proofs.YtfakdphkklclgaaW.PrintMore
attribute [local go_sem] max2_int min2_int max_two min_two max_three min_three max_four min_four
set_option linter.unusedVariables false
set_option linter.unusedSimpArgs false
section
theorem rd_app {bs t : List Int} {i : Nat} (h : i < bs.length) : rd (bs ++ t) (i : Int) = rd bs (i : Int) := by
  unfold rd
  rw [Int.toNat_natCast, List.getD_eq_getElem?_getD, List.getD_eq_getElem?_getD, List.getElem?_append_left h]
theorem seg_app {bs t : List Int} {a n : Nat} (h : a + n ≤ bs.length) : seg (bs ++ t) a n = seg bs a n := by
  unfold seg
  rw [List.take_append_of_le_length h]
theorem nameR_app {nm : ByteArray → Bool} {bs : List Int} {a : Nat} (t : List Int) (h : (nameR nm bs a).2.2 = 0) : nameR nm (bs ++ t) a = nameR nm bs a := by
  unfold nameR at h ⊢
  by_cases c1 : bs.length < a + 1
  · rw [if_pos c1] at h; cases h
  rw [if_neg c1] at h ⊢
  have hr := rd_app (t := t) (show a < bs.length by omega)
  rw [if_neg (by rw [List.length_append]; omega), hr]
  by_cases c2 : rd bs (a : Int) = 0 ∨ 24 < rd bs (a : Int)
  · rw [if_pos c2] at h; cases h
  rw [if_neg c2] at h
  rw [if_neg c2, if_neg c2]
  by_cases c3 : bs.length < a + 1 + (rd bs (a : Int)).toNat
  · rw [if_pos c3] at h; cases h
  rw [if_neg (by rw [List.length_append]; omega), if_neg c3, seg_app (by omega)]
theorem numR_app {k : Nat} {bs : List Int} {a : Nat} (t : List Int) (h : (numR k bs a).2.2 = 0) : numR k (bs ++ t) a = numR k bs a := by
  unfold numR at h ⊢
  by_cases c1 : bs.length < a + k
  · rw [if_pos c1] at h; cases h
  rw [if_neg c1, if_neg (by rw [List.length_append]; omega), seg_app (by omega)]
theorem takeR_app {bs : List Int} {a : Nat} {n : Int} (t : List Int) (ha : a ≤ bs.length) (h : (takeR bs a n).2.2 = 0) : takeR (bs ++ t) a n = takeR bs a n := by
  unfold takeR at h ⊢
  by_cases c1 : n < 0
  · rw [if_pos c1] at h; cases h
  rw [if_neg c1] at h ⊢
  by_cases c2 : n > (bs.length : Int) - (a : Int)
  · rw [if_pos c2] at h; cases h
  rw [if_neg c1, if_neg c2, if_neg (by rw [List.length_append]; omega), seg_app (by omega)]
theorem recS_app {nm : ByteArray → Bool} {bs : List Int} {L : List S101} {a : Nat} {q : List S101 × Nat} (t : List Int) (ha : a < bs.length) (h : recS nm bs L a = some q) : recS nm (bs ++ t) L a = some q := by
  unfold recS at h ⊢
  have h1 := nameR_app (nm := nm) (bs := bs) (a := a + 1) t
  have g1 := nameR_go nm bs (a + 1)
  rw [rd_app ha]
  obtain ⟨⟨x, p, er⟩, hnr⟩ : ∃ q, q = nameR nm bs (a + 1) := ⟨_, rfl⟩
  rw [← hnr] at h h1 g1
  simp only at h h1 g1
  by_cases c1 : er ≠ 0
  · rw [if_pos c1] at h; cases h
  rw [if_neg c1] at h
  have h1 := h1 (by simpa using c1)
  have g1 := g1 (by simpa using c1)
  rw [h1]
  simp only
  rw [if_neg c1]
  by_cases c2 : rd bs (a : Int) = 2 ∧ (lkL L x).isSome = true
  · rw [if_pos c2] at h ⊢; exact h
  rw [if_neg c2] at h ⊢
  by_cases c3 : rd bs (a : Int) ≠ 1
  · rw [if_pos c3] at h; cases h
  rw [if_neg c3] at h ⊢
  have h2 := numR_app (k := 2) (bs := bs) (a := p) t
  have g2 := numR_go 2 bs p
  obtain ⟨⟨n, p2, e2⟩, hn⟩ : ∃ q, q = numR 2 bs p := ⟨_, rfl⟩
  rw [← hn] at h h2 g2
  simp only at h h2 g2
  by_cases c4 : e2 ≠ 0 ∨ 4096 < n
  · rw [if_pos c4] at h; cases h
  rw [if_neg c4] at h
  have e20 : e2 = 0 := by simpa using fun q => c4 (.inl q)
  rw [h2 e20]
  simp only
  rw [if_neg c4]
  have g2 := g2 e20
  have h3 := takeR_app (bs := bs) (a := p2) (n := n) t (by omega)
  obtain ⟨⟨b, p3, e3⟩, ht⟩ : ∃ q, q = takeR bs p2 n := ⟨_, rfl⟩
  rw [← ht] at h h3
  simp only at h h3
  by_cases c5 : e3 ≠ 0
  · rw [if_pos c5] at h; cases h
  rw [if_neg c5] at h
  rw [h3 (by simpa using c5)]
  simp only
  rw [if_neg c5]
  exact h
inductive Par (nm : ByteArray → Bool) (bs : List Int) : List S101 → Nat → List S101 → Nat → Prop
  | refl (L : List S101) (a : Nat) : Par nm bs L a L a
  | step {L : List S101} {a : Nat} {q : List S101 × Nat} {L' : List S101} {a' : Nat} (ha : a < bs.length) (hz : rd bs (a : Int) ≠ 0) (hq : recS nm bs L a = some q) (h : Par nm bs q.1 q.2 L' a') : Par nm bs L a L' a'
theorem Par.app {nm : ByteArray → Bool} {bs : List Int} {L L' : List S101} {a a' : Nat} (h : Par nm bs L a L' a') (t : List Int) : Par nm (bs ++ t) L a L' a' := by
  induction h with
  | refl L a => exact .refl L a
  | step ha hz hq _ ih => exact .step (by rw [List.length_append]; omega) (by rw [rd_app ha]; exact hz) (recS_app t ha hq) ih
theorem Par.trans {nm : ByteArray → Bool} {bs : List Int} {L L' L2 : List S101} {a a' a2 : Nat} (h : Par nm bs L a L' a') (h2 : Par nm bs L' a' L2 a2) : Par nm bs L a L2 a2 := by
  induction h with
  | refl L a => exact h2
  | step ha hz hq _ ih => exact .step ha hz hq (ih h2)
theorem Par.open {nm : ByteArray → Bool} {bs : List Int} {L L' : List S101} {a a' : Nat} (h : Par nm bs L a L' a') (hs : ¬ (a' < bs.length ∧ rd bs (a' : Int) ≠ 0)) : ∀ k, bs.length - a < k → Srt L → L.length ≤ 16 → openG nm bs k L a = some (L', a') := by
  induction h with
  | refl L a =>
    intro k hk _ _
    obtain ⟨k, rfl⟩ : ∃ j, k = j + 1 := ⟨k - 1, by omega⟩
    unfold openG
    rw [if_neg hs]
  | step ha hz hq _ ih =>
    intro k hk h1 h2
    obtain ⟨k, rfl⟩ : ∃ j, k = j + 1 := ⟨k - 1, by omega⟩
    obtain ⟨g1, g2, g3, g4⟩ := recS_go hq h1 h2
    unfold openG
    rw [if_pos ⟨ha, hz⟩, hq]
    exact ih hs k (by omega) g3 g4
def sumL : List S101 → Nat
  | [] => 0
  | k :: l => k.f0.size + 4 + k.f1.length + sumL l
theorem sum_put (x : ByteArray) (b : List Int) (L : List S101) : sumL (putL x b L) ≤ sumL L + (x.size + 4 + b.length) := by
  induction L with
  | nil => simp [putL, sumL]
  | cons k l ih =>
    unfold putL
    split
    · simp only [sumL]; omega
    · split
      · rename_i h2; simp only [sumL]; omega
      · simp only [sumL]; omega
theorem sum_cut (x : ByteArray) (L : List S101) : sumL (cutL x L) ≤ sumL L := by
  induction L with
  | nil => simp [cutL, sumL]
  | cons k l ih =>
    unfold cutL
    split
    · simp only [sumL]; omega
    · split <;> simp only [sumL] <;> omega
theorem rec1_len' (x : ByteArray) (b : List Int) : (recB 1 x b).length = x.size + 4 + b.length := by unfold recB; simp [bytes_len]; omega
structure Inv (nm : ByteArray → Bool) (s : Sto) : Prop where
  good : Good nm s
  par : Par nm s.img [] 0 s.L s.img.length
  sum : sumL s.L ≤ s.img.length
theorem inv_new (nm : ByteArray → Bool) : Inv nm ⟨[], []⟩ := ⟨good_new nm, .refl _ _, Nat.le_refl _⟩
theorem Inv.opens {nm : ByteArray → Bool} {s : Sto} (h : Inv nm s) (J : List Int) (hJ : J = [] ∨ rd J 0 = 0) (hl : (s.img ++ J).length ≤ 1048576) : openS nm (s.img ++ J) = some s := by
  unfold openS
  rw [if_neg (by omega), (h.par.app J).open ?_ _ (by omega) List.Pairwise.nil (by decide)]
  · show some (Sto.mk ((s.img ++ J).take s.img.length) s.L) = some s
    rw [List.take_left]
  · rintro ⟨h1, h2⟩
    rcases hJ with rfl | hJ
    · rw [List.append_nil] at h1; omega
    · apply h2
      unfold rd at hJ ⊢
      rw [Int.toNat_natCast, List.getD_eq_getElem?_getD, List.getElem?_append_right (Nat.le_refl _), Nat.sub_self]
      rw [List.getD_eq_getElem?_getD] at hJ
      exact hJ
theorem Inv.opens0 {nm : ByteArray → Bool} {s : Sto} (h : Inv nm s) : openS nm s.img = some s := by
  have := h.opens [] (.inl rfl) (by rw [List.append_nil]; exact h.good.img)
  rwa [List.append_nil] at this
theorem rd_right (bs t : List Int) (i : Nat) : rd (bs ++ t) ((bs.length + i : Nat) : Int) = rd t (i : Int) := by
  unfold rd
  rw [Int.toNat_natCast, Int.toNat_natCast, List.getD_eq_getElem?_getD, List.getD_eq_getElem?_getD, List.getElem?_append_right (by omega)]
  congr 2
  omega
theorem seg_right (bs t : List Int) (i n : Nat) : seg (bs ++ t) (bs.length + i) n = seg t i n := by
  unfold seg
  rw [List.take_append, List.drop_append, List.drop_eq_nil_of_le (by rw [List.length_take]; omega), List.nil_append, List.length_take, Nat.min_eq_right (by omega)]
  congr 2 <;> omega
theorem nameR_rec {nm : ByteArray → Bool} (img : List Int) (k : Int) (x : ByteArray) (post : List Int) (hx : nm x = true) (hs : 1 ≤ x.size ∧ x.size ≤ 24) :
    nameR nm (img ++ ([k, (x.size : Int) % 256] ++ bytesOf x ++ post)) (img.length + 1) = (x, img.length + 2 + x.size, 0) := by
  have hb := bytes_len x
  have hr : rd (img ++ ([k, (x.size : Int) % 256] ++ bytesOf x ++ post)) ((img.length + 1 : Nat) : Int) = (x.size : Int) := by
    rw [rd_right]
    show (x.size : Int) % 256 = _
    omega
  have hseg : seg (img ++ ([k, (x.size : Int) % 256] ++ bytesOf x ++ post)) (img.length + 1 + 1) x.size = bytesOf x := by
    rw [show img.length + 1 + 1 = img.length + 2 from rfl, seg_right]
    unfold seg
    rw [List.append_assoc, show 2 + x.size = ([k, (x.size : Int) % 256] : List Int).length + x.size from rfl, List.take_length_add_append]
    rw [show ([k, (x.size : Int) % 256] ++ List.take x.size (bytesOf x ++ post)).drop 2 = List.take x.size (bytesOf x ++ post) from rfl]
    rw [← hb, List.take_left]
  unfold nameR
  rw [hr, if_neg (by simp; omega), if_neg (by omega), Int.toNat_natCast, if_neg (by simp [hb]; omega), hseg, str_of_bytes, if_pos hx]
theorem rec_step {nm : ByteArray → Bool} {s : Sto} (h : Inv nm s) (hz : ∀ x, nm x = true → 1 ≤ x.size ∧ x.size ≤ 24) (x : ByteArray) (hx : nm x = true) (b : List Int) (hb : b.length ≤ 4096) (hl : (putL x b s.L).length ≤ 16) : recS nm (s.img ++ recB 1 x b) s.L s.img.length = some (putL x b s.L, (s.img ++ recB 1 x b).length) := by
  have hs := hz x hx
  have hn := nameR_rec (nm := nm) s.img 1 x ([(b.length : Int) / 256 % 256, (b.length : Int) % 256] ++ b) hx hs
  have he : recB 1 x b = [1, (x.size : Int) % 256] ++ bytesOf x ++ ([(b.length : Int) / 256 % 256, (b.length : Int) % 256] ++ b) := by unfold recB; rw [if_pos rfl]
  have hbl := bytes_len x
  have hr := rec1_len' x b
  have hk : rd (s.img ++ recB 1 x b) ((s.img.length : Nat) : Int) = 1 := by
    have := rd_right s.img (recB 1 x b) 0
    rw [Nat.add_zero] at this
    rw [this, he]; rfl
  have hseg2 : seg (s.img ++ recB 1 x b) (s.img.length + 2 + x.size) 2 = [(b.length : Int) / 256 % 256, (b.length : Int) % 256] := by
    rw [Nat.add_assoc, seg_right, he]
    unfold seg
    rw [show 2 + x.size + 2 = ([1, (x.size : Int) % 256] ++ bytesOf x : List Int).length + 2 by simp [hbl] <;> omega, List.take_length_add_append, List.drop_append_of_le_length (by simp [hbl] <;> omega), List.drop_eq_nil_of_le (by simp [hbl] <;> omega)]
    rfl
  have hseg3 : seg (s.img ++ recB 1 x b) (s.img.length + 2 + x.size + 2) b.length = b := by
    rw [show s.img.length + 2 + x.size + 2 = s.img.length + (x.size + 4) by omega, seg_right, he]
    unfold seg
    rw [← List.append_assoc, show x.size + 4 + b.length = ([1, (x.size : Int) % 256] ++ bytesOf x ++ [(b.length : Int) / 256 % 256, (b.length : Int) % 256] : List Int).length + b.length by simp [hbl] <;> omega, List.take_length_add_append, List.take_of_length_le (Nat.le_refl _), List.drop_append_of_le_length (by simp [hbl] <;> omega), List.drop_eq_nil_of_le (by simp [hbl] <;> omega)]
    rfl
  rw [← he] at hn
  unfold recS
  rw [hn, hk]
  simp only
  rw [if_neg (by decide), if_neg (by rintro ⟨q, _⟩; cases q), if_neg (by decide)]
  have h2 : numR 2 (s.img ++ recB 1 x b) (s.img.length + 2 + x.size) = ((b.length : Int), s.img.length + 2 + x.size + 2, 0) := by
    unfold numR
    rw [if_neg (by simp [hr]; omega), hseg2]
    simp [valR, numOf]
    omega
  rw [h2]
  simp only
  rw [if_neg (by omega)]
  have h3 : takeR (s.img ++ recB 1 x b) (s.img.length + 2 + x.size + 2) (b.length : Int) = (b, s.img.length + 2 + x.size + 2 + b.length, 0) := by
    unfold takeR
    rw [if_neg (by omega), if_neg (by simp [hr]; omega), Int.toNat_natCast, hseg3]
  rw [h3]
  simp only
  rw [if_neg (by decide), if_neg (by omega), List.length_append, hr]
  congr 2
  omega
theorem cut_step {nm : ByteArray → Bool} {s : Sto} (hz : ∀ x, nm x = true → 1 ≤ x.size ∧ x.size ≤ 24) (x : ByteArray) (hx : nm x = true) (hl : (lkL s.L x).isSome = true) : recS nm (s.img ++ recB 2 x []) s.L s.img.length = some (cutL x s.L, (s.img ++ recB 2 x []).length) := by
  have hs := hz x hx
  have hn := nameR_rec (nm := nm) s.img 2 x [] hx hs
  have he : recB 2 x [] = [2, (x.size : Int) % 256] ++ bytesOf x ++ [] := by unfold recB; rw [if_neg (by decide)]
  have hbl := bytes_len x
  have hk : rd (s.img ++ recB 2 x []) ((s.img.length : Nat) : Int) = 2 := by
    have := rd_right s.img (recB 2 x []) 0
    rw [Nat.add_zero] at this
    rw [this, he]; rfl
  rw [← he] at hn
  unfold recS
  rw [hn, hk]
  simp only
  rw [if_neg (by decide), if_pos ⟨trivial, hl⟩, List.length_append, he]
  simp [hbl]
  omega
theorem inv_put {nm : ByteArray → Bool} (hz : ∀ x, nm x = true → 1 ≤ x.size ∧ x.size ≤ 24) {s : Sto} (h : Inv nm s) (x : ByteArray) (b : List Int) (hb : ∀ z ∈ b, 0 ≤ z ∧ z ≤ 255) : Inv nm (putS nm s x b).1 := by
  have hg := good_put h.good x b hb
  unfold putS at hg ⊢
  by_cases c1 : nm x = false
  · rw [if_pos c1]; exact h
  rw [if_neg c1] at hg ⊢
  by_cases c2 : 4096 < b.length
  · rw [if_pos c2]; exact h
  rw [if_neg c2] at hg ⊢
  by_cases c3 : lkL s.L x = none ∧ 16 ≤ s.L.length
  · rw [if_pos c3]; exact h
  rw [if_neg c3] at hg ⊢
  rcases laid_cases s (putL x b s.L) (recB 1 x b) with e | ⟨hl, e⟩
  · rw [e]; exact h
  rw [e] at hg ⊢
  have hr := rec1_len' x b
  refine ⟨hg, (h.par.app _).trans (.step (by rw [List.length_append]; omega) ?_ (rec_step h hz x (by simpa using c1) b (by omega) hg.len) (.refl _ _)), ?_⟩
  · have := rd_right s.img (recB 1 x b) 0
    rw [Nat.add_zero] at this
    rw [this]; exact (by decide : (1 : Int) ≠ 0)
  · show sumL (putL x b s.L) ≤ (s.img ++ recB 1 x b).length
    have := sum_put x b s.L
    have := h.sum
    rw [List.length_append, hr]
    omega
theorem inv_drop {nm : ByteArray → Bool} (hz : ∀ x, nm x = true → 1 ≤ x.size ∧ x.size ≤ 24) {s : Sto} (h : Inv nm s) (x : ByteArray) : Inv nm (dropS nm s x).1 := by
  have hg := good_drop h.good x
  unfold dropS at hg ⊢
  by_cases c1 : nm x = false
  · rw [if_pos c1]; exact h
  rw [if_neg c1] at hg ⊢
  by_cases c3 : lkL s.L x = none
  · rw [if_pos c3]; exact h
  rw [if_neg c3] at hg ⊢
  rcases laid_cases s (cutL x s.L) (recB 2 x []) with e | ⟨hl, e⟩
  · rw [e]; exact h
  rw [e] at hg ⊢
  refine ⟨hg, (h.par.app _).trans (.step ?_ ?_ (cut_step hz x (by simpa using c1) ?_) (.refl _ _)), ?_⟩
  · rw [List.length_append]; unfold recB; simp
  · have := rd_right s.img (recB 2 x []) 0
    rw [Nat.add_zero] at this
    rw [this]; exact (by decide : (2 : Int) ≠ 0)
  · cases hq : lkL s.L x with
    | none => exact absurd hq c3
    | some y => rfl
  · show sumL (cutL x s.L) ≤ (s.img ++ recB 2 x []).length
    have := sum_cut x s.L
    have := h.sum
    rw [List.length_append]
    omega
theorem put_last {L : List S101} (x : ByteArray) (b : List Int) (h : ∀ k ∈ L, lessB k.f0 x = true) : putL x b L = L ++ [⟨x, b⟩] := by
  induction L with
  | nil => rfl
  | cons k l ih =>
    unfold putL
    rw [if_pos (h k List.mem_cons_self), ih (fun k' hk => h k' (List.mem_cons_of_mem _ hk)), List.cons_append]
theorem pack_eq {nm : ByteArray → Bool} (hz : ∀ x, nm x = true → 1 ≤ x.size ∧ x.size ≤ 24) {s : Sto} (hg : Good nm s) (i : Nat) (hi : i ≤ s.L.length) : packO nm s.L i = ⟨(s.L.take i).flatMap fun k => recB 1 k.f0 k.f1, s.L.take i⟩ := by
  induction i with
  | zero => rfl
  | succ i ih =>
    have hlt : i < s.L.length := by omega
    rw [packO_succ nm s.L i hlt, ih (by omega)]
    have hm := List.getElem_mem hlt
    have hn := hg.nam _ hm
    have hv := hg.val _ hm
    have hless : ∀ k ∈ s.L.take i, lessB k.f0 s.L[i].f0 = true := by
      intro k hk
      obtain ⟨j, hj, rfl⟩ := List.mem_iff_getElem.1 hk
      rw [List.length_take] at hj
      rw [List.getElem_take]
      exact List.pairwise_iff_getElem.1 hg.srt j i (by omega) hlt (by omega)
    have hlen : ∀ j, j ≤ s.L.length → ((s.L.take j).flatMap fun k => recB 1 k.f0 k.f1).length ≤ j * 4124 := by
      intro j
      induction j with
      | zero => intro _; simp
      | succ j ihj =>
        intro hj
        rw [List.take_succ_eq_append_getElem (by omega), List.flatMap_append, List.length_append]
        have := ihj (by omega)
        have h1 := hg.nam _ (List.getElem_mem (show j < s.L.length by omega))
        have h2 := hz _ h1
        have h3 := hg.val _ (List.getElem_mem (show j < s.L.length by omega))
        simp only [List.flatMap_cons, List.flatMap_nil, List.append_nil, rec1_len']
        omega
    have hl16 := hg.len
    have h1 := hlen i (by omega)
    have h2 := hz _ hn
    unfold putS
    rw [if_neg (by rw [hn]; decide), if_neg (by omega), if_neg (by rintro ⟨_, q⟩; simp only [List.length_take] at q; omega)]
    unfold laidS
    rw [if_neg (by simp only [rec1_len']; have := hv.1; omega), put_last _ _ hless]
    rw [List.take_succ_eq_append_getElem hlt, List.flatMap_append]
    simp
    rw [List.take_succ_eq_append_getElem hlt]
theorem inv_pack {nm : ByteArray → Bool} (hz : ∀ x, nm x = true → 1 ≤ x.size ∧ x.size ≤ 24) {s : Sto} (h : Inv nm s) : Inv nm (packO nm s.L s.L.length) := by
  have : ∀ i, i ≤ s.L.length → Inv nm (packO nm s.L i) := by
    intro i
    induction i with
    | zero => intro _; exact inv_new nm
    | succ i ih =>
      intro hi
      rw [packO_succ nm s.L i (by omega)]
      exact inv_put hz (ih (by omega)) _ _ (h.good.val _ (List.getElem_mem _)).2
  exact this _ (Nat.le_refl _)
end
end Go.Proofs.Ytfakdphkklclgaa.P

end

section
namespace Go.Proofs.Ytfakdphkklclgaa.P
open Go.RowKit Go.Proofs.YtfakdphkklclgaaW.PrintWords Go.Proofs.YtfakdphkklclgaaW.PrintLast Go.Proofs.YtfakdphkklclgaaW.PrintMore
attribute [local go_sem] max2_int min2_int max_two min_two max_three min_three max_four min_four
set_option linter.unusedVariables false
set_option linter.unusedSimpArgs false
section
open Go.ChangeMaps Go.MapKept
set_option linter.unusedVariables false
structure LFacts (K : Nat) (nm : ByteArray → Bool) : Prop where
  st : StFacts K nm
  un : ∀ l : List Int, l.length ≤ 140737488351232 → provisoplain_Untouched.f K (l ++ [165, 90, 195, 60]) l = some true
theorem F_of_C {w : World} {A : Option Addr} {n : Nat} {xs : List Int} (h : Kd.C (Kd.int .u8) w A n xs) : Kd.F (Kd.int .u8) w (fun k => k < w.heap.size) A n xs := fun W' hW => by
  have hsz : w.heap.size ≤ W'.heap.size := by
    rcases Nat.eq_zero_or_pos w.heap.size with e | e
    · omega
    · have h1 := hW (w.heap.size - 1) (by omega) (by omega)
      rcases Nat.lt_or_ge (w.heap.size - 1) W'.heap.size with q | q
      · omega
      · rw [Array.getElem?_eq_none q, Array.getElem?_eq_getElem (by omega)] at h1
        cases h1
  have h2 := Kd.C_below h (w1 := { W' with os := w.os, tape := w.tape, output := w.output }) ⟨rfl, rfl, rfl, hsz, fun k hk => hW k hk hk⟩
  exact h2
end
end Go.Proofs.Ytfakdphkklclgaa.P

end

section
namespace Go.Proofs.Ytfakdphkklclgaa.P
open Go.RowKit Go.Proofs.YtfakdphkklclgaaW.PrintWords Go.Proofs.YtfakdphkklclgaaW.PrintLast Go.Proofs.YtfakdphkklclgaaW.PrintMore
attribute [local go_sem] max2_int min2_int max_two min_two max_three min_three max_four min_four
set_option linter.unusedVariables false
set_option linter.unusedSimpArgs false
section
open Go.ChangeMaps Go.MapKept
set_option linter.unusedVariables false
structure LSt (w0 : World) (bx g : Nat) (s : Sto) (cs : Array Value) (F Z : Nat → Prop) (W : World) : Prop where
  rows : Rws w0 [(bx, 29, cs)] W
  st : SAt w0.heap.size F g s W
  dt : DAt Z (.agg cs) s W
  dis : ∀ k, Z k → ¬ F k
  nF : ¬ F bx
  nZ : ¬ Z bx
section
variable {w0 W W1 : World} {bx g : Nat} {s : Sto} {cs : Array Value} {F Z S : Nat → Prop}
theorem LSt.kept (h : LSt w0 bx g s cs F Z W) (hk : Kept W W1 S) (hS : ∀ k, F k ∨ Z k ∨ k = bx → ¬ S k) (hb : Below w0.heap.size w0 W1) : LSt w0 bx g s cs F Z W1 :=
  ⟨h.rows.keptF hk (fun p hp => by rw [List.mem_singleton.1 hp]; exact hS _ (.inr (.inr rfl))) hb, h.st.kept hk (fun k q => hS k (.inl q)), h.dt.kept hk (fun k q => hS k (.inr (.inl q))), h.dis, h.nF, h.nZ⟩
theorem LSt.step (h : LSt w0 bx g s cs F Z W) (hb : Below W.heap.size W W1) : LSt w0 bx g s cs F Z W1 :=
  h.kept (S := fun _ => False) (Kept.of_below hb _) (fun _ _ q => q) (h.rows.step hb).below
theorem LSt.bx_lt (h : LSt w0 bx g s cs F Z W) : bx < W.heap.size := blk_lt (h.rows.mem List.mem_cons_self)
end
theorem new_LSt {w w1 w2 : World} {bx g : Nat} (hs : SAt w.heap.size (fun b => w.heap.size ≤ b ∧ b < w1.heap.size) g ⟨[], []⟩ w1) (hb : Below w1.heap.size w1 w2) (hm : Rws w [(bx, 29, #[.slice none 0 0, .slice none 0 0])] w2) (he : bx = w1.heap.size) : LSt w bx g ⟨[], []⟩ #[.slice none 0 0, .slice none 0 0] (fun b => w.heap.size ≤ b ∧ b < w1.heap.size) (fun _ => False) w2 :=
  ⟨hm, hs.step hb, DAt.zero _ _, fun _ q => q.elim, fun q => by omega, fun q => q⟩
theorem LSt.done {w0 w5 w9 W : World} {bx g : Nat} {s s' : Sto} {cs cs' : Array Value} {F Z F' Z' : Nat → Prop} (h : LSt w0 bx g s cs F Z W) (hF : ∀ k, F' k → F k ∨ W.heap.size ≤ k) (hZ : ∀ k, Z' k → Z k ∨ W.heap.size ≤ k) (hd : ∀ k, Z' k → ¬ F' k) (hS : SAt w0.heap.size F' g s' w5) (hD : DAt Z' (.agg cs') s' w5) (hk : Kept w5 w9 (fun k => k = bx)) (hm : Rws w0 [(bx, 29, cs')] w9) : LSt w0 bx g s' cs' F' Z' w9 := by
  have hl := h.bx_lt
  have n1 : ¬ F' bx := fun q => (hF bx q).elim h.nF (fun q => by omega)
  have n2 : ¬ Z' bx := fun q => (hZ bx q).elim h.nZ (fun q => by omega)
  exact ⟨hm, hS.kept hk (fun k q e => n1 (e ▸ q)), hD.kept hk (fun k q e => n2 (e ▸ q)), hd, n1, n2⟩
theorem Rws.single {w0 W : World} {p : Nat × TypeId × Array Value} {l : List (Nat × TypeId × Array Value)} (h : Rws w0 l W) (hp : p ∈ l) : Rws w0 [p] W := ⟨fun q hq => by rw [List.mem_singleton.1 hq]; exact h.lies p hp, by simp, h.below⟩
theorem umod (z : Int) (k : Int) (hk : 0 < k) (hk2 : k ≤ 1000) : wrap64 ((IntKind.u64.wrap z).tmod k) = (z % 18446744073709551616) % k := by
  have h1 : IntKind.u64.wrap z = z % 18446744073709551616 := by simp [IntKind.wrap, IntKind.signed, IntKind.bits]
  rw [h1, Int.tmod_eq_emod_of_nonneg (by omega)]
  have h2 := Int.emod_lt_of_pos (z % 18446744073709551616) hk
  have h3 := Int.emod_nonneg (z % 18446744073709551616) (show k ≠ 0 by omega)
  generalize (z % 18446744073709551616) % k = q at h2 h3
  unfold wrap64
  omega
end
end Go.Proofs.Ytfakdphkklclgaa.P

end

section
namespace Go.Proofs.Ytfakdphkklclgaa.P
open Go.RowKit Go.Proofs.YtfakdphkklclgaaW.PrintWords Go.Proofs.YtfakdphkklclgaaW.PrintLast Go.Proofs.YtfakdphkklclgaaW.PrintMore
attribute [local go_sem] max2_int min2_int max_two min_two max_three min_three max_four min_four
set_option linter.unusedVariables false
set_option linter.unusedSimpArgs false
section
open Go.ChangeMaps Go.MapKept
set_option linter.unusedVariables false
def provisolaw21_StorePlays.Facts (l0 : List S37) : Prop := (∃ (K : Nat) (nm : ByteArray → Bool), LFacts K nm) ∧ l0.length ≤ 8796093022207 ∧ ∀ (i : Nat) (hi : i < l0.length), l0[i].f1.size ≤ maxLen ∧ l0[i].f2.length ≤ 140737488351232 ∧ ∀ z ∈ l0[i].f2, 0 ≤ z ∧ z ≤ 255
set_option maxHeartbeats 12800000 in
set_option maxRecDepth 100000 in
theorem provisolaw21_StorePlays.calls (A0 : Option Addr) (c0 : Nat) (l0 : List S37) (w : World) (hr0 : Kd.C k37 w A0 l0.length l0) (hc0 : l0.length ≤ c0) (h : provisolaw21_StorePlays.Facts l0) :
    Calls Try.prog 8 #[.slice A0 l0.length c0] w fun e w' => e = .returned (.bool true) ∧ Below w.heap.size w w' := by
  obtain ⟨⟨KK, nm, hK⟩, hlim, hd⟩ := h
  have HK := Aside0.mk hK
  have HLIM := Aside0.mk hlim
  have HD := Aside0.mk hd
  have HR0 := Aside0.mk hr0
  have HC0 := Aside0.mk hc0
  clear hK hlim hd hr0 hc0
  go_enter Try.func8, Try.ntmps8
  go_wp2_with fail
  refine (New_st w).mono ?_
  rintro e_ w1 ⟨g, rfl, hs, hb⟩
  have HS := Aside0.mk hs
  have HN1 := Aside0.mk (show Rws w [] w1 from ⟨fun _ q => (by simp at q), by simp, hb⟩)
  clear hs hb
  have HWB := Aside0.mk HN1.out.below
  go_wp2_with (first | ((with_reducible refine gate_dst (N := 4) rfl ?_); refine rw_allocS rfl 29 rfl (cs := #[.slice none 0 0, .slice none 0 0]) (by kernel_rfl) HN1.out ?_; intro bx wx hg6 hM hb6; have HMX := Aside0.mk hM; have HBX := Aside0.mk hb6; have HEX := Aside0.mk hg6; clear hg6 hM hb6) | ((with_reducible refine gate_dst (N := 19) rfl ?_); refine rw_load rfl 29 rfl rfl HMX.out List.mem_cons_self _ Try.underlying29 rfl (by kernel_rfl) ?_))
  have H := Aside0.mk (new_LSt HS.out HBX.out HMX.out HEX.out)
  have HI := Aside0.mk (inv_new nm)
  clear HS HN1
  refine (alike_st KK nm HK.out.st HI.out.good H.out.st H.out.dt).mono ?_
  rintro e_ w2 ⟨rfl, hb⟩
  replace H := Aside0.mk (H.out.step hb)
  clear hb
  go_wp2_with fail
  go_loopw [24, 3] (fun v24 v3 wr => ∃ (i g : Nat) (s : Sto) (cs : Array Value) (F Z : Nat → Prop), v24 = .int .i64 (i : Int) ∧ v3 = .pointer (some ⟨g, 0, none⟩) ∧ i ≤ l0.length ∧ Aside0 (LSt w bx g s cs F Z wr) ∧ Aside0 (Inv nm s)) (fun v24 _ _ => ((l0.length : Int) - intOf v24).toNat)
  case atStart => exact ⟨0, g, _, _, _, _, rfl, rfl, Nat.zero_le _, H, HI⟩
  case round =>
    clear H HI HMX HBX HEX HWB
    obtain ⟨i, g, s, cs, F, Z, rfl, rfl, hi, H, HI⟩ := hrel
    by_cases c2_ : i < l0.length
    · have c2b : decide ((i : Int) < (l0.length : Int)) = true := decide_eq_true (by omega)
      have c2c : decide (i < l0.length) = true := decide_eq_true c2_
      have p5 : (0 ≤ (i : Int)) = True := eq_true (by omega)
      have p6 : ((i : Int) < (l0.length : Int)) = True := eq_true (by omega)
      have HIL : Aside0 (i < l0.length) := ⟨c2_⟩
      have HRW : Aside0 (wrap64 ((i : Int) + 1) = ((i + 1 : Nat) : Int)) := ⟨by have := HLIM.out; unfold wrap64; omega⟩
      have hbx := H.out.rows.below
      obtain ⟨ad, Ad, cd, e1, hx0, hx1, hx2, hcd, hby⟩ := at_T37 HR0.out (i : Int) (by omega) (by omega)
      cases e1
      replace hx0 := (hbx.cell (World.block_lt_of_cell? w _ hx0)).trans hx0
      replace hx1 := (hbx.cell (World.block_lt_of_cell? w _ hx1)).trans hx1
      replace hx2 := (hbx.cell (World.block_lt_of_cell? w _ hx2)).trans hx2
      have hdo := HD.out i c2_
      have hrd : rd_T37 l0 (i : Int) = l0[i] := by unfold rd_T37; rw [Int.toNat_natCast, List.getD_eq_getElem?_getD, List.getElem?_eq_getElem c2_]; rfl
      simp only [Int.toNat_natCast] at hx0 hx1 hx2
      rw [hrd] at hx0 hx1 hx2 hcd hby
      have HD0 := Aside0.mk hdo
      have HBF := Aside0.mk (Kd.F_below (F_of_C hby) hbx)
      have HCD := Aside0.mk hcd
      obtain ⟨op, hop⟩ : ∃ z, z = l0[i].f0 := ⟨_, rfl⟩
      obtain ⟨x, hxn⟩ : ∃ z, z = l0[i].f1 := ⟨_, rfl⟩
      obtain ⟨b, hbn⟩ : ∃ z, z = l0[i].f2 := ⟨_, rfl⟩
      rw [← hop] at hx0
      rw [← hxn] at hx1
      rw [← hbn] at hx2
      have HOP := Aside0.mk (And.intro hop (And.intro hxn hbn))
      replace HD0 := Aside0.mk (show x.size ≤ maxLen ∧ b.length ≤ 140737488351232 ∧ ∀ z ∈ b, 0 ≤ z ∧ z ≤ 255 by rw [hxn, hbn]; exact HD0.out)
      replace HBF := Aside0.mk (show Kd.F (Kd.int .u8) wr (fun k => k < w.heap.size) Ad b.length b by rw [hbn]; exact HBF.out)
      replace HCD := Aside0.mk (show b.length ≤ cd by rw [hbn]; exact HCD.out)
      obtain ⟨Ax, cx, Ay, cy, ecs, _⟩ := H.out.dt.now
      injection ecs with ecs
      subst ecs
      have HMR := Aside0.mk H.out.rows
      clear hbx hcd hby hdo hrd hop hxn hbn
      obtain ⟨r, hr⟩ : ∃ r, r = (op % 18446744073709551616) % 6 := ⟨_, rfl⟩
      have hr6 : r = 0 ∨ r = 1 ∨ r = 2 ∨ r = 3 ∨ r = 4 ∨ r = 5 := by omega
      rcases hr6 with e | e | e | e | e | e
      · subst e
        have hE : wrap64 ((IntKind.u64.wrap op).tmod 6) = 0 := (umod op 6 (by decide) (by decide)).trans (by omega)
        clear hr
        have HE := Aside0.mk hE
        go_wp2_with (first | ((with_reducible refine gate_dst (N := 6) rfl ?_); refine rw_allocS rfl 37 rfl (cs := #[.int .i64 0, .string ⟨#[]⟩, .slice none 0 0]) (by kernel_rfl) HMR.out ?_; intro b6 w2 hg6 hM hb6; have HM2 := Aside0.mk hM; have HB2 := Aside0.mk hb6; have HE6 := Aside0.mk hg6; clear hg6 hM hb6) | (refine rw_storeS rfl 37 rfl rfl (cs' := #[.int .i64 op, .string x, .slice Ad b.length cd]) rfl [] HM2.out (by kernel_rfl) rfl (by show _ = _; simp [Value.oneCell']) ?_; intro w3 hM hk3; have HM3 := Aside0.mk hM; have HK3 := Aside0.mk hk3; have hc60 := blk_cell (hM.mem List.mem_cons_self) 0; have hc61 := blk_cell (hM.mem List.mem_cons_self) 1; clear hM hk3) | (refine rw_cell rfl 3 rfl (g := b6) (i := 0) rfl (u := .int .i64 (wrap64 ((IntKind.u64.wrap op).tmod 6))) rfl rfl [] HM3.out (by show (0 : Nat) < 3; decide) (by kernel_rfl) ?_; intro w4 hM hk3; rw [HE.out] at hM; have HM4 := Aside0.mk (show Rws w [(b6, 37, #[.int .i64 0, .string x, .slice Ad b.length cd]), (bx, 29, #[.slice Ax s.img.length cx, .slice Ay s.L.length cy])] w4 from hM); have HK4 := Aside0.mk hk3; clear hM hk3) | ((with_reducible refine gate_dst (N := 45) rfl ?_); refine rw_load rfl 29 rfl rfl HM4.out (List.mem_cons_of_mem _ List.mem_cons_self) _ Try.underlying29 rfl (by kernel_rfl) ?_) | ((with_reducible refine gate_dst (N := 46) rfl ?_); refine rw_load rfl 37 rfl rfl HM4.out List.mem_cons_self _ Try.underlying37 rfl (by kernel_rfl) ?_))
        have HKR := Aside0.mk (show Kept wr w4 (fun _ => False) from ⟨Nat.le_trans HB2.out.size (Nat.le_trans HK3.out.1 HK4.out.1), fun k hk _ => by
          have h6 := HE6.out
          have h2 := HB2.out.size
          have h3 := HK3.out.1
          exact (HK4.out.2 k (by omega) (by omega)).trans ((HK3.out.2 k (by omega) (by omega)).trans (HB2.out.block k hk))⟩)
        have H4 := Aside0.mk (H.out.kept HKR.out (fun _ _ q => q) HM4.out.below)
        refine (do_put KK nm HK.out.st HK.out.un HI.out.good x HD0.out.1 b Ad cd HD0.out.2.1 (Kd.F_kept HBF.out HKR.out (fun _ _ q => q)) HCD.out HM4.out.below H4.out.st H4.out.dt H4.out.dis).mono ?_
        rintro e_ w5 ⟨y, m, F', Z', M, rfl, d1, d2, d3, d4, d5, d6, d7, d8, d9⟩
        obtain ⟨A15, c15, A16, c16, e15, _⟩ := d2.now
        subst e15
        have HMW := Aside0.mk (And.intro d3 d7)
        have HDO := Aside0.mk (And.intro d1 (And.intro d2 (And.intro d4 (And.intro d5 d6))))
        have HM5 := Aside0.mk (HM4.out.keptF d8 (fun p hp => by
          rcases List.mem_cons.1 hp with rfl | hp
          · exact fun q => by have := (H4.out.st.lt _ q).2; have := (H.out.st.lt _ q).2; have := HE6.out; simp only at *; omega
          · rw [List.mem_singleton.1 hp]; exact H.out.nF) d9)
        clear d1 d2 d3 d4 d5 d6 d7 d8 d9 hc60 hc61
        go_wp2_with (first | ((with_reducible refine gate_dst (N := 8) rfl ?_); refine rw_allocS rfl 29 rfl (cs := #[.slice none 0 0, .slice none 0 0]) (by kernel_rfl) HM5.out ?_; intro b8 w6 hg6 hM hb6; have HM6 := Aside0.mk hM; have HB6 := Aside0.mk hb6; have HE8 := Aside0.mk hg6; clear hg6 hM hb6) | (refine rw_storeS rfl 29 rfl rfl (cs' := #[.slice A15 (putS nm s x b).1.img.length c15, .slice A16 (putS nm s x b).1.L.length c16]) rfl [] HM6.out (by kernel_rfl) rfl (by show _ = _; simp [Value.oneCell']) ?_; intro w7 hM hk3; have HM7 := Aside0.mk hM; have HK7 := Aside0.mk hk3; clear hM hk3) | ((with_reducible refine gate_dst (N := 53) rfl ?_); refine rw_load rfl 29 rfl rfl HM7.out List.mem_cons_self _ Try.underlying29 rfl (by kernel_rfl) ?_) | (refine rw_storeS rfl 29 rfl rfl (cs' := #[.slice A15 (putS nm s x b).1.img.length c15, .slice A16 (putS nm s x b).1.L.length c16]) rfl [_, _] HM7.out (by kernel_rfl) rfl (by show _ = _; simp [Value.oneCell']) ?_; intro w8 hM hk3; have HM8 := Aside0.mk hM; have HK8 := Aside0.mk hk3; clear hM hk3))
        have hk58 : Kept w5 w8 (fun k => k = bx) := ⟨Nat.le_trans HB6.out.size (Nat.le_trans HK7.out.1 HK8.out.1), fun k hk hn => by
          have h6 := HE8.out
          have h2 := HB6.out.size
          have h3 := HK7.out.1
          exact (HK8.out.2 k (by omega) hn).trans ((HK7.out.2 k (by omega) (by omega)).trans (HB6.out.block k hk))⟩
        have HN := Aside0.mk (H4.out.done HDO.out.2.2.2.1 HDO.out.2.2.2.2 HDO.out.2.2.1 HDO.out.1 HDO.out.2.1 hk58 (HM8.out.single (List.mem_cons_of_mem _ (List.mem_cons_of_mem _ List.mem_cons_self))))
        clear hk58
        have HIN := Aside0.mk (inv_put HK.out.st.siz HI.out x b HD0.out.2.2)
        go_roundw
        case rel => exact ⟨i + 1, _, _, _, _, _, (by rw [HRW.out]), rfl, HIL.out, HN, HIN⟩
        case measure => rw [HRW.out]; have := HIL.out; show ((l0.length : Int) - ((i + 1 : Nat) : Int)).toNat < ((l0.length : Int) - (i : Int)).toNat; omega
      · subst e
        have hE : wrap64 ((IntKind.u64.wrap op).tmod 6) = 1 := (umod op 6 (by decide) (by decide)).trans (by omega)
        clear hr
        have HE := Aside0.mk hE
        go_wp2_with (first | ((with_reducible refine gate_dst (N := 6) rfl ?_); refine rw_allocS rfl 37 rfl (cs := #[.int .i64 0, .string ⟨#[]⟩, .slice none 0 0]) (by kernel_rfl) HMR.out ?_; intro b6 w2 hg6 hM hb6; have HM2 := Aside0.mk hM; have HB2 := Aside0.mk hb6; have HE6 := Aside0.mk hg6; clear hg6 hM hb6) | (refine rw_storeS rfl 37 rfl rfl (cs' := #[.int .i64 op, .string x, .slice Ad b.length cd]) rfl [] HM2.out (by kernel_rfl) rfl (by show _ = _; simp [Value.oneCell']) ?_; intro w3 hM hk3; have HM3 := Aside0.mk hM; have HK3 := Aside0.mk hk3; have hc60 := blk_cell (hM.mem List.mem_cons_self) 0; have hc61 := blk_cell (hM.mem List.mem_cons_self) 1; clear hM hk3) | (refine rw_cell rfl 3 rfl (g := b6) (i := 0) rfl (u := .int .i64 (wrap64 ((IntKind.u64.wrap op).tmod 6))) rfl rfl [] HM3.out (by show (0 : Nat) < 3; decide) (by kernel_rfl) ?_; intro w4 hM hk3; rw [HE.out] at hM; have HM4 := Aside0.mk (show Rws w [(b6, 37, #[.int .i64 1, .string x, .slice Ad b.length cd]), (bx, 29, #[.slice Ax s.img.length cx, .slice Ay s.L.length cy])] w4 from hM); have HK4 := Aside0.mk hk3; clear hM hk3) | ((with_reducible refine gate_dst (N := 45) rfl ?_); refine rw_load rfl 29 rfl rfl HM4.out (List.mem_cons_of_mem _ List.mem_cons_self) _ Try.underlying29 rfl (by kernel_rfl) ?_) | ((with_reducible refine gate_dst (N := 46) rfl ?_); refine rw_load rfl 37 rfl rfl HM4.out List.mem_cons_self _ Try.underlying37 rfl (by kernel_rfl) ?_))
        have HKR := Aside0.mk (show Kept wr w4 (fun _ => False) from ⟨Nat.le_trans HB2.out.size (Nat.le_trans HK3.out.1 HK4.out.1), fun k hk _ => by
          have h6 := HE6.out
          have h2 := HB2.out.size
          have h3 := HK3.out.1
          exact (HK4.out.2 k (by omega) (by omega)).trans ((HK3.out.2 k (by omega) (by omega)).trans (HB2.out.block k hk))⟩)
        have H4 := Aside0.mk (H.out.kept HKR.out (fun _ _ q => q) HM4.out.below)
        refine (do_drop KK nm HK.out.st HK.out.un HI.out.good x HD0.out.1 b Ad cd HD0.out.2.1 (Kd.F_kept HBF.out HKR.out (fun _ _ q => q)) HCD.out HM4.out.below H4.out.st H4.out.dt H4.out.dis).mono ?_
        rintro e_ w5 ⟨y, m, F', Z', M, rfl, d1, d2, d3, d4, d5, d6, d7, d8, d9⟩
        obtain ⟨A15, c15, A16, c16, e15, _⟩ := d2.now
        subst e15
        have HMW := Aside0.mk (And.intro d3 d7)
        have HDO := Aside0.mk (And.intro d1 (And.intro d2 (And.intro d4 (And.intro d5 d6))))
        have HM5 := Aside0.mk (HM4.out.keptF d8 (fun p hp => by
          rcases List.mem_cons.1 hp with rfl | hp
          · exact fun q => by have := (H4.out.st.lt _ q).2; have := (H.out.st.lt _ q).2; have := HE6.out; simp only at *; omega
          · rw [List.mem_singleton.1 hp]; exact H.out.nF) d9)
        clear d1 d2 d3 d4 d5 d6 d7 d8 d9 hc60 hc61
        go_wp2_with (first | ((with_reducible refine gate_dst (N := 8) rfl ?_); refine rw_allocS rfl 29 rfl (cs := #[.slice none 0 0, .slice none 0 0]) (by kernel_rfl) HM5.out ?_; intro b8 w6 hg6 hM hb6; have HM6 := Aside0.mk hM; have HB6 := Aside0.mk hb6; have HE8 := Aside0.mk hg6; clear hg6 hM hb6) | (refine rw_storeS rfl 29 rfl rfl (cs' := #[.slice A15 (dropS nm s x).1.img.length c15, .slice A16 (dropS nm s x).1.L.length c16]) rfl [] HM6.out (by kernel_rfl) rfl (by show _ = _; simp [Value.oneCell']) ?_; intro w7 hM hk3; have HM7 := Aside0.mk hM; have HK7 := Aside0.mk hk3; clear hM hk3) | ((with_reducible refine gate_dst (N := 53) rfl ?_); refine rw_load rfl 29 rfl rfl HM7.out List.mem_cons_self _ Try.underlying29 rfl (by kernel_rfl) ?_) | (refine rw_storeS rfl 29 rfl rfl (cs' := #[.slice A15 (dropS nm s x).1.img.length c15, .slice A16 (dropS nm s x).1.L.length c16]) rfl [_, _] HM7.out (by kernel_rfl) rfl (by show _ = _; simp [Value.oneCell']) ?_; intro w8 hM hk3; have HM8 := Aside0.mk hM; have HK8 := Aside0.mk hk3; clear hM hk3))
        have hk58 : Kept w5 w8 (fun k => k = bx) := ⟨Nat.le_trans HB6.out.size (Nat.le_trans HK7.out.1 HK8.out.1), fun k hk hn => by
          have h6 := HE8.out
          have h2 := HB6.out.size
          have h3 := HK7.out.1
          exact (HK8.out.2 k (by omega) hn).trans ((HK7.out.2 k (by omega) (by omega)).trans (HB6.out.block k hk))⟩
        have HN := Aside0.mk (H4.out.done HDO.out.2.2.2.1 HDO.out.2.2.2.2 HDO.out.2.2.1 HDO.out.1 HDO.out.2.1 hk58 (HM8.out.single (List.mem_cons_of_mem _ (List.mem_cons_of_mem _ List.mem_cons_self))))
        clear hk58
        have HIN := Aside0.mk (inv_drop HK.out.st.siz HI.out x)
        go_roundw
        case rel => exact ⟨i + 1, _, _, _, _, _, (by rw [HRW.out]), rfl, HIL.out, HN, HIN⟩
        case measure => rw [HRW.out]; have := HIL.out; show ((l0.length : Int) - ((i + 1 : Nat) : Int)).toNat < ((l0.length : Int) - (i : Int)).toNat; omega
      · subst e
        have hE : wrap64 ((IntKind.u64.wrap op).tmod 6) = 2 := (umod op 6 (by decide) (by decide)).trans (by omega)
        clear hr
        have HE := Aside0.mk hE
        go_wp2_with (first | ((with_reducible refine gate_dst (N := 6) rfl ?_); refine rw_allocS rfl 37 rfl (cs := #[.int .i64 0, .string ⟨#[]⟩, .slice none 0 0]) (by kernel_rfl) HMR.out ?_; intro b6 w2 hg6 hM hb6; have HM2 := Aside0.mk hM; have HB2 := Aside0.mk hb6; have HE6 := Aside0.mk hg6; clear hg6 hM hb6) | (refine rw_storeS rfl 37 rfl rfl (cs' := #[.int .i64 op, .string x, .slice Ad b.length cd]) rfl [] HM2.out (by kernel_rfl) rfl (by show _ = _; simp [Value.oneCell']) ?_; intro w3 hM hk3; have HM3 := Aside0.mk hM; have HK3 := Aside0.mk hk3; have hc60 := blk_cell (hM.mem List.mem_cons_self) 0; have hc61 := blk_cell (hM.mem List.mem_cons_self) 1; clear hM hk3))
        have HKR := Aside0.mk (show Kept wr w3 (fun _ => False) from ⟨Nat.le_trans HB2.out.size HK3.out.1, fun k hk _ => by
          have h6 := HE6.out
          have h2 := HB2.out.size
          exact (HK3.out.2 k (by omega) (by omega)).trans (HB2.out.block k hk)⟩)
        have HN := Aside0.mk (H.out.kept HKR.out (fun _ _ q => q) HM3.out.below)
        have HIN := HI
        refine (Get_st KK nm HK.out.st HI.out.good x HD0.out.1 HN.out.st).mono ?_
        rintro e_ w4 ⟨v, rfl, hR, hb⟩
        obtain ⟨ga, hga⟩ : ∃ q, q = getS nm s x := ⟨_, rfl⟩
        have hgal := getS_len HI.out.good x
        rw [← hga] at hgal hR ⊢
        have HGAL := Aside0.mk hgal
        have HGE := Aside0.mk hga
        obtain ⟨Aa, ca, ea⟩ := Kd.R_slice hR
        subst ea
        have HRa := Aside0.mk hR
        have HM4 := Aside0.mk (HM3.out.step hb)
        replace HN := Aside0.mk (HN.out.step hb)
        clear hb hR hga hgal hc60 hc61
        have hc61 := blk_cell (HM4.out.mem List.mem_cons_self) 1
        go_wp2_with (first | ((with_reducible refine gate_dst (N := 64) rfl ?_); refine rw_load rfl 29 rfl rfl HN.out.rows List.mem_cons_self _ Try.underlying29 rfl (by kernel_rfl) ?_))
        refine (Get_d KK nm HK.out.st HI.out.good HN.out.dt x).mono ?_
        rintro e_ w5 ⟨Ab, cb, rfl, hcb, hCb, hb⟩
        rw [← HGE.out] at hcb hCb ⊢
        replace HRa := Aside0.mk (Kd.R_below HRa.out hb)
        replace HN := Aside0.mk (HN.out.step hb)
        have HCb := Aside0.mk (And.intro hcb hCb)
        clear hb hcb hCb hc61
        have herr : (ga.2 != ga.2) = false := by simp
        go_wp2_with fail
        refine (slices_Equal_byte_byte.calls KK Aa ca ga.1 Ab cb ga.1 true w5 (Kd.R_reads' HRa.out).2.2 (Kd.R_reads' HRa.out).2.1 HCb.out.2 HCb.out.1 (HK.out.st.rd.eq ga.1 (by have := HGAL.out; omega))).mono ?_
        rintro e_ w6 ⟨rfl, kq, rfl⟩
        have hb := pw_below_drewN (Below.refl w5.heap.size w5) kq
        replace HN := Aside0.mk (HN.out.step hb)
        clear hb
        go_wp2_with fail
        go_roundw
        case rel => exact ⟨i + 1, _, _, _, _, _, (by rw [HRW.out]), rfl, HIL.out, HN, HIN⟩
        case measure => rw [HRW.out]; have := HIL.out; show ((l0.length : Int) - ((i + 1 : Nat) : Int)).toNat < ((l0.length : Int) - (i : Int)).toNat; omega
      · subst e
        have hE : wrap64 ((IntKind.u64.wrap op).tmod 6) = 3 := (umod op 6 (by decide) (by decide)).trans (by omega)
        clear hr
        have HE := Aside0.mk hE
        go_wp2_with (first | ((with_reducible refine gate_dst (N := 6) rfl ?_); refine rw_allocS rfl 37 rfl (cs := #[.int .i64 0, .string ⟨#[]⟩, .slice none 0 0]) (by kernel_rfl) HMR.out ?_; intro b6 w2 hg6 hM hb6; have HM2 := Aside0.mk hM; have HB2 := Aside0.mk hb6; have HE6 := Aside0.mk hg6; clear hg6 hM hb6) | (refine rw_storeS rfl 37 rfl rfl (cs' := #[.int .i64 op, .string x, .slice Ad b.length cd]) rfl [] HM2.out (by kernel_rfl) rfl (by show _ = _; simp [Value.oneCell']) ?_; intro w3 hM hk3; have HM3 := Aside0.mk hM; have HK3 := Aside0.mk hk3; have hc60 := blk_cell (hM.mem List.mem_cons_self) 0; have hc61 := blk_cell (hM.mem List.mem_cons_self) 1; clear hM hk3))
        have HKR := Aside0.mk (show Kept wr w3 (fun _ => False) from ⟨Nat.le_trans HB2.out.size HK3.out.1, fun k hk _ => by
          have h6 := HE6.out
          have h2 := HB2.out.size
          exact (HK3.out.2 k (by omega) (by omega)).trans (HB2.out.block k hk)⟩)
        have HN := Aside0.mk (H.out.kept HKR.out (fun _ _ q => q) HM3.out.below)
        have HIN := HI
        clear hc60 hc61
        refine (Pack_st KK nm HK.out.st HI.out.good HN.out.st).mono ?_
        rintro e_ w4 ⟨g3, rfl, hs, hb⟩
        have HP := Aside0.mk (hs.lower (base' := w.heap.size) HN.out.rows.below.size)
        have HZ3 := Aside0.mk HN.out.rows.below.size
        have HBL := Aside0.mk HN.out.bx_lt
        have HZW := Aside0.mk (And.intro hb.size (HN.out.dt.bound))
        have HBW := Aside0.mk hb
        replace HN := Aside0.mk (HN.out.step hb)
        clear hb hs
        have HPE := Aside0.mk (pack_eq HK.out.st.siz HI.out.good s.L.length (Nat.le_refl _))
        rw [List.take_length] at HPE
        have HPI := Aside0.mk (inv_pack HK.out.st.siz HI.out)
        go_wp2_with (first | ((with_reducible refine gate_dst (N := 83) rfl ?_); refine rw_load rfl 29 rfl rfl HN.out.rows List.mem_cons_self _ Try.underlying29 rfl (by kernel_rfl) ?_))
        refine (Pack_d KK nm HK.out.st HI.out.good (HZW.out.2.kept (Kept.of_below (show Below w3.heap.size w3 w4 from HBW.out) (fun _ => False)) (fun _ _ q => q))).mono ?_
        rintro e_ w5 ⟨y, rfl, hy, hb⟩
        have HM5 := Aside0.mk (HN.out.rows.step hb)
        replace HP := Aside0.mk (HP.out.step hb)
        have HDY := Aside0.mk hy
        obtain ⟨A15, c15, A16, c16, e15, _⟩ := hy
        subst e15
        clear hb
        go_wp2_with (first | (refine rw_storeS rfl 29 rfl rfl (cs' := #[.slice A15 (packI s.L s.L.length).length c15, .slice A16 s.L.length c16]) rfl [] HM5.out (by kernel_rfl) rfl (by show _ = _; simp [Value.oneCell']) ?_; intro w6 hM hk3; have HM6 := Aside0.mk hM; have HK6 := Aside0.mk hk3; clear hM hk3))
        have hpp : (⟨packI s.L s.L.length, s.L⟩ : Sto) = packO nm s.L s.L.length := by
          rw [HPE.out]; unfold packI; rw [List.take_length]
        have hsz := HZW.out.1
        have HN6 := Aside0.mk (show LSt w bx g3 (packO nm s.L s.L.length) _ (fun k => w3.heap.size ≤ k ∧ k < w4.heap.size) (fun k => (Z k ∧ k < w3.heap.size) ∨ (w4.heap.size ≤ k ∧ k < w5.heap.size)) w6 from ⟨HM6.out, HP.out.kept HK6.out (fun k q e => by have := HBL.out; omega), (hpp ▸ HDY.out.kept HK6.out (fun k q e => by
          subst e
          rcases q with q | q
          · exact HN.out.nZ q.1
          · have := HBL.out; omega)), fun k q1 q2 => (by rcases q1 with q1 | q1 <;> omega), fun q => by have := HBL.out; omega, fun q => by
          rcases q with q | q
          · exact HN.out.nZ q.1
          · have := HBL.out; omega⟩)
        clear hsz hpp HN HIN
        have HN := HN6
        have HIN := HPI
        go_wp2_with fail
        go_roundw
        case rel => exact ⟨i + 1, _, _, _, _, _, (by rw [HRW.out]), rfl, HIL.out, HN, HIN⟩
        case measure => rw [HRW.out]; have := HIL.out; show ((l0.length : Int) - ((i + 1 : Nat) : Int)).toNat < ((l0.length : Int) - (i : Int)).toNat; omega
      · subst e
        have hE : wrap64 ((IntKind.u64.wrap op).tmod 6) = 4 := (umod op 6 (by decide) (by decide)).trans (by omega)
        clear hr
        have HE := Aside0.mk hE
        go_wp2_with (first | ((with_reducible refine gate_dst (N := 6) rfl ?_); refine rw_allocS rfl 37 rfl (cs := #[.int .i64 0, .string ⟨#[]⟩, .slice none 0 0]) (by kernel_rfl) HMR.out ?_; intro b6 w2 hg6 hM hb6; have HM2 := Aside0.mk hM; have HB2 := Aside0.mk hb6; have HE6 := Aside0.mk hg6; clear hg6 hM hb6) | (refine rw_storeS rfl 37 rfl rfl (cs' := #[.int .i64 op, .string x, .slice Ad b.length cd]) rfl [] HM2.out (by kernel_rfl) rfl (by show _ = _; simp [Value.oneCell']) ?_; intro w3 hM hk3; have HM3 := Aside0.mk hM; have HK3 := Aside0.mk hk3; have hc60 := blk_cell (hM.mem List.mem_cons_self) 0; have hc61 := blk_cell (hM.mem List.mem_cons_self) 1; clear hM hk3))
        have HKR := Aside0.mk (show Kept wr w3 (fun _ => False) from ⟨Nat.le_trans HB2.out.size HK3.out.1, fun k hk _ => by
          have h6 := HE6.out
          have h2 := HB2.out.size
          exact (HK3.out.2 k (by omega) (by omega)).trans (HB2.out.block k hk)⟩)
        have HN := Aside0.mk (H.out.kept HKR.out (fun _ _ q => q) HM3.out.below)
        have HIN := HI
        clear hc60 hc61
        refine (Image_st HI.out.good.img HN.out.st).mono ?_
        rintro e_ w4 ⟨v, rfl, hR, hb⟩
        obtain ⟨Ai, ci, ei⟩ := Kd.R_slice hR
        subst ei
        have HRi := Aside0.mk hR
        replace HN := Aside0.mk (HN.out.step hb)
        clear hR hb
        go_wp2_with fail
        refine (Open_st KK nm HK.out.st Ai ci s.img w4 (Kd.R_reads' HRi.out).2.2 (Kd.R_reads' HRi.out).2.1 HI.out.good.by_).mono ?_
        rintro e_ w5 ⟨hb, hp⟩
        rw [HI.out.opens0] at hp
        obtain ⟨g2, rfl, ht⟩ := hp
        have HT := Aside0.mk (ht.lower (base' := w.heap.size) HN.out.rows.below.size)
        have HBL := Aside0.mk HN.out.bx_lt
        have hdt := (HN.out.dt.bound).step hb
        replace HN := Aside0.mk (HN.out.step hb)
        have HN6 := Aside0.mk (show LSt w bx g2 s _ (fun k => w4.heap.size ≤ k ∧ k < w5.heap.size) _ w5 from ⟨HN.out.rows, HT.out, hdt, fun k q1 q2 => (by have := q1.2; omega), fun q => by have := HBL.out; omega, fun q => HN.out.nZ q.1⟩)
        clear hb ht HRi hdt HN
        have HN := HN6
        go_wp2_with fail
        go_roundw
        case rel => exact ⟨i + 1, _, _, _, _, _, (by rw [HRW.out]), rfl, HIL.out, HN, HIN⟩
        case measure => rw [HRW.out]; have := HIL.out; show ((l0.length : Int) - ((i + 1 : Nat) : Int)).toNat < ((l0.length : Int) - (i : Int)).toNat; omega
      · subst e
        have hE : wrap64 ((IntKind.u64.wrap op).tmod 6) = 5 := (umod op 6 (by decide) (by decide)).trans (by omega)
        clear hr
        have HE := Aside0.mk hE
        go_wp2_with (first | ((with_reducible refine gate_dst (N := 6) rfl ?_); refine rw_allocS rfl 37 rfl (cs := #[.int .i64 0, .string ⟨#[]⟩, .slice none 0 0]) (by kernel_rfl) HMR.out ?_; intro b6 w2 hg6 hM hb6; have HM2 := Aside0.mk hM; have HB2 := Aside0.mk hb6; have HE6 := Aside0.mk hg6; clear hg6 hM hb6) | (refine rw_storeS rfl 37 rfl rfl (cs' := #[.int .i64 op, .string x, .slice Ad b.length cd]) rfl [] HM2.out (by kernel_rfl) rfl (by show _ = _; simp [Value.oneCell']) ?_; intro w3 hM hk3; have HM3 := Aside0.mk hM; have HK3 := Aside0.mk hk3; have hc60 := blk_cell (hM.mem List.mem_cons_self) 0; have hc61 := blk_cell (hM.mem List.mem_cons_self) 1; clear hM hk3) | ((with_reducible refine gate_dst (N := 35) rfl ?_); refine rw_load rfl 29 rfl rfl HM3.out (List.mem_cons_of_mem _ List.mem_cons_self) _ Try.underlying29 rfl (by kernel_rfl) ?_))
        have HKR := Aside0.mk (show Kept wr w3 (fun _ => False) from ⟨Nat.le_trans HB2.out.size HK3.out.1, fun k hk _ => by
          have h6 := HE6.out
          have h2 := HB2.out.size
          exact (HK3.out.2 k (by omega) (by omega)).trans (HB2.out.block k hk)⟩)
        have HN := Aside0.mk (H.out.kept HKR.out (fun _ _ q => q) HM3.out.below)
        have HIN := HI
        clear hc60 hc61
        refine (alike_st KK nm HK.out.st HI.out.good HN.out.st HN.out.dt).mono ?_
        rintro e_ w4 ⟨rfl, hb⟩
        replace HN := Aside0.mk (HN.out.step hb)
        clear hb
        go_wp2_with fail
        go_roundw
        case rel => exact ⟨i + 1, _, _, _, _, _, (by rw [HRW.out]), rfl, HIL.out, HN, HIN⟩
        case measure => rw [HRW.out]; have := HIL.out; show ((l0.length : Int) - ((i + 1 : Nat) : Int)).toNat < ((l0.length : Int) - (i : Int)).toNat; omega
    · have c2b : decide ((i : Int) < (l0.length : Int)) = false := decide_eq_false (by omega)
      have c2c : decide (i < l0.length) = false := decide_eq_false c2_
      obtain ⟨Ax, cx, Ay, cy, ecs, _⟩ := H.out.dt.now
      injection ecs with ecs
      subst ecs
      have HMR := Aside0.mk H.out.rows
      go_wp2_with (first | ((with_reducible refine gate_dst (N := 104) rfl ?_); refine rw_load rfl 29 rfl rfl HMR.out List.mem_cons_self _ Try.underlying29 rfl (by kernel_rfl) ?_))
      refine (alike_st KK nm HK.out.st HI.out.good H.out.st H.out.dt).mono ?_
      rintro e_ w4 ⟨rfl, hb⟩
      have HB := Aside0.mk (below_step H.out.rows.below hb)
      clear hb
      go_wp2_with fail
      go_ret
      exact ⟨rfl, HB.out⟩
end
end Go.Proofs.Ytfakdphkklclgaa.P

end

section
namespace Go.Proofs.Ytfakdphkklclgaa.P
open Go.RowKit Go.Proofs.YtfakdphkklclgaaW.PrintWords
def provisolaw21_StorePlays.Pure : Prop := ∀ (l0 : List (S37)), (fun l : List (S37) => l.length ≤ 9223372036854775807 ∧ l.length * 48 ≤ 140737488351232 ∧ ∀ x ∈ l, Ok37 x) l0 → provisolaw21_StorePlays.Facts l0
end Go.Proofs.Ytfakdphkklclgaa.P

end

section
namespace Go.Proofs.Ytfakdphkklclgaa.P
open Go.RowKit Go.Proofs.YtfakdphkklclgaaW.PrintWords Go.Proofs.YtfakdphkklclgaaW.PrintLast Go.Proofs.YtfakdphkklclgaaW.PrintMore
set_option linter.unusedVariables false
set_option linter.unusedSimpArgs false
def sgn (i c : Int) : Bool :=
  (decide (97 ≤ c) && decide (c ≤ 122)) || (decide (65 ≤ c) && decide (c ≤ 90)) || (decide (0 < i) && ((decide (48 ≤ c) && decide (c ≤ 57)) || decide (c = 95)))
def tailName (s : ByteArray) : Nat → Bool
  | 0 => true
  | d + 1 => sgn ((s.size : Int) - (d + 1)) (bt s ((s.size : Int) - (d + 1))) && tailName s d
def isNameB (s : ByteArray) : Bool := decide (1 ≤ s.size) && decide (s.size ≤ 24) && tailName s s.size
theorem name_tells (s : ByteArray) (hn : s.size ≤ 140737488351232) (d : Nat) : ∀ (k : Nat) (i : Int), 0 ≤ i → i ≤ s.size → (s.size : Int) - i = d → 3 * d < k → wire_IsName.l0 k s (s.size : Int) i = some (tailName s d) := by
  induction d with
  | zero =>
    intro k i h0 h1 hd hk
    obtain ⟨k, rfl⟩ : ∃ m, k = m + 1 := ⟨k - 1, by omega⟩
    simp only [wire_IsName.l0]; rw [if_neg (by omega)]; rfl
  | succ d ih =>
    intro k i h0 h1 hd hk
    obtain ⟨k, rfl⟩ : ∃ m, k = m + 3 := ⟨k - 3, by omega⟩
    have hlt : i < (s.size : Int) := by omega
    have hi : (s.size : Int) - (d + 1) = i := by omega
    have hw : wrap64 (i + 1) = i + 1 := by unfold wrap64; omega
    have h := ih k (i + 1) (by omega) (by omega) (by omega) (by omega)
    simp only [wire_IsName.l0, wire_IsName.j2, wire_IsName.j3, tailName, hi]
    rw [if_pos hlt, if_pos h0, if_pos hlt, hw]
    have h' : wire_IsName.l0 k s (s.size : Int) (i + 1) = some (tailName s d) := h
    rw [h']
    generalize bt s i = c
    generalize tailName s d = t
    by_cases a1 : 97 ≤ c <;> by_cases a2 : c ≤ 122 <;> by_cases a3 : 65 ≤ c <;> by_cases a4 : c ≤ 90 <;> by_cases a5 : 0 < i <;> by_cases a6 : 48 ≤ c <;> by_cases a7 : c ≤ 57 <;> by_cases a8 : c = 95 <;> (try omega) <;> simp [sgn, a1, a2, a3, a4, a5, a6, a7, a8]
theorem name_100 (s : ByteArray) : wire_IsName.f 100 s = some (isNameB s) := by
  unfold wire_IsName.f isNameB
  by_cases a1 : (s.size : Int) = 0
  · rw [if_pos a1, decide_eq_false (by omega)]
    simp [wire_IsName.j0]
  · rw [if_neg a1, decide_eq_true (by omega : 1 ≤ s.size)]
    by_cases a3 : (s.size : Int) > 24
    · rw [decide_eq_true a3, decide_eq_false (by omega : ¬ s.size ≤ 24)]
      simp [wire_IsName.j0]
    · rw [decide_eq_false a3, decide_eq_true (by omega : s.size ≤ 24)]
      have h1 := name_tells s (by omega) s.size 99 0 (by omega) (by omega) (by omega) (by omega)
      simp only [wire_IsName.j0]
      rw [if_neg (by simp)]
      rw [show wire_IsName.l0 99 s (s.size : Int) 0 = some (tailName s s.size) from h1]
      simp
theorem equal_self (xs : List Int) (hl : xs.length ≤ 9223372036854775807) : ∀ (d i k : Nat), i + d = xs.length → d < k → slices_Equal_byte_byte.l0 k xs xs (xs.length : Int) (i : Int) = some true
  | 0, i, k, hd, hk => by
    obtain ⟨k, rfl⟩ : ∃ m, k = m + 1 := ⟨k - 1, by omega⟩
    simp only [slices_Equal_byte_byte.l0]
    rw [if_neg (by omega)]
  | d + 1, i, k, hd, hk => by
    obtain ⟨k, rfl⟩ : ∃ m, k = m + 1 := ⟨k - 1, by omega⟩
    have hw : wrap64 ((i : Int) + 1) = ((i + 1 : Nat) : Int) := by unfold wrap64; omega
    have ih := equal_self xs hl d (i + 1) k (by omega) (by omega)
    simp only [slices_Equal_byte_byte.l0]
    rw [if_pos (by omega), if_pos (by omega), if_pos (by omega), if_pos (by omega), if_pos trivial, hw]
    exact ih
theorem equal_is (xs : List Int) (hl : xs.length ≤ 9223372036854775807) (k : Nat) (hk : xs.length < k) : slices_Equal_byte_byte.f k xs xs = some true := by
  unfold slices_Equal_byte_byte.f
  rw [if_pos rfl]
  exact equal_self xs hl xs.length 0 k (by omega) hk
end Go.Proofs.Ytfakdphkklclgaa.P


end

section
namespace Go.Proofs.Ytfakdphkklclgaa.Pure
open Go.RowKit Go.Proofs.Ytfakdphkklclgaa.P Go.Proofs.YtfakdphkklclgaaW.PrintWords Go.Proofs.YtfakdphkklclgaaW.PrintLast Go.Proofs.YtfakdphkklclgaaW.PrintMore
set_option linter.unusedSimpArgs false
set_option linter.unusedVariables false
theorem ref_tells (s : ByteArray) (hn : s.size ≤ 140737488351232) (d : Nat) : ∀ (k : Nat) (i : Int), 0 ≤ i → i ≤ s.size → (s.size : Int) - i = d → d < k →
    provisoref01_IsName.l0 k s i = some (tailName s d) := by
  induction d with
  | zero =>
    intro k i h0 h1 hd hk
    obtain ⟨k, rfl⟩ : ∃ m, k = m + 1 := ⟨k - 1, by omega⟩
    simp only [provisoref01_IsName.l0]; rw [if_neg (by omega)]; rfl
  | succ d ih =>
    intro k i h0 h1 hd hk
    obtain ⟨k, rfl⟩ : ∃ m, k = m + 1 := ⟨k - 1, by omega⟩
    have hlt : i < (s.size : Int) := by omega
    have hi : (s.size : Int) - (d + 1) = i := by omega
    have hw : wrap64 (i + 1) = i + 1 := by unfold wrap64; omega
    have h := ih k (i + 1) (by omega) (by omega) (by omega) (by omega)
    simp only [provisoref01_IsName.l0, tailName, hi]
    rw [if_pos hlt, if_pos h0, hw, h]
    generalize bt s i = c
    generalize tailName s d = t
    by_cases a1 : 97 ≤ c <;> by_cases a2 : c ≤ 122 <;> by_cases a3 : 65 ≤ c <;> by_cases a4 : c ≤ 90 <;> by_cases a5 : i = 0 <;> by_cases a6 : c < 48 <;> by_cases a7 : 57 < c <;> by_cases a8 : c = 95 <;> (try omega) <;> simp [sgn, a1, a2, a3, a4, a5, a6, a7, a8] <;> omega
theorem ref_100 (s : ByteArray) : provisoref01_IsName.f 100 s = some (isNameB s) := by
  unfold provisoref01_IsName.f isNameB
  by_cases a1 : (s.size : Int) < 1
  · rw [if_pos a1, decide_eq_false (by omega : ¬ 1 ≤ s.size)]
    simp [provisoref01_IsName.j0]
  · rw [if_neg a1, decide_eq_true (by omega : 1 ≤ s.size)]
    by_cases a3 : (s.size : Int) > 24
    · rw [decide_eq_true a3, decide_eq_false (by omega : ¬ s.size ≤ 24)]
      simp [provisoref01_IsName.j0]
    · rw [decide_eq_false a3, decide_eq_true (by omega : s.size ≤ 24)]
      have h1 := ref_tells s (by omega) s.size 99 0 (by omega) (by omega) (by omega) (by omega)
      simp only [provisoref01_IsName.j0]
      rw [if_neg (by simp), h1]
      simp
theorem name_K (s : ByteArray) (K : Nat) (h : 100 ≤ K) : wire_IsName.f K s = some (isNameB s) := at_rounds (wire_IsName.mono s) h (name_100 s)
theorem ref_K (s : ByteArray) (K : Nat) (h : 100 ≤ K) : provisoref01_IsName.f K s = some (isNameB s) := at_rounds (provisoref01_IsName.mono s) h (ref_100 s)
theorem seg_zero (bs : List Int) (a : Nat) : seg bs a 0 = [] := by
  unfold seg
  rw [Nat.add_zero]
  exact List.drop_of_length_le (by rw [List.length_take]; omega)
theorem seg_succ (bs : List Int) (a j : Nat) (h : a + j < bs.length) : seg bs a (j + 1) = seg bs a j ++ [rd bs ((a + j : Nat) : Int)] := by
  have hr : rd bs ((a + j : Nat) : Int) = bs[a + j] := by
    unfold rd
    rw [Int.toNat_natCast, List.getD_eq_getElem?_getD, List.getElem?_eq_getElem h]
    rfl
  unfold seg
  rw [hr, show a + (j + 1) = a + j + 1 by omega, List.take_succ_eq_append_getElem h, List.drop_append_of_le_length (by rw [List.length_take]; omega)]
theorem rd_in (bs : List Int) (h : ∀ x ∈ bs, 0 ≤ x ∧ x ≤ 255) (a : Nat) (ha : a < bs.length) : 0 ≤ rd bs (a : Int) ∧ rd bs (a : Int) ≤ 255 := by
  have hr : rd bs (a : Int) = bs[a] := by simp [rd, List.getD_eq_getElem?_getD, ha]
  rw [hr]
  exact h _ (List.getElem_mem ha)
theorem numOf_snoc (xs : List Int) (x : Int) : numOf (xs ++ [x]) = numOf xs * 256 + x := by
  unfold numOf
  rw [List.foldl_append]
  rfl
theorem num_loop (bs : List Int) (hby : ∀ x ∈ bs, 0 ≤ x ∧ x ≤ 255) (hl : bs.length ≤ 140737488351232) (a k : Nat) (hk4 : k ≤ 4) (ha : a + k ≤ bs.length) : ∀ (d j K : Nat), j + d = k → 0 ≤ numOf (seg bs a j) → numOf (seg bs a j) < 256 ^ j → provisoref01_Number.l0 (K + d + 1) bs (a : Int) (k : Int) (numOf (seg bs a j)) (j : Int) = some (valR k (seg bs a k), ((a + k : Nat) : Int), 0)
  | 0, j, K, hj, h0, h1 => by
    obtain rfl : j = k := by omega
    have w1 : wrap64 ((a : Int) + (j : Int)) = ((a + j : Nat) : Int) := by unfold wrap64; omega
    simp only [provisoref01_Number.l0]
    rw [if_neg (by omega), w1]
    unfold valR signOf
    by_cases c : j = 4
    · subst c
      rw [if_pos (by rfl), if_pos rfl]
      by_cases c2 : numOf (seg bs a 4) < 2147483648
      · rw [if_neg (by omega), if_pos c2]
      · have h2 : numOf (seg bs a 4) < 4294967296 := h1
        have w2 : wrap64 (numOf (seg bs a 4) - 4294967296) = numOf (seg bs a 4) - 4294967296 := by unfold wrap64; omega
        rw [if_pos (by omega), if_neg c2, w2]
    · rw [if_neg (by omega), if_neg c]
  | d + 1, j, K, hj, h0, h1 => by
    have hlt : a + j < bs.length := by omega
    have hr := rd_in bs hby (a + j) hlt
    have hp : (256 : Int) ^ j ≤ 16777216 := by
      have h3 : j = 0 ∨ j = 1 ∨ j = 2 ∨ j = 3 := by omega
      rcases h3 with rfl | rfl | rfl | rfl <;> decide
    have hs : numOf (seg bs a (j + 1)) = numOf (seg bs a j) * 256 + rd bs ((a + j : Nat) : Int) := by rw [seg_succ bs a j hlt, numOf_snoc]
    have h2 : 0 ≤ numOf (seg bs a (j + 1)) ∧ numOf (seg bs a (j + 1)) < 256 ^ (j + 1) := by rw [hs, Int.pow_succ]; omega
    have ih := num_loop bs hby hl a k hk4 ha d (j + 1) K (by omega) h2.1 h2.2
    have w1 : wrap64 ((a : Int) + (j : Int)) = ((a + j : Nat) : Int) := by unfold wrap64; omega
    have w2 : wrap64 ((j : Int) + 1) = ((j + 1 : Nat) : Int) := by unfold wrap64; omega
    generalize hq : numOf (seg bs a j) = q at h0 h1 hs ⊢
    generalize hz : rd bs ((a + j : Nat) : Int) = z at hr hs
    have w3 : wrap64 (q * 256) = q * 256 := by unfold wrap64; omega
    have w4 : wrap64 z = z := by unfold wrap64; omega
    have w5 : wrap64 (q * 256 + z) = q * 256 + z := by unfold wrap64; omega
    rw [show K + (d + 1) + 1 = (K + d + 1) + 1 by omega]
    unfold provisoref01_Number.l0
    rw [if_pos (by omega), w1, if_pos (by omega), if_pos (by omega), hz, w4, w3, w5, w2, ← hs]
    exact ih
theorem num_is (K k : Nat) (bs : List Int) (a : Nat) (hk : k = 1 ∨ k = 2 ∨ k = 4) (hK : 6 ≤ K) (hby : ∀ x ∈ bs, 0 ≤ x ∧ x ≤ 255) (hl : bs.length ≤ 140737488351232) (ha : a ≤ bs.length) : provisoref01_Number.f K bs (a : Int) (k : Int) = some ((numR k bs a).1, ((numR k bs a).2.1 : Int), (numR k bs a).2.2) := by
  have w1 : wrap64 ((bs.length : Int) - (a : Int)) = (bs.length : Int) - (a : Int) := by unfold wrap64; omega
  unfold provisoref01_Number.f numR
  rw [w1]
  by_cases c : bs.length < a + k
  · rw [if_pos (by omega), if_pos c]
  · rw [if_neg (by omega), if_neg c]
    obtain ⟨m, rfl⟩ : ∃ m, K = m + k + 1 := ⟨K - k - 1, by omega⟩
    have h := num_loop bs hby hl a k (by omega) (by omega) k 0 m (by omega)
    rw [seg_zero] at h
    exact h (by decide) (by decide)
theorem take_loop (bs : List Int) (hl : bs.length ≤ 140737488351232) (a n : Nat) (ha : a + n ≤ bs.length) : ∀ (d j K : Nat), j + d = n → provisoref01_Take.l0 (K + d + 1) bs (a : Int) (n : Int) (seg bs a j) (j : Int) = some (seg bs a n, ((a + n : Nat) : Int), 0)
  | 0, j, K, hj => by
    obtain rfl : j = n := by omega
    have w1 : wrap64 ((a : Int) + (j : Int)) = ((a + j : Nat) : Int) := by unfold wrap64; omega
    simp only [provisoref01_Take.l0]
    rw [if_neg (by omega), w1]
  | d + 1, j, K, hj => by
    have hlt : a + j < bs.length := by omega
    have hs := seg_succ bs a j hlt
    have ih := take_loop bs hl a n ha d (j + 1) K (by omega)
    have w1 : wrap64 ((a : Int) + (j : Int)) = ((a + j : Nat) : Int) := by unfold wrap64; omega
    have w2 : wrap64 ((j : Int) + 1) = ((j + 1 : Nat) : Int) := by unfold wrap64; omega
    have hsl : (seg bs a j).length = j := seg_len bs a j (by omega)
    rw [show K + (d + 1) + 1 = (K + d + 1) + 1 by omega]
    unfold provisoref01_Take.l0
    rw [if_pos (by omega), w1, if_pos (by omega), if_pos (by omega), hsl, if_pos (by omega), w2, ← hs]
    exact ih
theorem take_is (K : Nat) (bs : List Int) (a : Nat) (n : Int) (hK : 140737488355328 ≤ K) (hl : bs.length ≤ 140737488351232) (ha : a ≤ bs.length) : provisoref01_Take.f K bs (a : Int) n = some ((takeR bs a n).1, ((takeR bs a n).2.1 : Int), (takeR bs a n).2.2) := by
  have w1 : wrap64 ((bs.length : Int) - (a : Int)) = (bs.length : Int) - (a : Int) := by unfold wrap64; omega
  unfold provisoref01_Take.f takeR
  by_cases c : n < 0
  · rw [if_pos c, if_pos c]
  · rw [if_neg c, if_neg c, w1]
    by_cases c2 : n > (bs.length : Int) - (a : Int)
    · rw [if_pos (by omega), if_pos c2]
    · rw [if_neg (by omega), if_neg c2]
      obtain ⟨k, rfl⟩ : ∃ k : Nat, n = (k : Int) := ⟨n.toNat, by omega⟩
      rw [Int.toNat_natCast]
      obtain ⟨m, rfl⟩ : ∃ m, K = m + k + 1 := ⟨K - k - 1, by omega⟩
      have h := take_loop bs hl a k (by omega) k 0 m (by omega)
      rw [seg_zero] at h
      exact h
theorem rd_facts (K : Nat) (hK : 140737488355328 ≤ K) : RdFacts K isNameB := ⟨fun k bs a hk hby hl ha => num_is K k bs a hk (by omega) hby hl ha, fun bs a n _ hl ha => take_is K bs a n hK hl ha, fun s => name_K s K (by omega), fun s => ref_K s K (by omega), fun xs hl => equal_is xs (by omega) K (by omega)⟩

theorem isName_siz (x : ByteArray) (h : isNameB x = true) : 1 ≤ x.size ∧ x.size ≤ 24 := by
  unfold isNameB at h
  simp only [Bool.and_eq_true, decide_eq_true_eq] at h
  omega
theorem pos_le (x : ByteArray) (L : List S101) : posL x L ≤ L.length := by unfold posL; exact (List.takeWhile_sublist _).length_le
theorem place_step (x : ByteArray) (k : S101) (l : List S101) (h : lessB k.f0 x = true) : posL x (k :: l) = posL x l + 1 := by
  unfold posL
  rw [List.takeWhile_cons_of_pos (p := fun k : S101 => lessB k.f0 x) h]
  rfl
theorem place_stop (x : ByteArray) (k : S101) (l : List S101) (h : ¬ lessB k.f0 x = true) : posL x (k :: l) = 0 := by
  unfold posL
  rw [List.takeWhile_cons_of_neg (p := fun k : S101 => lessB k.f0 x) h]
  rfl
theorem place_loop (x : ByteArray) : ∀ (d : Nat) (pre L : List S101) (k : Nat), L.length = d → (pre ++ L).length ≤ 1000 → d < k → Srt L → provisoref21_place.l0 k (pre ++ L) x (pre.length : Int) = some (((pre.length + posL x L : Nat) : Int), (lkL L x).isSome) := by
  intro d
  induction d with
  | zero =>
    intro pre L k hd hl hk _
    obtain ⟨k, rfl⟩ : ∃ m, k = m + 1 := ⟨k - 1, by omega⟩
    have e : L = [] := List.length_eq_zero_iff.1 hd
    subst e
    simp only [provisoref21_place.l0]
    rw [if_neg (by simp)]
    simp [posL, lkL]
  | succ d ih =>
    intro pre L k hd hl hk hs
    obtain ⟨k, rfl⟩ : ∃ m, k = m + 1 := ⟨k - 1, by omega⟩
    cases L with
    | nil => cases hd
    | cons a l =>
      have hl' : l.length = d := by simpa using hd
      rw [List.length_append, List.length_cons] at hl
      have hrd : rd_T101 (pre ++ a :: l) (pre.length : Int) = a := by
        unfold rd_T101
        rw [Int.toNat_natCast, List.getD_eq_getElem?_getD, List.getElem?_append_right (Nat.le_refl _), Nat.sub_self]
        rfl
      simp only [provisoref21_place.l0]
      rw [if_pos (by simp; omega), if_pos (by omega), hrd]
      by_cases c : lessB a.f0 x = true
      · rw [if_pos (show Op.bytesLess a.f0.toList x.toList = true from c)]
        have hw : wrap64 ((pre.length : Int) + 1) = ((pre ++ [a]).length : Int) := by
          rw [List.length_append, List.length_singleton]
          unfold wrap64
          omega
        have h := ih (pre ++ [a]) l k hl' (by simp; omega) (by omega) (List.pairwise_cons.1 hs).2
        rw [List.append_assoc, List.singleton_append] at h
        rw [hw, h, place_step x a l c]
        have hne : a.f0 ≠ x := fun e => by rw [e, lessB_irr] at c; cases c
        conv => rhs; unfold lkL
        rw [if_neg hne]
        simp; omega
      · rw [if_neg (show ¬ Op.bytesLess a.f0.toList x.toList = true from c), place_stop x a l c]
        by_cases c2 : a.f0 = x
        · rw [c2]
          conv => rhs; unfold lkL
          rw [if_pos c2]
          simp
        · rw [srt_head hs c c2]
          have : (a.f0.toList == x.toList) = false := beq_eq_false_iff_ne.mpr (fun e => c2 (data_inj (by rw [← Lib.toList_data, ← Lib.toList_data]; exact e)))
          rw [this]
          rfl
theorem place_is (K : Nat) (hK : 2000 ≤ K) (L : List S101) (x : ByteArray) (hl : L.length ≤ 17) (hs : Srt L) : provisoref21_place.f K L x = some ((posL x L : Int), (lkL L x).isSome) := by
  have h := place_loop x L.length [] L K rfl (by simpa using by omega) (by omega) hs
  unfold provisoref21_place.f
  simpa using h
theorem put_take (x : ByteArray) (b : List Int) (L : List S101) : putL x b L = L.take (posL x L) ++ [⟨x, b⟩] ++ (match L.drop (posL x L) with | [] => [] | k :: l => if k.f0 = x then l else k :: l) := by
  induction L with
  | nil => rfl
  | cons k l ih =>
    unfold putL
    by_cases c : lessB k.f0 x = true
    · rw [if_pos c, place_step x k l c, ih]
      simp
    · rw [if_neg c, place_stop x k l c]
      simp only [List.take_zero, List.drop_zero, List.nil_append, List.singleton_append]
      split <;> rfl
theorem cut_take (x : ByteArray) (L : List S101) : cutL x L = L.take (posL x L) ++ (match L.drop (posL x L) with | [] => [] | k :: l => if k.f0 = x then l else k :: l) := by
  induction L with
  | nil => rfl
  | cons k l ih =>
    unfold cutL
    by_cases c : lessB k.f0 x = true
    · rw [if_pos c, place_step x k l c, ih]
      simp
    · rw [if_neg c, place_stop x k l c]
      simp only [List.take_zero, List.drop_zero, List.nil_append]
      try (split <;> rfl)
theorem drop_pos (x : ByteArray) (L : List S101) (hs : Srt L) : (match L.drop (posL x L) with | [] => [] | k :: l => if k.f0 = x then l else k :: l) = if (lkL L x).isSome = true then L.drop (posL x L + 1) else L.drop (posL x L) := by
  induction L with
  | nil => simp [posL, lkL]
  | cons k l ih =>
    by_cases c : lessB k.f0 x = true
    · rw [place_step x k l c]
      have hne : k.f0 ≠ x := fun e => by rw [e, lessB_irr] at c; cases c
      have h := ih (List.pairwise_cons.1 hs).2
      conv => rhs; unfold lkL
      rw [if_neg hne]
      simpa using h
    · rw [place_stop x k l c]
      by_cases c2 : k.f0 = x
      · conv => rhs; unfold lkL
        rw [if_pos c2]
        simp [c2]
      · rw [srt_head hs c c2]
        simp [c2]
theorem there_lt (x : ByteArray) (L : List S101) (h : (lkL L x).isSome = true) (hs : Srt L) : posL x L < L.length := by
  induction L with
  | nil => cases h
  | cons k l ih =>
    by_cases c : lessB k.f0 x = true
    · have hne : k.f0 ≠ x := fun e => by rw [e, lessB_irr] at c; cases c
      unfold lkL at h
      rw [if_neg hne] at h
      rw [place_step x k l c]
      have := ih h (List.pairwise_cons.1 hs).2
      simpa using this
    · rw [place_stop x k l c]
      simp
theorem with_is (K : Nat) (hK : 2000 ≤ K) (L : List S101) (x : ByteArray) (b : List Int) (hl : L.length ≤ 17) (hs : Srt L) : provisoref21_with.f K L x b = some (putL x b L) := by
  have hp := pos_le x L
  have hw : wrap64 ((posL x L : Int) + 1) = ((posL x L + 1 : Nat) : Int) := by unfold wrap64; omega
  unfold provisoref21_with.f
  rw [place_is K hK L x hl hs, put_take x b L, drop_pos x L hs]
  simp only [Option.bind_some, hw, Int.toNat_natCast]
  rw [if_pos (by omega), if_pos (by omega), if_pos (by simp; omega), if_pos (by simp; omega)]
  by_cases c : (lkL L x).isSome = true
  · have := there_lt x L c hs
    rw [if_pos c, if_pos c, if_pos (by omega), if_pos (by omega), if_pos (by simp; omega)]
    simp
  · rw [if_neg c, if_neg c, if_pos (by simp; omega)]
    simp
theorem without_is (K : Nat) (hK : 2000 ≤ K) (L : List S101) (x : ByteArray) (hl : L.length ≤ 17) (hs : Srt L) : provisoref21_without.f K L x = some (cutL x L) := by
  have hp := pos_le x L
  have hw : wrap64 ((posL x L : Int) + 1) = ((posL x L + 1 : Nat) : Int) := by unfold wrap64; omega
  unfold provisoref21_without.f
  rw [place_is K hK L x hl hs, cut_take x L, drop_pos x L hs]
  simp only [Option.bind_some, hw, Int.toNat_natCast]
  rw [if_pos (by omega), if_pos (by omega), if_pos (by simp; omega)]
  by_cases c : (lkL L x).isSome = true
  · have := there_lt x L c hs
    rw [if_pos c, if_pos c, if_pos (by omega), if_pos (by omega), if_pos (by simp; omega)]
    simp
  · rw [if_neg c, if_neg c, if_pos (by simp; omega)]
    simp
theorem eqs_loop (xs : List ByteArray) (hl : xs.length ≤ 1000) : ∀ (d i k : Nat), xs.length - i = d → i ≤ xs.length → d < k → slices_Equal_string_string.l0 k xs xs (xs.length : Int) (i : Int) = some true := by
  intro d
  induction d with
  | zero =>
    intro i k hd hi hk
    obtain ⟨k, rfl⟩ : ∃ m, k = m + 1 := ⟨k - 1, by omega⟩
    simp only [slices_Equal_string_string.l0]
    rw [if_neg (by omega)]
  | succ d ih =>
    intro i k hd hi hk
    obtain ⟨k, rfl⟩ : ∃ m, k = m + 1 := ⟨k - 1, by omega⟩
    have hw : wrap64 ((i : Int) + 1) = ((i + 1 : Nat) : Int) := by unfold wrap64; omega
    simp only [slices_Equal_string_string.l0]
    rw [if_pos (by omega), if_pos (by omega), if_pos (by omega), if_pos (by omega), hw]
    simpa using ih (i + 1) k (by omega) (by omega) (by omega)
theorem eqs_is (K : Nat) (hK : 2000 ≤ K) (xs : List ByteArray) (hl : xs.length ≤ 17) : slices_Equal_string_string.f K xs xs = some true := by
  unfold slices_Equal_string_string.f
  rw [if_pos rfl]
  exact eqs_loop xs (by omega) xs.length 0 K (by omega) (by omega) (by omega)
theorem wr_loop (xs : List S52) (hl : xs.length ≤ 2) (hx : ∀ x ∈ xs, x.f1.length ≤ 2097152) : ∀ (d i k : Nat), xs.length - i = d → i ≤ xs.length → d + 2097160 < k → provisoplain_SameWrites.l0 k xs xs (xs.length : Int) (i : Int) = some true := by
  intro d
  induction d with
  | zero =>
    intro i k hd hi hk
    obtain ⟨k, rfl⟩ : ∃ m, k = m + 1 := ⟨k - 1, by omega⟩
    simp only [provisoplain_SameWrites.l0]
    rw [if_neg (by omega)]
  | succ d ih =>
    intro i k hd hi hk
    obtain ⟨k, rfl⟩ : ∃ m, k = m + 1 := ⟨k - 1, by omega⟩
    have hw : wrap64 ((i : Int) + 1) = ((i + 1 : Nat) : Int) := by unfold wrap64; omega
    have hm : (rd_T52 xs (i : Int)).f1.length ≤ 2097152 := by
      unfold rd_T52
      rw [Int.toNat_natCast, List.getD_eq_getElem?_getD, List.getElem?_eq_getElem (by omega)]
      exact hx _ (List.getElem_mem _)
    simp only [provisoplain_SameWrites.l0]
    rw [if_pos (by omega), if_pos (by omega), if_pos (by omega), if_pos (by omega), equal_is _ (by omega) k (by omega), hw]
    simpa using ih (i + 1) k (by omega) (by omega) (by omega)
theorem wr_is (K : Nat) (hK : 2097200 ≤ K) (xs : List S52) (hl : xs.length ≤ 2) (hx : ∀ x ∈ xs, x.f1.length ≤ 2097152) : provisoplain_SameWrites.f K xs xs = some true := by
  unfold provisoplain_SameWrites.f
  rw [if_pos rfl]
  exact wr_loop xs hl hx xs.length 0 K (by omega) (by omega) (by omega)
theorem st_facts : StFacts 140737488355328 isNameB := ⟨rd_facts _ (Nat.le_refl _), isName_siz, fun L x h1 h2 => place_is _ (by omega) L x h1 h2, fun L x b h1 h2 => with_is _ (by omega) L x b h1 h2, fun L x h1 h2 => without_is _ (by omega) L x h1 h2, fun xs h => eqs_is _ (by omega) xs h, fun ws h1 h2 => wr_is _ (by omega) ws h1 h2⟩
theorem l_facts : LFacts 140737488355328 isNameB := ⟨st_facts, fun l hl => untouched_is l (by omega) _ (by omega)⟩
theorem script_ok {l : List S37} (h : ∀ x ∈ l, Ok37 x) (i : Nat) (hi : i < l.length) : l[i].f1.size ≤ maxLen ∧ l[i].f2.length ≤ 140737488351232 ∧ ∀ z ∈ l[i].f2, 0 ≤ z ∧ z ≤ 255 := by
  have h1 := h _ (List.getElem_mem hi)
  unfold Ok37 at h1
  obtain ⟨_, h2, h3, h4, h5⟩ := h1
  refine ⟨by unfold maxLen; omega, by omega, fun z hz => ?_⟩
  have h6 := h5 z hz
  simp [Lit.wf, IntKind.min, IntKind.max, IntKind.signed, IntKind.bits] at h6
  omega
end Go.Proofs.Ytfakdphkklclgaa.Pure

end

section
namespace Go.Proofs.Ytfakdphkklclgaa.Pure
open Go.RowKit Go.Proofs.Ytfakdphkklclgaa.P Go.Proofs.YtfakdphkklclgaaW.PrintWords Go.Proofs.YtfakdphkklclgaaW.PrintLast Go.Proofs.YtfakdphkklclgaaW.PrintMore
set_option linter.unusedSimpArgs false
set_option linter.unusedVariables false
theorem StorePlays : provisolaw21_StorePlays.Pure := by
  intro l0 h0
  exact ⟨⟨140737488355328, isNameB, l_facts⟩, by have := h0.2.1; omega, fun i hi => script_ok h0.2.2 i hi⟩
end Go.Proofs.Ytfakdphkklclgaa.Pure

end

section
namespace Go.Proofs.Ytfakdphkklclgaa.storePlays
open Go.ChangeShapes Go.WideShapes Go.ChangeAt Go.RowKit Go.Proofs.YtfakdphkklclgaaW.PrintWords Go.Proofs.Ytfakdphkklclgaa.Sees Go.Proofs.Ytfakdphkklclgaa.P
open Go.ChangeMaps (open_string shut_string)
set_option linter.unusedVariables false
set_option linter.unusedSimpArgs false
theorem own : ownKnob Try.prog.godebug = none := by kernel_rfl
theorem laidOut : laidOutB Try.prog = true := by kernel_rfl
set_option maxRecDepth 100000 in
theorem lifted (os : Os) (started : os.Started) (H : Type) (enc : TypeId × Value → H) :
    ReturnsInHanded {} Try.checked os 8 .any (Rows.storePlaysSpec.pre6 enc Try.prog Try.f8 Rows.storePlaysRow.domain false) (Rows.storePlaysSpec.post enc Try.prog Try.f8 false true false false) := by
  refine returnsInHanded_of_change_sized (C := Try.checked) own started (by kernel_rfl) Try.func8
    (ChangeSpec.witness6 (enc := enc) (C := Try.checked) false ⟨#[], #[.slice none 0 0], []⟩ 8 (by kernel_rfl) (by kernel_rfl) (by kernel_rfl) (by kernel_rfl)) ?_
  intro W base args ds gs before hval0 hW hcnd hsz0 _
  have hsz : (DataW.weightsEach Try.prog (Try.f8.params.toList ++ Rows.storePlaysSpec.plain.varTypes Try.prog) (ds ++ gs)).all (· ≤ reachBytes) = true := hsz0
  have hval : ∀ (j : Nat) t v, Try.f8.params[j]? = some t → args[j]? = some v → Value.okWide Try.prog W .any base t v := hval0
  have hW' := hW
  obtain ⟨p, q, hA0, hV, rfl, hfz, hnd⟩ := hW
  have hA : DataW.TrodAll enc Try.prog W 0 (fun _ => true) true Try.f8.params.toList args.toList ds p := hA0
  rw [Try.params8] at hA hval hsz
  obtain ⟨v0, vs0, d0, ds0, p0, q0, hargs, rfl, rfl, h0, r0⟩ := trodAll_cons hA
  obtain ⟨rfl, rfl, rfl⟩ := trodAll_nil r0
  obtain rfl : args = #[v0] := by cases args; simp_all
  obtain ⟨rfl, rfl⟩ := trodVars_none hV
  have k0 := h0
  have lt0 : ∀ x ∈ p0, x.block < W.heap.size := by obtain ⟨m, hm⟩ := k0; exact DataW.trod_lt m _ _ _ hm
  obtain ⟨y0, hy0, oy0⟩ := see_arg (j := 0) (t := 22) (sees_slice (B := 48) Try.underlying22 (by kernel_rfl) (by kernel_rfl) sees37) hsz rfl rfl h0
  obtain ⟨a0, len0, cap0, rfl⟩ := okWide_slice Try.underlying22 (hval 0 22 v0 rfl rfl)
  obtain ⟨rfl, hc0, hr0⟩ := see_slice rfl hy0
  clear hA0 hval0 hsz0 hsz
  have hk := Pure.StorePlays y0 oy0
  refine (provisolaw21_StorePlays.calls _ _ y0 W hr0 hc0 hk).mono ?_
  rintro e W' ⟨rfl, bel0⟩
  have bel : Below W.heap.size W W' := bel0
  exact ⟨_, rfl, _, _, _, [], _, [], hW', trodAll_mk1 (shut_bool Try.underlying4 _), (trodAll_cons_mk (Below.trod laidOut (by kernel_rfl) (of_decide_eq_true (by kernel_rfl)) k0 bel lt0) trodAll_mk0), rfl, bel.frame _, fun h => by cases h⟩
theorem over : Rows.storePlaysRow.holds Try.pinned (OpenSpec.ofChange Rows.storePlaysSpec) :=
  OpenClaim.holds_of_wide 8 Try.f8 rfl rfl rfl rfl rfl rfl rfl ⟨rfl, rfl, rfl, rfl, rfl⟩ rfl rfl rfl rfl rfl (by kernel_rfl) Try.func8 (by kernel_rfl)
    (of_decide_eq_true (by kernel_rfl)) (by unfold Func.isWrapper; first | (rw [if_pos (by decide +kernel)]; kernel_rfl) | (rw [if_neg (by decide +kernel)]; exact ⟨rfl, rfl⟩))
    (fun os started H enc _ => lifted os started H enc)
theorem proved : Rows.StorePlaysSaid := over
end Go.Proofs.Ytfakdphkklclgaa.storePlays
namespace Go.Proofs.Ytfakdphkklclgaa
theorem storePlays_holds : Rows.StorePlaysSaid := storePlays.proved
end Go.Proofs.Ytfakdphkklclgaa

end

