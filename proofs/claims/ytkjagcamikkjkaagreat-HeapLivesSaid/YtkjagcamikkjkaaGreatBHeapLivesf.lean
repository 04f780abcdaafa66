/- Proved: the law HeapLives holds for every input that the row lets in. No condition of ours. -/
import Derived.Test.YtkjagcamikkjkaaGreatBHeapLivese
import Derived.Test.YtkjagcamikkjkaaGreatRows
import Derived.ShutString
import Derived.ChangeOld
import Derived.Lib.SmallJoins
section
namespace Go.Proofs.YtkjagcamikkjkaaGreat.P
open Go.RowKit Go.Proofs.YtkjagcamikkjkaaGreatW.PrintWords Go.Proofs.YtkjagcamikkjkaaGreatW.PrintLast Go.Proofs.YtkjagcamikkjkaaGreatW.PrintMore
attribute [local go_sem] max2_int min2_int max_two min_two max_three min_three max_four min_four
set_option linter.unusedVariables false
set_option linter.unusedSimpArgs false
set_option maxHeartbeats 3200000 in
set_option maxRecDepth 100000 in
theorem rf_made (w0 : World) (F : Nat → Prop) (d : DS) (rb : Nat → Nat) (s : HS) (hs : Like s d) (hn9 : d.obs.length < 4398046511104) (c n : Int) (hc : -1 ≤ c) (h0 : 0 ≤ n) (hn : n ≤ 9223372036854775807) (W : World) (hnum : 0 ≤ s.used ∧ s.used ≤ s.room ∧ s.room ≤ 4096) (h : DIn w0 F d rb W) : Calls Tryz.prog 45 #[.pointer (some ⟨d.db, 0, none⟩), .int .i64 c, .int .i64 n] W fun e w' => e = .returned (.tuple #[.int .i64 (addM s c n).1, .int .i64 (addM s c n).2.1]) ∧ RfPost w0 F d W (addM s c n).2.2 w' := by
  have H := Aside0.mk h
  have HLK := Aside0.mk hs
  have HNL := Aside0.mk hn9
  have HNUM := Aside0.mk hnum
  have HC1 := Aside0.mk hc
  have HLS := Aside0.mk hs.last
  have f1 := h.cells.2.1
  rw [← hs.room] at f1
  have hp0 : ∀ w', Below W.heap.size W w' → addM s c n = (0, 7, s) → RfPost w0 F d W (addM s c n).2.2 w' := fun w' hb e => by rw [e]; exact RfPost.same HLK.out H.out hb
  have HP0 := Aside0.mk hp0
  clear h hs hn9 hnum hc hp0
  by_cases c1 : n > s.room
  · have d1 : decide (n > s.room) = true := decide_eq_true c1
    have d2 : decide (s.room < n) = true := decide_eq_true c1
    have HE := Aside0.mk (show addM s c n = (0, 7, s) by unfold addM; rw [if_pos (by have := HNUM.out; omega)])
    clear c1
    go_enter Tryz.func45, Tryz.ntmps45
    go_wp2
    repeat (go_quiet (fail); try go_wp2)
    go_ret2
    rw [HE.out]
    have h9 := HP0.out (W.drewN nq) (pw_below_drewN (Below.refl _ _) nq) HE.out
    rw [HE.out] at h9
    exact ⟨rfl, h9⟩
  · have d1 : decide (n > s.room) = false := decide_eq_false c1
    have d2 : decide (s.room < n) = false := decide_eq_false c1
    have hw1 : IntKind.i64.wrap (1 + n) = 1 + n := wrap_c (by omega) (by have := HNUM.out; omega)
    have hw2 : IntKind.i64.wrap (s.room - s.used) = s.room - s.used := wrap_c (by have := HNUM.out; omega) (by have := HNUM.out; omega)
    have HN := Aside0.mk (show 0 ≤ n ∧ n ≤ 4096 ∧ s.room ≤ 4096 by have := HNUM.out; omega)
    by_cases c2 : n > s.room - s.used - 1
    · have d3 : decide (1 + n > s.room - s.used) = true := decide_eq_true (by omega)
      have d4 : decide (s.room - s.used < 1 + n) = true := decide_eq_true (by omega)
      have HE := Aside0.mk (show addM s c n = (0, 7, s) by unfold addM; rw [if_pos c2])
      clear c1 c2 h0 hn
      go_enter Tryz.func45, Tryz.ntmps45
      go_wp2
      go_quiet (first | (go_at_call 30; (exact Calls.quiet_of ((rf_Used w0 F d rb s HLK.out HNL.out _ (by first | exact H.out | exact H.out.step (pw_below_drewN (Below.refl _ _) _))).mono fun _ _ h => ⟨h.1, h.2.out⟩))))
      go_wp2
      go_ret2
      have h9 := HP0.out (W.drewN nq) (pw_below_drewN (Below.refl _ _) nq) HE.out
      rw [HE.out] at h9 ⊢
      exact ⟨rfl, h9⟩
    · have d3 : decide (1 + n > s.room - s.used) = false := decide_eq_false (by omega)
      have d4 : decide (s.room - s.used < 1 + n) = false := decide_eq_false (by omega)
      have HCF := Aside0.mk c2
      have HE := Aside0.mk (show (addM s c n).1 = (s.last : Int) + 1 ∧ (addM s c n).2.1 = 0 by unfold addM; rw [if_neg c2]; exact ⟨rfl, rfl⟩)
      have HN2 := Aside0.mk (show 0 ≤ n ∧ n ≤ 4096 ∧ s.room ≤ 4096 from HN.out)
      clear c1 c2 h0 hn HP0
      rw [HE.out.1, HE.out.2]
      go_enter Tryz.func45, Tryz.ntmps45
      go_wp2
      go_quiet (first | (go_at_call 30; (exact Calls.quiet_of ((rf_Used w0 F d rb s HLK.out HNL.out _ (by first | exact H.out | exact H.out.step (pw_below_drewN (Below.refl _ _) _))).mono fun _ _ h => ⟨h.1, h.2.out⟩))))
      go_wp2_with fail
      have HKB := Aside0.mk (pw_below_drewN (Below.refl W.heap.size W) nq)
      replace H := Aside0.mk (H.out.step HKB.out)
      clear f1
      generalize W.drewN nq = w2 at H HKB ⊢
      (try simp only [Act.put, List.setIfInBounds_toArray, List.set_cons_zero, List.set_cons_succ])
      refine wp_region_held_drew (S := fun _ => True) (by kernel_rfl) trivial (fun hHeld => ?_)
      replace H : Aside0 (DIn w0 F d rb w2.drew) := ⟨H.out.step (pw_below_drewN (Below.refl _ _) 1)⟩
      replace HKB : Aside0 (Below W.heap.size W w2.drew) := ⟨below_step HKB.out (pw_below_drewN (Below.refl _ _) 1)⟩
      obtain ⟨Ao, co, eo⟩ := H.out.ovs
      have HEO := Aside0.mk eo
      clear eo
      have HWS := Aside0.mk HKB.out.size
      refine take_dst (i := 0) (v := ?_) 26 rfl rfl (by kernel_rfl) (by kernel_rfl) (by kernel_rfl) (fun _ _ _ h => h) (Or.inl ⟨by rfl, ?_⟩) (by assumption) ?_
      rotate_left
      · intro w hSw
        go_simp
        try with_reducible rfl
      (try simp only [Act.put, List.setIfInBounds_toArray, List.set_cons_zero, List.set_cons_succ])
      refine take_dst (i := 1) (v := ?_) 27 rfl rfl (by kernel_rfl) (by kernel_rfl) (by kernel_rfl) (fun _ _ _ h => h) (Or.inl ⟨by rfl, ?_⟩) (by assumption) ?_
      rotate_left
      · intro w hSw
        go_simp
        try with_reducible rfl
      (try simp only [Act.put, List.setIfInBounds_toArray, List.set_cons_zero, List.set_cons_succ])
      refine take_dst (i := 2) (v := ?_) 28 rfl rfl (by kernel_rfl) (by kernel_rfl) (by kernel_rfl) (fun _ _ _ h => h) (Or.inl ⟨by rfl, ?_⟩) (by assumption) ?_
      rotate_left
      · intro w hSw
        go_simp
        try with_reducible rfl
      (try simp only [Act.put, List.setIfInBounds_toArray, List.set_cons_zero, List.set_cons_succ])
      refine take_dst (i := 3) (v := ?_) 29 rfl rfl (by kernel_rfl) (by kernel_rfl) (by kernel_rfl) (fun _ _ _ h => h) (Or.inl ⟨by rfl, ?_⟩) (by assumption) ?_
      rotate_left
      · intro w hSw
        go_simp
        try with_reducible rfl
      (try simp only [Act.put, List.setIfInBounds_toArray, List.set_cons_zero, List.set_cons_succ])
      refine take_dst (i := 5) (v := ?_) 31 rfl rfl (by kernel_rfl) (by kernel_rfl) (by kernel_rfl) (fun _ _ _ h => h) (Or.inl ⟨by rfl, ?_⟩) (by assumption) ?_
      rotate_left
      · intro w hSw
        go_simp
        try with_reducible rfl
      (try simp only [Act.put, List.setIfInBounds_toArray, List.set_cons_zero, List.set_cons_succ])
      refine take_dst (i := 6) (v := ?_) 32 rfl rfl (by kernel_rfl) (by kernel_rfl) (by kernel_rfl) (fun _ _ _ h => h) (Or.inl ⟨by rfl, ?_⟩) (by assumption) ?_
      rotate_left
      · intro w hSw
        go_simp
        try with_reducible rfl
      (try simp only [Act.put, List.setIfInBounds_toArray, List.set_cons_zero, List.set_cons_succ])
      generalize w2.drew = w3 at H HKB HWS hHeld ⊢
      refine wpAnyH_ready (rs := [4, 7]) (by kernel_rfl) (by simp) ?_
      refine AllReadyH.cons rfl (fun K hK => ?_) (AllReadyH.cons rfl (fun K hK => ?_) AllReadyH.nil)
      · have f2 := H.out.cells.2.2
        rw [HEO.out] at f2
        go_simp
        refine hK.out _ _ trivial (fun hHeld => ?_)
        clear hK K f2
        (try simp only [Act.put, List.setIfInBounds_toArray, List.set_cons_zero, List.set_cons_succ])
        refine wpAnyH_ready (rs := [7]) (by kernel_rfl) (by simp) ?_
        refine AllReadyH.cons rfl (fun K hK => ?_) AllReadyH.nil
        have hmk := run_make_ints n HN.out.1 HN.out.2.1 w3
        go_simp
        have hb9 : Below w3.heap.size w3 (w3.alloc (.cells (Array.replicate n.toNat (Value.int .i64 0)) 3)) := below_alloc (Below.refl _ _) _
        have hg9 := blk_new w3 (.cells (Array.replicate n.toNat (Value.int .i64 0)) 3)
        refine hK.out _ _ trivial (fun hHeld => ?_)
        obtain ⟨g2, hg2⟩ : ∃ g2, g2 = w3.heap.size := ⟨_, rfl⟩
        have HGW := Aside0.mk (show W.heap.size ≤ g2 by rw [hg2]; exact HWS.out)
        have HLO := Aside0.mk (show (∀ i, i < d.obs.length → (d.obs.getD i oz).1 = true → rb i ≠ g2) ∧ w0.heap.size ≤ g2 by
          rw [hg2]
          exact ⟨fun i hi ht => by have := blk_lt (H.out.pl i hi ht).1; omega, H.out.below.size⟩)
        replace H := Aside0.mk (H.out.step hb9)
        rw [← hg2] at hg9 ⊢
        replace HKB := Aside0.mk (below_step HKB.out hb9)
        generalize w3.alloc (.cells (Array.replicate n.toNat (Value.int .i64 0)) 3) = w4 at H HKB hHeld hg9 ⊢
        have HG := Aside0.mk (show w4.heap[g2]? = some (.cells ((List.replicate n.toNat (0 : Int)).map (Value.int .i64)).toArray 3 (0, 0)) by simpa using hg9)
        have HWS4 := Aside0.mk HKB.out.size
        clear hmk hK K hb9 hg9 hg2
        (try simp only [Act.put, List.setIfInBounds_toArray, List.set_cons_zero, List.set_cons_succ])
        refine take_dst (i := 8) (v := ?_) 34 rfl rfl (by kernel_rfl) (by kernel_rfl) (by kernel_rfl) (fun _ _ _ h => h) (Or.inl ⟨by rfl, ?_⟩) (by assumption) ?_
        rotate_left
        · intro w hSw
          go_simp
          try with_reducible rfl
        (try simp only [Act.put, List.setIfInBounds_toArray, List.set_cons_zero, List.set_cons_succ])
        refine wpAnyH_ready (rs := [9]) (by kernel_rfl) (by simp) ?_
        refine AllReadyH.cons rfl (fun K hK => ?_) AllReadyH.nil
        go_simp
        refine hK.out _ _ trivial (fun hHeld => ?_)
        clear hK K
        (try simp only [Act.put, List.setIfInBounds_toArray, List.set_cons_zero, List.set_cons_succ])
        refine wpAnyH_ready (rs := [10]) (by kernel_rfl) (by simp) ?_
        refine AllReadyH.cons rfl (fun K hK => ?_) AllReadyH.nil
        refine Eq.mpr (if_pos (by rfl)) ?_
        refine R_append1_wp (Kd.raw 3) (w0 := w0) w0.heap.size rfl (.tmp 30) (.tmp 35) 55 83 (.agg #[.bool false, .int .i64 0, .slice none 0 0]) 40 rfl Tryz.underlying55 (by kernel_rfl) rfl (by show (0 : Nat) < 3; decide) (by decide) (.slice Ao d.obs.length co) (rowsD d.obs rb) (objC (fun _ => g2) d.obs.length (true, c, List.replicate n.toNat 0)) [.bool true, .int .i64 c, .slice (some ⟨g2, 0, none⟩) n.toNat n.toNat] (fun k => F k ∨ W.heap.size ≤ k) (fun _ => False) rfl rfl ⟨by simp [objC], rfl, by intro u hu; simp at hu; rcases hu with rfl | rfl | rfl <;> rfl⟩ (fun _ hh => hh.elim) (fun k hk => Or.inr (Nat.le_trans HWS4.out hk)) (Kd.R_mono (by have h9 := H.out.ro; rw [HEO.out] at h9; exact h9) (fun _ q => Or.inl q)) H.out.below H.out.below.size (by rw [rowsD_len]; have := HNL.out; unfold maxLen; omega) (by rw [rowsD_len]; exact obj_fits (by have := HNL.out; omega)) ?_
        intro v1 w5 hR hBl hg hat
        rw [← HEO.out] at hg
        refine hK.out _ _ trivial (fun hHeld => ?_)
        clear hK K hat
        (try simp only [Act.put, List.setIfInBounds_toArray, List.set_cons_zero, List.set_cons_succ])
        refine take_dst (i := 11) (v := ?_) 37 rfl rfl (by kernel_rfl) (by kernel_rfl) (by kernel_rfl) (fun _ _ _ h => h) (Or.inl ⟨by rfl, ?_⟩) (by assumption) ?_
        rotate_left
        · intro w hSw
          go_simp
          try with_reducible rfl
        (try simp only [Act.put, List.setIfInBounds_toArray, List.set_cons_zero, List.set_cons_succ])
        refine take_dst (i := 12) (v := ?_) 38 rfl rfl (by kernel_rfl) (by kernel_rfl) (by kernel_rfl) (fun _ _ _ h => h) (Or.inl ⟨by rfl, ?_⟩) (by assumption) ?_
        rotate_left
        · intro w hSw
          go_simp
          try with_reducible rfl
        (try simp only [Act.put, List.setIfInBounds_toArray, List.set_cons_zero, List.set_cons_succ])
        refine wpAnyH_ready (rs := [13]) (by kernel_rfl) (by simp) ?_
        refine AllReadyH.cons rfl (fun K hK => ?_) AllReadyH.nil
        refine Eq.mpr (if_pos (by rfl)) ?_
        have h5 := blk_grown H.out.hd hg (fun e => by
          obtain ⟨cells, h4⟩ := Kd.R_typed H.out.ro d.db e.symm
          rw [H.out.hd] at h4
          injection h4 with h4
          injection h4 with _ h4
          revert h4
          decide)
        obtain ⟨A1, c1, e1⟩ := Kd.R_slice hR
        refine rw_cell_wp 55 rfl (g := d.db) (i := 2) rfl (u := v1) rfl (by rw [e1]; rfl) [] (l2 := []) (t := 57) (cs := #[.slice d.A d.l.length d.c, .int .i64 d.room, d.ov]) (w0 := w0) ⟨fun p hp => by rw [List.mem_singleton.1 hp]; exact ⟨h5, H.out.fd.2⟩, by simp, hBl⟩ (by show (2 : Nat) < 3; decide) (by kernel_rfl) ?_
        intro w6 hX6 hk6
        refine hK.out _ _ trivial (fun hHeld => ?_)
        have hx6 := hX6.mem (g := d.db) (t := 57) (cs := #[.slice d.A d.l.length d.c, .int .i64 d.room, v1]) List.mem_cons_self
        have hin := H.out.added (F' := fun k => F k ∨ W.heap.size ≤ k) (fun _ q => Or.inl q) HC1.out (by simp; have := HN.out; omega) (fun y hy => by rw [List.eq_of_mem_replicate hy]; omega) HG.out HLO.out.2 (Or.inr HGW.out) HLO.out.1 hR hg hx6 hk6 hX6.below
        have hkk : ∀ k, k < W.heap.size → ¬ F k → w6.heap[k]? = W.heap[k]? := fun k hk hF => by
          have hlt := Nat.lt_of_lt_of_le hk HWS4.out
          rw [hk6.2 k (Nat.lt_of_lt_of_le hlt hg.size) (fun e => hF (by rw [e]; exact H.out.fd.1)), hg.block k hlt (fun e => hF (H.out.ro.1 k e.symm)), HKB.out.block k hk]
        have HP := Aside0.mk (show RfPost w0 F d W (addM s c n).2.2 w6 from ⟨{ d with ov := v1, obs := d.obs ++ [(true, c, List.replicate n.toNat 0)] }, _, rfl, by simp, HLK.out.added HN.out.1 (by have h9 := HCF.out; omega) HN.out.2.2 v1, hin, hkk⟩)
        have f2 : w6.cell? ⟨d.db, 2, none⟩ = some v1 := blk_cell hx6 2
        have hv1 : v1 = .slice A1 (d.obs.length + 1) c1 := by rw [e1, List.length_append, List.length_singleton, rowsD_len]
        rw [hv1] at f2
        clear hK K hX6 hk6 hx6 hin hkk h5 hR hBl hg e1 H HKB HG hv1
        refine wpAnyH_done (by kernel_rfl) ?_ _
        (try simp only [Act.put, List.setIfInBounds_toArray, List.set_cons_zero, List.set_cons_succ])
        go_wp2_with fail
        go_ret2
        exact ⟨by rw [HLS.out]; rfl, HP.out⟩
      · have hmk := run_make_ints n HN.out.1 HN.out.2.1 w3
        go_simp
        have hb9 : Below w3.heap.size w3 (w3.alloc (.cells (Array.replicate n.toNat (Value.int .i64 0)) 3)) := below_alloc (Below.refl _ _) _
        have hg9 := blk_new w3 (.cells (Array.replicate n.toNat (Value.int .i64 0)) 3)
        refine hK.out _ _ trivial (fun hHeld => ?_)
        obtain ⟨g2, hg2⟩ : ∃ g2, g2 = w3.heap.size := ⟨_, rfl⟩
        have HGW := Aside0.mk (show W.heap.size ≤ g2 by rw [hg2]; exact HWS.out)
        have HLO := Aside0.mk (show (∀ i, i < d.obs.length → (d.obs.getD i oz).1 = true → rb i ≠ g2) ∧ w0.heap.size ≤ g2 by
          rw [hg2]
          exact ⟨fun i hi ht => by have := blk_lt (H.out.pl i hi ht).1; omega, H.out.below.size⟩)
        replace H := Aside0.mk (H.out.step hb9)
        rw [← hg2] at hg9 ⊢
        replace HKB := Aside0.mk (below_step HKB.out hb9)
        generalize w3.alloc (.cells (Array.replicate n.toNat (Value.int .i64 0)) 3) = w4 at H HKB hHeld hg9 ⊢
        have HG := Aside0.mk (show w4.heap[g2]? = some (.cells ((List.replicate n.toNat (0 : Int)).map (Value.int .i64)).toArray 3 (0, 0)) by simpa using hg9)
        have HWS4 := Aside0.mk HKB.out.size
        clear hmk hK K hb9 hg9 hg2
        (try simp only [Act.put, List.setIfInBounds_toArray, List.set_cons_zero, List.set_cons_succ])
        refine take_dst (i := 8) (v := ?_) 34 rfl rfl (by kernel_rfl) (by kernel_rfl) (by kernel_rfl) (fun _ _ _ h => h) (Or.inl ⟨by rfl, ?_⟩) (by assumption) ?_
        rotate_left
        · intro w hSw
          go_simp
          try with_reducible rfl
        (try simp only [Act.put, List.setIfInBounds_toArray, List.set_cons_zero, List.set_cons_succ])
        refine wpAnyH_ready (rs := [4, 9]) (by kernel_rfl) (by simp) ?_
        refine AllReadyH.cons rfl (fun K hK => ?_) (AllReadyH.cons rfl (fun K hK => ?_) AllReadyH.nil)
        · have f2 := H.out.cells.2.2
          rw [HEO.out] at f2
          go_simp
          refine hK.out _ _ trivial (fun hHeld => ?_)
          clear hK K f2
          (try simp only [Act.put, List.setIfInBounds_toArray, List.set_cons_zero, List.set_cons_succ])
          refine wpAnyH_ready (rs := [9]) (by kernel_rfl) (by simp) ?_
          refine AllReadyH.cons rfl (fun K hK => ?_) AllReadyH.nil
          go_simp
          refine hK.out _ _ trivial (fun hHeld => ?_)
          clear hK K
          (try simp only [Act.put, List.setIfInBounds_toArray, List.set_cons_zero, List.set_cons_succ])
          refine wpAnyH_ready (rs := [10]) (by kernel_rfl) (by simp) ?_
          refine AllReadyH.cons rfl (fun K hK => ?_) AllReadyH.nil
          refine Eq.mpr (if_pos (by rfl)) ?_
          refine R_append1_wp (Kd.raw 3) (w0 := w0) w0.heap.size rfl (.tmp 30) (.tmp 35) 55 83 (.agg #[.bool false, .int .i64 0, .slice none 0 0]) 40 rfl Tryz.underlying55 (by kernel_rfl) rfl (by show (0 : Nat) < 3; decide) (by decide) (.slice Ao d.obs.length co) (rowsD d.obs rb) (objC (fun _ => g2) d.obs.length (true, c, List.replicate n.toNat 0)) [.bool true, .int .i64 c, .slice (some ⟨g2, 0, none⟩) n.toNat n.toNat] (fun k => F k ∨ W.heap.size ≤ k) (fun _ => False) rfl rfl ⟨by simp [objC], rfl, by intro u hu; simp at hu; rcases hu with rfl | rfl | rfl <;> rfl⟩ (fun _ hh => hh.elim) (fun k hk => Or.inr (Nat.le_trans HWS4.out hk)) (Kd.R_mono (by have h9 := H.out.ro; rw [HEO.out] at h9; exact h9) (fun _ q => Or.inl q)) H.out.below H.out.below.size (by rw [rowsD_len]; have := HNL.out; unfold maxLen; omega) (by rw [rowsD_len]; exact obj_fits (by have := HNL.out; omega)) ?_
          intro v1 w5 hR hBl hg hat
          rw [← HEO.out] at hg
          refine hK.out _ _ trivial (fun hHeld => ?_)
          clear hK K hat
          (try simp only [Act.put, List.setIfInBounds_toArray, List.set_cons_zero, List.set_cons_succ])
          refine take_dst (i := 11) (v := ?_) 37 rfl rfl (by kernel_rfl) (by kernel_rfl) (by kernel_rfl) (fun _ _ _ h => h) (Or.inl ⟨by rfl, ?_⟩) (by assumption) ?_
          rotate_left
          · intro w hSw
            go_simp
            try with_reducible rfl
          (try simp only [Act.put, List.setIfInBounds_toArray, List.set_cons_zero, List.set_cons_succ])
          refine take_dst (i := 12) (v := ?_) 38 rfl rfl (by kernel_rfl) (by kernel_rfl) (by kernel_rfl) (fun _ _ _ h => h) (Or.inl ⟨by rfl, ?_⟩) (by assumption) ?_
          rotate_left
          · intro w hSw
            go_simp
            try with_reducible rfl
          (try simp only [Act.put, List.setIfInBounds_toArray, List.set_cons_zero, List.set_cons_succ])
          refine wpAnyH_ready (rs := [13]) (by kernel_rfl) (by simp) ?_
          refine AllReadyH.cons rfl (fun K hK => ?_) AllReadyH.nil
          refine Eq.mpr (if_pos (by rfl)) ?_
          have h5 := blk_grown H.out.hd hg (fun e => by
            obtain ⟨cells, h4⟩ := Kd.R_typed H.out.ro d.db e.symm
            rw [H.out.hd] at h4
            injection h4 with h4
            injection h4 with _ h4
            revert h4
            decide)
          obtain ⟨A1, c1, e1⟩ := Kd.R_slice hR
          refine rw_cell_wp 55 rfl (g := d.db) (i := 2) rfl (u := v1) rfl (by rw [e1]; rfl) [] (l2 := []) (t := 57) (cs := #[.slice d.A d.l.length d.c, .int .i64 d.room, d.ov]) (w0 := w0) ⟨fun p hp => by rw [List.mem_singleton.1 hp]; exact ⟨h5, H.out.fd.2⟩, by simp, hBl⟩ (by show (2 : Nat) < 3; decide) (by kernel_rfl) ?_
          intro w6 hX6 hk6
          refine hK.out _ _ trivial (fun hHeld => ?_)
          have hx6 := hX6.mem (g := d.db) (t := 57) (cs := #[.slice d.A d.l.length d.c, .int .i64 d.room, v1]) List.mem_cons_self
          have hin := H.out.added (F' := fun k => F k ∨ W.heap.size ≤ k) (fun _ q => Or.inl q) HC1.out (by simp; have := HN.out; omega) (fun y hy => by rw [List.eq_of_mem_replicate hy]; omega) HG.out HLO.out.2 (Or.inr HGW.out) HLO.out.1 hR hg hx6 hk6 hX6.below
          have hkk : ∀ k, k < W.heap.size → ¬ F k → w6.heap[k]? = W.heap[k]? := fun k hk hF => by
            have hlt := Nat.lt_of_lt_of_le hk HWS4.out
            rw [hk6.2 k (Nat.lt_of_lt_of_le hlt hg.size) (fun e => hF (by rw [e]; exact H.out.fd.1)), hg.block k hlt (fun e => hF (H.out.ro.1 k e.symm)), HKB.out.block k hk]
          have HP := Aside0.mk (show RfPost w0 F d W (addM s c n).2.2 w6 from ⟨{ d with ov := v1, obs := d.obs ++ [(true, c, List.replicate n.toNat 0)] }, _, rfl, by simp, HLK.out.added HN.out.1 (by have h9 := HCF.out; omega) HN.out.2.2 v1, hin, hkk⟩)
          have f2 : w6.cell? ⟨d.db, 2, none⟩ = some v1 := blk_cell hx6 2
          have hv1 : v1 = .slice A1 (d.obs.length + 1) c1 := by rw [e1, List.length_append, List.length_singleton, rowsD_len]
          rw [hv1] at f2
          clear hK K hX6 hk6 hx6 hin hkk h5 hR hBl hg e1 H HKB HG hv1
          refine wpAnyH_done (by kernel_rfl) ?_ _
          (try simp only [Act.put, List.setIfInBounds_toArray, List.set_cons_zero, List.set_cons_succ])
          go_wp2_with fail
          go_ret2
          exact ⟨by rw [HLS.out]; rfl, HP.out⟩
        · go_simp
          refine hK.out _ _ trivial (fun hHeld => ?_)
          clear hK K
          (try simp only [Act.put, List.setIfInBounds_toArray, List.set_cons_zero, List.set_cons_succ])
          refine wpAnyH_ready (rs := [4]) (by kernel_rfl) (by simp) ?_
          refine AllReadyH.cons rfl (fun K hK => ?_) AllReadyH.nil
          have f2 := (H.out.step (below_alloc (Below.refl _ _) (.cells #[.bool true, .int .i64 c, .slice (some ⟨g2, 0, none⟩) n.toNat n.toNat] 83))).cells.2.2
          rw [HEO.out] at f2
          go_simp
          refine hK.out _ _ trivial (fun hHeld => ?_)
          clear hK K f2
          (try simp only [Act.put, List.setIfInBounds_toArray, List.set_cons_zero, List.set_cons_succ])
          refine wpAnyH_ready (rs := [10]) (by kernel_rfl) (by simp) ?_
          refine AllReadyH.cons rfl (fun K hK => ?_) AllReadyH.nil
          refine Eq.mpr (if_pos (by rfl)) ?_
          refine R_append1_wp (Kd.raw 3) (w0 := w0) w0.heap.size rfl (.tmp 30) (.tmp 35) 55 83 (.agg #[.bool false, .int .i64 0, .slice none 0 0]) 40 rfl Tryz.underlying55 (by kernel_rfl) rfl (by show (0 : Nat) < 3; decide) (by decide) (.slice Ao d.obs.length co) (rowsD d.obs rb) (objC (fun _ => g2) d.obs.length (true, c, List.replicate n.toNat 0)) [.bool true, .int .i64 c, .slice (some ⟨g2, 0, none⟩) n.toNat n.toNat] (fun k => F k ∨ W.heap.size ≤ k) (fun _ => False) rfl rfl ⟨by simp [objC], rfl, by intro u hu; simp at hu; rcases hu with rfl | rfl | rfl <;> rfl⟩ (fun _ hh => hh.elim) (fun k hk => Or.inr (Nat.le_trans HWS4.out hk)) (Kd.R_mono (by have h9 := H.out.ro; rw [HEO.out] at h9; exact h9) (fun _ q => Or.inl q)) H.out.below H.out.below.size (by rw [rowsD_len]; have := HNL.out; unfold maxLen; omega) (by rw [rowsD_len]; exact obj_fits (by have := HNL.out; omega)) ?_
          intro v1 w5 hR hBl hg hat
          rw [← HEO.out] at hg
          refine hK.out _ _ trivial (fun hHeld => ?_)
          clear hK K hat
          (try simp only [Act.put, List.setIfInBounds_toArray, List.set_cons_zero, List.set_cons_succ])
          refine take_dst (i := 11) (v := ?_) 37 rfl rfl (by kernel_rfl) (by kernel_rfl) (by kernel_rfl) (fun _ _ _ h => h) (Or.inl ⟨by rfl, ?_⟩) (by assumption) ?_
          rotate_left
          · intro w hSw
            go_simp
            try with_reducible rfl
          (try simp only [Act.put, List.setIfInBounds_toArray, List.set_cons_zero, List.set_cons_succ])
          refine take_dst (i := 12) (v := ?_) 38 rfl rfl (by kernel_rfl) (by kernel_rfl) (by kernel_rfl) (fun _ _ _ h => h) (Or.inl ⟨by rfl, ?_⟩) (by assumption) ?_
          rotate_left
          · intro w hSw
            go_simp
            try with_reducible rfl
          (try simp only [Act.put, List.setIfInBounds_toArray, List.set_cons_zero, List.set_cons_succ])
          refine wpAnyH_ready (rs := [13]) (by kernel_rfl) (by simp) ?_
          refine AllReadyH.cons rfl (fun K hK => ?_) AllReadyH.nil
          refine Eq.mpr (if_pos (by rfl)) ?_
          have h5 := blk_grown H.out.hd hg (fun e => by
            obtain ⟨cells, h4⟩ := Kd.R_typed H.out.ro d.db e.symm
            rw [H.out.hd] at h4
            injection h4 with h4
            injection h4 with _ h4
            revert h4
            decide)
          obtain ⟨A1, c1, e1⟩ := Kd.R_slice hR
          refine rw_cell_wp 55 rfl (g := d.db) (i := 2) rfl (u := v1) rfl (by rw [e1]; rfl) [] (l2 := []) (t := 57) (cs := #[.slice d.A d.l.length d.c, .int .i64 d.room, d.ov]) (w0 := w0) ⟨fun p hp => by rw [List.mem_singleton.1 hp]; exact ⟨h5, H.out.fd.2⟩, by simp, hBl⟩ (by show (2 : Nat) < 3; decide) (by kernel_rfl) ?_
          intro w6 hX6 hk6
          refine hK.out _ _ trivial (fun hHeld => ?_)
          have hx6 := hX6.mem (g := d.db) (t := 57) (cs := #[.slice d.A d.l.length d.c, .int .i64 d.room, v1]) List.mem_cons_self
          have hin := H.out.added (F' := fun k => F k ∨ W.heap.size ≤ k) (fun _ q => Or.inl q) HC1.out (by simp; have := HN.out; omega) (fun y hy => by rw [List.eq_of_mem_replicate hy]; omega) HG.out HLO.out.2 (Or.inr HGW.out) HLO.out.1 hR hg hx6 hk6 hX6.below
          have hkk : ∀ k, k < W.heap.size → ¬ F k → w6.heap[k]? = W.heap[k]? := fun k hk hF => by
            have hlt := Nat.lt_of_lt_of_le hk HWS4.out
            rw [hk6.2 k (Nat.lt_of_lt_of_le hlt hg.size) (fun e => hF (by rw [e]; exact H.out.fd.1)), hg.block k hlt (fun e => hF (H.out.ro.1 k e.symm)), HKB.out.block k hk]
          have HP := Aside0.mk (show RfPost w0 F d W (addM s c n).2.2 w6 from ⟨{ d with ov := v1, obs := d.obs ++ [(true, c, List.replicate n.toNat 0)] }, _, rfl, by simp, HLK.out.added HN.out.1 (by have h9 := HCF.out; omega) HN.out.2.2 v1, hin, hkk⟩)
          have f2 : w6.cell? ⟨d.db, 2, none⟩ = some v1 := blk_cell hx6 2
          have hv1 : v1 = .slice A1 (d.obs.length + 1) c1 := by rw [e1, List.length_append, List.length_singleton, rowsD_len]
          rw [hv1] at f2
          clear hK K hX6 hk6 hx6 hin hkk h5 hR hBl hg e1 H HKB HG hv1
          refine wpAnyH_done (by kernel_rfl) ?_ _
          (try simp only [Act.put, List.setIfInBounds_toArray, List.set_cons_zero, List.set_cons_succ])
          go_wp2_with fail
          go_ret2
          exact ⟨by rw [HLS.out]; rfl, HP.out⟩
end Go.Proofs.YtkjagcamikkjkaaGreat.P

end

section
namespace Go.Proofs.YtkjagcamikkjkaaGreat.P
open Go.RowKit Go.Proofs.YtkjagcamikkjkaaGreatW.PrintWords Go.Proofs.YtkjagcamikkjkaaGreatW.PrintLast Go.Proofs.YtkjagcamikkjkaaGreatW.PrintMore
attribute [local go_sem] max2_int min2_int max_two min_two max_three min_three max_four min_four
set_option linter.unusedVariables false
set_option linter.unusedSimpArgs false
theorem ref_isref (t : Int) : provisoref02_IsRef.f t = some (isRefH t) := by
  unfold isRefH types_IsRef.f provisoref02_IsRef.f
  by_cases h3 : t = 3 <;> by_cases h4 : t = 4 <;> by_cases h5 : t = 5 <;> simp [h3, h4, h5]
theorem ct_IsRef (t : Int) (w : World) : Calls Tryz.prog 73 #[.int .u8 t] w fun e w' => e = .returned (.bool (isRefH t)) ∧ Below w.heap.size w w' :=
  (provisoref02_IsRef.calls t _ w (ref_isref t)).mono fun e w' h => ⟨h.1, h.2.below⟩
theorem ct_Fields (A : Option Addr) (c : Nat) (l : List S38) (x : Int) (w : World) (hr : Kd.C k38 w A l.length l) (hc : l.length ≤ c) (hs : Sane l) (hg : Good l) :
    Calls Tryz.prog 46 #[.slice A l.length c, .int .i64 x] w fun e w' => ∃ v : Value, e = .returned v ∧ Kd.R k41 41 w' w.heap.size (fun _ => True) v (fieldsL l x) ∧ Below w.heap.size w w' := by
  obtain ⟨k, hk⟩ := (ref_fields' hs hg x).rounds
  exact provisoref02_Fields.calls k A c l x _ w hr hc hk
end Go.Proofs.YtkjagcamikkjkaaGreat.P

end

section
namespace Go.Proofs.YtkjagcamikkjkaaGreat.P
open Go.RowKit Go.Proofs.YtkjagcamikkjkaaGreatW.PrintWords Go.Proofs.YtkjagcamikkjkaaGreatW.PrintLast Go.Proofs.YtkjagcamikkjkaaGreatW.PrintMore
attribute [local go_sem] max2_int min2_int max_two min_two max_three min_three max_four min_four
set_option linter.unusedVariables false
set_option linter.unusedSimpArgs false
theorem RfPost.from_ {w0 : World} {F : Nat → Prop} {d : DS} {W w1 : World} {s' : HS} {w' : World} (h : RfPost w0 F d w1 s' w') (hb : Below W.heap.size W w1) : RfPost w0 F d W s' w' := by
  obtain ⟨d', rb', h1, h2, h3, h4, h5⟩ := h
  exact ⟨d', rb', h1, h2, h3, h4.wider (fun k hk => hk.imp id (fun q => Nat.le_trans hb.size q)), fun k hk hF => (h5 k (Nat.lt_of_lt_of_le hk hb.size) hF).trans (hb.block k hk)⟩
set_option maxHeartbeats 1600000 in
set_option maxRecDepth 100000 in
theorem rf_MakeRow (w0 : World) (F : Nat → Prop) (d : DS) (rb : Nat → Nat) (s : HS) (hs : Like s d) (hn9 : d.obs.length < 4398046511104) (n : Int) (hn : n ≤ 9223372036854775807) (W : World) (hnum : 0 ≤ s.used ∧ s.used ≤ s.room ∧ s.room ≤ 4096) (h : DIn w0 F d rb W) : Calls Tryz.prog 17 #[.pointer (some ⟨d.db, 0, none⟩), .int .i64 n] W fun e w' => e = .returned (.tuple #[.int .i64 (rowM s n).1, .int .i64 (rowM s n).2.1]) ∧ RfPost w0 F d W (rowM s n).2.2 w' := by
  have H := Aside0.mk h
  have HLK := Aside0.mk hs
  have HNL := Aside0.mk hn9
  have HNUM := Aside0.mk hnum
  have HN := Aside0.mk hn
  clear h hs hn9 hnum hn
  unfold rowM
  by_cases c1 : n < 0
  · rw [if_pos c1]
    have d1 : decide (n < 0) = true := decide_eq_true c1
    clear c1
    go_enter Tryz.func17, Tryz.ntmps17
    go_wp2
    go_ret2
    exact ⟨rfl, RfPost.same HLK.out H.out (Below.refl _ _)⟩
  · rw [if_neg c1]
    have d1 : decide (n < 0) = false := decide_eq_false c1
    have H0 := Aside0.mk (show 0 ≤ n by omega)
    clear c1
    go_enter Tryz.func17, Tryz.ntmps17
    go_wp2_with fail
    refine (rf_made w0 F d rb s HLK.out HNL.out (-1) n (by decide) H0.out HN.out W HNUM.out H.out).mono ?_
    rintro e w1 ⟨rfl, hp⟩
    have HP := Aside0.mk hp
    clear hp
    go_wp2_with fail
    go_ret2
    exact ⟨rfl, HP.out⟩
set_option maxHeartbeats 1600000 in
set_option maxRecDepth 100000 in
theorem rf_Record (w0 : World) (F : Nat → Prop) (d : DS) (rb : Nat → Nat) (s : HS) (hs : Like s d) (hn9 : d.obs.length < 4398046511104) (hg : Good d.l) (hsn : Sane d.l) (c : Int) (W : World) (hnum : 0 ≤ s.used ∧ s.used ≤ s.room ∧ s.room ≤ 4096) (h : DIn w0 F d rb W) : Calls Tryz.prog 15 #[.pointer (some ⟨d.db, 0, none⟩), .int .i64 c] W fun e w' => e = .returned (.tuple #[.int .i64 (recordM s c).1, .int .i64 (recordM s c).2.1]) ∧ RfPost w0 F d W (recordM s c).2.2 w' := by
  have H := Aside0.mk h
  have HLK := Aside0.mk hs
  have HNL := Aside0.mk hn9
  have HNUM := Aside0.mk hnum
  have HG := Aside0.mk hg
  have HSN := Aside0.mk hsn
  have f0 := h.cells.1
  have hll : s.l = d.l := hs.l
  clear h hs hn9 hnum hg hsn
  unfold recordM
  by_cases c1 : c < 0 ∨ c ≥ (s.l.length : Int)
  · rw [if_pos c1]
    rw [hll] at c1
    clear hll
    by_cases c2 : c < 0
    · have d1 : decide (c < 0) = true := decide_eq_true c2
      clear c1 c2
      go_enter Tryz.func15, Tryz.ntmps15
      go_wp2
      go_ret2
      exact ⟨rfl, RfPost.same HLK.out H.out (Below.refl _ _)⟩
    · have d1 : decide (c < 0) = false := decide_eq_false c2
      have d2 : decide (c ≥ (d.l.length : Int)) = true := decide_eq_true (by omega)
      have d3 : decide ((d.l.length : Int) ≤ c) = true := decide_eq_true (by omega)
      clear c1 c2
      go_enter Tryz.func15, Tryz.ntmps15
      go_wp2
      go_ret2
      exact ⟨rfl, RfPost.same HLK.out H.out (Below.refl _ _)⟩
  · rw [if_neg c1]
    rw [hll] at c1
    rw [hll]
    clear hll
    have d1 : decide (c < 0) = false := decide_eq_false (by omega)
    have d2 : decide (c ≥ (d.l.length : Int)) = false := decide_eq_false (by omega)
    have d3 : decide ((d.l.length : Int) ≤ c) = false := decide_eq_false (by omega)
    have HC0 := Aside0.mk (show 0 ≤ c by omega)
    have HFL := Aside0.mk (show (fieldsL d.l c).length < 5864062014805 from (fieldsL_is (impl_fields' HG.out c)).2)
    obtain ⟨fl, hfl⟩ : ∃ fl, fl = fieldsL d.l c := ⟨_, rfl⟩
    rw [← hfl] at HFL ⊢
    have HFF := Aside0.mk hfl
    clear c1 hfl
    go_enter Tryz.func15, Tryz.ntmps15
    go_wp2_with fail
    refine (ct_Fields d.A d.c d.l c W (Kd.C_below H.out.cl.1 H.out.below) H.out.cl.2 HSN.out HG.out).mono ?_
    rintro e w1 ⟨v, rfl, hR, hb⟩
    rw [← HFF.out] at hR
    obtain ⟨Af, cf, ef⟩ := Kd.R_slice hR
    subst ef
    have HB := Aside0.mk hb
    replace H := Aside0.mk (H.out.step hb)
    clear hR hb f0
    go_wp2_with fail
    refine (rf_made w0 F d rb s HLK.out HNL.out c (fl.length : Int) (by have := HC0.out; omega) (by omega) (by have := HFL.out; omega) w1 HNUM.out H.out).mono ?_
    rintro e w2 ⟨rfl, hp⟩
    have HP := Aside0.mk hp
    clear hp
    go_wp2_with fail
    go_ret2
    exact ⟨rfl, HP.out.from_ HB.out⟩
end Go.Proofs.YtkjagcamikkjkaaGreat.P

end

section
namespace Go.Proofs.YtkjagcamikkjkaaGreat.P
open Go.RowKit Go.Proofs.YtkjagcamikkjkaaGreatW.PrintWords Go.Proofs.YtkjagcamikkjkaaGreatW.PrintLast Go.Proofs.YtkjagcamikkjkaaGreatW.PrintMore
attribute [local go_sem] max2_int min2_int max_two min_two max_three min_three max_four min_four
set_option linter.unusedVariables false
set_option linter.unusedSimpArgs false
theorem getD_set {α : Type} (l : List α) (i j : Nat) (x d : α) (h : i < l.length) : (l.set i x).getD j d = if j = i then x else l.getD j d := by
  rw [List.getD_eq_getElem?_getD, List.getElem?_set]
  by_cases e : i = j
  · subst e
    simp [h]
  · rw [if_neg e, if_neg (fun q => e q.symm), List.getD_eq_getElem?_getD]
def putO (obs : List (Bool × Int × List Int)) (i j : Nat) (v : Int) : List (Bool × Int × List Int) := obs.set i ((obs.getD i oz).1, (obs.getD i oz).2.1, (obs.getD i oz).2.2.set j v)
theorem putO_at {obs : List (Bool × Int × List Int)} {i : Nat} (hi : i < obs.length) (j : Nat) (v : Int) (k : Nat) : (putO obs i j v).getD k oz = if k = i then ((obs.getD i oz).1, (obs.getD i oz).2.1, (obs.getD i oz).2.2.set j v) else obs.getD k oz := getD_set _ _ _ _ _ hi
theorem putO_len (obs : List (Bool × Int × List Int)) (i j : Nat) (v : Int) : (putO obs i j v).length = obs.length := by simp [putO]
theorem putO_same {obs : List (Bool × Int × List Int)} {i : Nat} (hi : i < obs.length) (j : Nat) (v : Int) (k : Nat) : ((putO obs i j v).getD k oz).1 = (obs.getD k oz).1 ∧ ((putO obs i j v).getD k oz).2.1 = (obs.getD k oz).2.1 ∧ ((putO obs i j v).getD k oz).2.2.length = (obs.getD k oz).2.2.length := by
  rw [putO_at hi]
  by_cases e : k = i
  · rw [if_pos e, e]; simp
  · rw [if_neg e]; exact ⟨rfl, rfl, rfl⟩
theorem rows_put {obs : List (Bool × Int × List Int)} {i : Nat} (hi : i < obs.length) (j : Nat) (v : Int) (rb : Nat → Nat) : rowsD (putO obs i j v) rb = rowsD obs rb := by
  unfold rowsD
  rw [putO_len]
  refine List.map_congr_left (fun k _ => ?_)
  obtain ⟨h1, h2, h3⟩ := putO_same hi j v k
  unfold objC
  rw [h1, h2, h3]
theorem DIn.put {w0 : World} {F : Nat → Prop} {d : DS} {rb : Nat → Nat} {W W1 : World} (h : DIn w0 F d rb W) {i : Nat} (hi : i < d.obs.length) (ht : (d.obs.getD i oz).1 = true) {j : Nat} {v : Int} (hv : -2147483648 ≤ v ∧ v ≤ 2147483647) (hX : W1.heap[rb i]? = some (.cells (((d.obs.getD i oz).2.2.set j v).map (Value.int .i64)).toArray 3 (0, 0))) (hk : Kept W W1 (fun k => k = rb i)) (hbl : Below w0.heap.size w0 W1) : DIn w0 F { d with obs := putO d.obs i j v } rb W1 := by
  have hr := (h.pl i hi ht).1
  refine ⟨blk_kept h.hd hk (blk_ne h.hd hr (by show (57 : Nat) ≠ 3; decide)), ?_, fun k hk9 htk => ?_, fun a b ha hb h1 h2 hab => ?_, fun k hk9 => ?_, h.fd, h.cl, hbl⟩
  · show Kd.R (Kd.raw 3) 83 W1 w0.heap.size F d.ov (rowsD (putO d.obs i j v) rb)
    rw [rows_put hi]
    exact Kd.R_mono (Kd.R_step (Kd.R_types h.ro hr (by show ∀ q, q ∈ (83 : Nat) :: (Kd.raw 3).E → q ≠ (3 : Nat); decide)) (fun j hj hlt => hk.2 j hlt hj.2)) (fun _ q => q.1)
  · change k < (putO d.obs i j v).length at hk9
    rw [putO_len] at hk9
    change ((putO d.obs i j v).getD k oz).1 = true at htk
    rw [(putO_same hi j v k).1] at htk
    show W1.heap[rb k]? = some (.cells (((putO d.obs i j v).getD k oz).2.2.map (Value.int .i64)).toArray 3 (0, 0)) ∧ F (rb k) ∧ w0.heap.size ≤ rb k
    refine ⟨?_, (h.pl k hk9 htk).2⟩
    rw [putO_at hi]
    by_cases e : k = i
    · subst e
      rw [if_pos rfl]
      exact hX
    · rw [if_neg e]
      exact blk_kept (h.pl k hk9 htk).1 hk (h.inj k i hk9 hi htk ht e)
  · change a < (putO d.obs i j v).length at ha
    change b < (putO d.obs i j v).length at hb
    rw [putO_len] at ha hb
    change ((putO d.obs i j v).getD a oz).1 = true at h1
    change ((putO d.obs i j v).getD b oz).1 = true at h2
    rw [(putO_same hi j v _).1] at h1 h2
    exact h.inj a b ha hb h1 h2 hab
  · change k < (putO d.obs i j v).length at hk9
    rw [putO_len] at hk9
    show DOK ((putO d.obs i j v).getD k oz)
    have h9 := h.ok k hk9
    rw [putO_at hi]
    by_cases e : k = i
    · subst e
      rw [if_pos rfl]
      refine ⟨fun q => ?_, by simpa using h9.2.1, fun y hy => ?_, h9.2.2.2⟩
      · rw [ht] at q; cases q
      · rcases List.mem_or_eq_of_mem_set hy with q | q
        · exact h9.2.2.1 y q
        · rw [q]; exact hv
    · rw [if_neg e]; exact h9
theorem Like.put {s : HS} {d : DS} (h : Like s d) {i : Nat} (hi : i < d.obs.length) (ht : (d.obs.getD i oz).1 = true) (j v : Int) (hp : placeE s ((i : Int) + 1) j = 0) (hv : ¬ (v < -2147483648 ∨ v > 2147483647)) : Like (putM s ((i : Int) + 1) j v).2 { d with obs := putO d.obs i j.toNat v } := by
  have hsum := h.sum.put ((i : Int) + 1) j v
  have e : (putM s ((i : Int) + 1) j v).2 = { s with m := setNum s.m ((i : Int) + 1) j v } := by unfold putM; rw [if_pos hp, if_neg hv]
  rw [e] at hsum ⊢
  refine ⟨?_, ?_, hsum, h.used, h.l, h.room⟩
  · show setNum s.m ((i : Int) + 1) j v = mOf (putO d.obs i j.toNat v)
    funext x
    unfold setNum
    by_cases e9 : x = (i : Int) + 1
    · rw [if_pos e9, e9, h.m, mOf_in hi, mOf_in (by rw [putO_len]; exact hi), putO_at hi, if_pos rfl, ht]
      rfl
    · rw [if_neg e9, h.m]
      by_cases hx : 1 ≤ x ∧ x ≤ (d.obs.length : Int)
      · obtain ⟨k, hk, rfl⟩ := ref_split hx
        rw [mOf_in hk, mOf_in (by rw [putO_len]; exact hk), putO_at hi, if_neg (show ¬ k = i from fun q => e9 (by rw [q]))]
      · rw [mOf_out hx, mOf_out (by rw [putO_len]; exact hx)]
  · show s.last = (putO d.obs i j.toNat v).length
    rw [putO_len, h.last]
set_option maxHeartbeats 1600000 in
set_option maxRecDepth 100000 in
theorem rf_Put (w0 : World) (F : Nat → Prop) (d : DS) (rb : Nat → Nat) (s : HS) (hs : Like s d) (hn9 : d.obs.length < 4398046511104) (x j v : Int) (hk : I64 x) (W : World) (h : DIn w0 F d rb W) : Calls Tryz.prog 21 #[.pointer (some ⟨d.db, 0, none⟩), .int .i64 x, .int .i64 j, .int .i64 v] W fun e w' => e = .returned (.int .i64 (putM s x j v).1) ∧ RfPost w0 F d W (putM s x j v).2 w' := by
  have H := Aside0.mk h
  have HLK := Aside0.mk hs
  have HNL := Aside0.mk hn9
  have HK := Aside0.mk hk
  have hcall := rf_Get w0 F d rb s hs.m x j hk (by omega) W h
  have hm := hs.m
  clear h hs hn9 hk
  by_cases hp : placeE s x j = 0
  · obtain ⟨o, ho, hj0, hj1, hx0⟩ := placeE_found hp
    rw [getM_yes hx0 ho ⟨hj0, hj1⟩] at hcall
    rw [hm] at ho
    obtain ⟨i, hi, rfl⟩ : ∃ i : Nat, i < d.obs.length ∧ x = (i : Int) + 1 := ref_split (Classical.byContradiction fun q => by rw [mOf_out q] at ho; cases ho)
    have hot : (d.obs.getD i oz).1 = true ∧ (d.obs.getD i oz).2.1 = o.1 ∧ (d.obs.getD i oz).2.2 = o.2 := by
      rw [mOf_in hi] at ho
      split at ho
      · rename_i h9
        cases ho
        exact ⟨h9, rfl, rfl⟩
      · cases ho
    have HP0 := Aside0.mk hp
    have HOT := Aside0.mk hot
    have HI := Aside0.mk hi
    obtain ⟨gv, hgv⟩ : ∃ gv, gv = o.2.getD j.toNat 0 := ⟨_, rfl⟩
    rw [← hgv] at hcall
    have HC := Aside0.mk hcall
    clear hcall hgv ho hm hx0 hot
    by_cases cv : v < -2147483648 ∨ v > 2147483647
    · have hpv : putM s ((i : Int) + 1) j v = (5, s) := by unfold putM; rw [if_pos hp, if_pos cv]
      rw [hpv]
      clear hp hpv hi
      by_cases c1 : v < -2147483648
      · have d1 : decide (v < -2147483648) = true := decide_eq_true c1
        clear c1 cv
        go_enter Tryz.func21, Tryz.ntmps21
        go_wp2_with fail
        refine HC.out.mono ?_
        rintro e w1 ⟨rfl, hb⟩
        have HB := Aside0.mk hb
        clear hb HC
        go_wp2_with fail
        go_ret
        exact ⟨rfl, RfPost.same HLK.out H.out HB.out⟩
      · have d1 : decide (v < -2147483648) = false := decide_eq_false c1
        have d2 : decide (v > 2147483647) = true := decide_eq_true (by omega)
        have d3 : decide (2147483647 < v) = true := decide_eq_true (by omega)
        clear c1 cv
        go_enter Tryz.func21, Tryz.ntmps21
        go_wp2_with fail
        refine HC.out.mono ?_
        rintro e w1 ⟨rfl, hb⟩
        have HB := Aside0.mk hb
        clear hb HC
        go_wp2_with fail
        go_ret
        exact ⟨rfl, RfPost.same HLK.out H.out HB.out⟩
    · have HLP := Aside0.mk (HLK.out.put hi HOT.out.1 j v hp cv)
      have hpv : (putM s ((i : Int) + 1) j v).1 = 0 := by unfold putM; rw [if_pos hp, if_neg cv]
      rw [hpv]
      have d1 : decide (v < -2147483648) = false := decide_eq_false (by omega)
      have d2 : decide (v > 2147483647) = false := decide_eq_false (by omega)
      have d3 : decide (2147483647 < v) = false := decide_eq_false (by omega)
      have HV := Aside0.mk (show -2147483648 ≤ v ∧ v ≤ 2147483647 by omega)
      have hw : wrap64 (i : Int) = (i : Int) := by have := HNL.out; unfold wrap64; omega
      have p5 : (0 ≤ (i : Int)) = True := eq_true (by omega)
      have p6 : ((i : Int) < (d.obs.length : Int)) = True := eq_true (by omega)
      obtain ⟨jn, rfl⟩ : ∃ jn : Nat, j = (jn : Int) := ⟨j.toNat, by omega⟩
      have HJ := Aside0.mk (show jn < o.2.length by omega)
      have p7 : (0 ≤ (jn : Int)) = True := eq_true (by omega)
      have p8 : ((jn : Int) < (o.2.length : Int)) = True := eq_true (by omega)
      rw [Int.toNat_natCast] at HLP
      clear cv hp hpv hi hj0 hj1
      go_enter Tryz.func21, Tryz.ntmps21
      go_wp2_with fail
      refine HC.out.mono ?_
      rintro e w1 ⟨rfl, hb⟩
      have HB := Aside0.mk hb
      replace H := Aside0.mk (H.out.step hb)
      clear hb HC
      obtain ⟨ad, cc, eo, g0, g1, g2⟩ := H.out.at_ HI.out
      rw [HOT.out.1, if_pos rfl, HOT.out.2.2] at g2
      obtain ⟨_, _, f2⟩ := H.out.cells
      rw [eo] at f2
      have hpl := H.out.pl _ HI.out HOT.out.1
      rw [HOT.out.2.2] at hpl
      have HPL := Aside0.mk hpl
      clear hpl
      go_wp2_with ((with_reducible refine gate_store (t := 3) (p := 38) rfl ?_); refine rw_cell rfl 3 rfl (g := rb i) (i := jn) rfl (u := .int .i64 v) rfl rfl [] (l2 := []) (t := 3) (cs := (o.2.map (Value.int .i64)).toArray) (w0 := w0) ⟨fun p hp => by rw [List.mem_singleton.1 hp]; exact ⟨HPL.out.1, HPL.out.2.2⟩, by simp, H.out.below⟩ (by simpa using HJ.out) (by kernel_rfl) ?_; intro w2 hX hk9; have HX := Aside0.mk hX; have HK9 := Aside0.mk hk9; clear hX hk9)
      go_ret
      refine ⟨rfl, { d with obs := putO d.obs i jn v }, rb, rfl, by show (putO d.obs i jn v).length ≤ _; rw [putO_len]; exact Nat.le_succ _, HLP.out, (H.out.put HI.out HOT.out.1 HV.out (by
        have h9 := HX.out.mem List.mem_cons_self
        rw [HOT.out.2.2]
        rw [h9]
        simp [List.map_set]) HK9.out HX.out.below).wider (fun _ q => .inl q), fun k hk hF => ?_⟩
      rw [HK9.out.2 k (Nat.lt_of_lt_of_le hk HB.out.size) (fun e => hF (by rw [e]; exact HPL.out.2.1)), HB.out.block k hk]
  · have hg : getM s x j = (0, placeE s x j) := by unfold getM; rw [if_neg hp]
    have hpv : putM s x j v = (placeE s x j, s) := by unfold putM; rw [if_neg hp]
    rw [hg] at hcall
    rw [hpv]
    obtain ⟨n, hn⟩ : ∃ n, n = placeE s x j := ⟨_, rfl⟩
    rw [← hn] at hcall hp ⊢
    have hnb : (n != 0) = true := by rw [bne_iff_ne]; exact hp
    have hnc : (n == 0) = false := by rw [beq_eq_false_iff_ne]; exact hp
    have HC := Aside0.mk hcall
    clear hcall hg hpv hp hn hm
    go_enter Tryz.func21, Tryz.ntmps21
    go_wp2_with fail
    refine HC.out.mono ?_
    rintro e w1 ⟨rfl, hb⟩
    have HB := Aside0.mk hb
    clear hb HC
    go_wp2_with fail
    go_ret
    exact ⟨rfl, RfPost.same HLK.out H.out HB.out⟩
end Go.Proofs.YtkjagcamikkjkaaGreat.P

end

section
namespace Go.Proofs.YtkjagcamikkjkaaGreat.P
open Go.RowKit Go.Proofs.YtkjagcamikkjkaaGreatW.PrintWords Go.Proofs.YtkjagcamikkjkaaGreatW.PrintLast Go.Proofs.YtkjagcamikkjkaaGreatW.PrintMore
attribute [local go_sem] max2_int min2_int max_two min_two max_three min_three max_four min_four
set_option linter.unusedVariables false
set_option linter.unusedSimpArgs false
set_option maxHeartbeats 1600000 in
set_option maxRecDepth 100000 in
theorem rf_Leads (w0 : World) (F : Nat → Prop) (d : DS) (rb : Nat → Nat) (s : HS) (hs : Like s d) (hn9 : d.obs.length < 4398046511104) (hob : ∀ x o, s.m x = some o → ObjOK s.l s.last x o) (hg : Good d.l) (hsn : Sane d.l) (x : Int) (hk : I64 x) (W : World) (h : DIn w0 F d rb W) : Calls Tryz.prog 54 #[.pointer (some ⟨d.db, 0, none⟩), .int .i64 x] W fun e w' => ∃ (v : Value) (zs : List Int), e = .returned v ∧ Kd.R (Kd.int .i64) 3 w' W.heap.size (fun _ => True) v zs ∧ Below W.heap.size W w' ∧ (∀ y, y ∈ zs ↔ SuccM s x y) ∧ zs.length ≤ 4096 := by
  have H := Aside0.mk h
  have HLK := Aside0.mk hs
  have HNL := Aside0.mk hn9
  have HK := Aside0.mk hk
  have HG := Aside0.mk hg
  have HSN := Aside0.mk hsn
  have hcall := rf_Class w0 F d rb s hs.m x hk (by omega) W h
  have hm := hs.m
  by_cases hc : ∃ o, s.m x = some o ∧ 0 ≤ o.1
  · obtain ⟨o, ho, hoc⟩ := hc
    have hok := hob x o ho
    have hx0 : ¬ x = 0 := by have := hok.1; omega
    rw [classM_yes hx0 ho, if_neg (by omega)] at hcall
    have HOM := Aside0.mk ho
    rw [hm] at ho
    obtain ⟨i, hi, rfl⟩ : ∃ i : Nat, i < d.obs.length ∧ x = (i : Int) + 1 := ref_split (Classical.byContradiction fun q => by rw [mOf_out q] at ho; cases ho)
    have hot : (d.obs.getD i oz).1 = true ∧ (d.obs.getD i oz).2.1 = o.1 ∧ (d.obs.getD i oz).2.2 = o.2 := by
      rw [mOf_in hi] at ho
      split at ho
      · rename_i h9
        cases ho
        exact ⟨h9, rfl, rfl⟩
      · cases ho
    have HOT := Aside0.mk hot
    have HI := Aside0.mk hi
    have HOC := Aside0.mk hoc
    obtain ⟨fl, hfl⟩ : ∃ fl, fl = fieldsL d.l o.1 := ⟨_, rfl⟩
    have HFL := Aside0.mk hfl
    obtain ⟨ps, hps⟩ : ∃ ps, ps = o.2 := ⟨_, rfl⟩
    have HPS := Aside0.mk (show ps = o.2 ∧ ps.length = fl.length ∧ ps.length ≤ 4096 ∧ ∀ y ∈ ps, I64 y by
      have h2 := hok.2.2.2.1 hoc
      rw [hps, hfl, ← hs.l]
      exact ⟨rfl, h2.2, hok.2.2.1, fun y hy => by have := hok.2.2.2.2 y hy; unfold I64; omega⟩)
    have HC := Aside0.mk hcall
    have hw : wrap64 (i : Int) = (i : Int) := by have := HNL.out; unfold wrap64; omega
    clear h hs hn9 hk hg hsn hcall hm hob hok hx0 ho hi hot hoc hfl hps
    go_enter Tryz.func54, Tryz.ntmps54
    go_wp2_with fail
    refine HC.out.mono ?_
    rintro e w1 ⟨rfl, hb⟩
    have HB := Aside0.mk hb
    clear hb HC
    have f0 := (H.out.step HB.out).cells.1
    go_wp2_with fail
    refine (ct_Fields d.A d.c d.l o.1 w1 (Kd.C_below H.out.cl.1 (H.out.step HB.out).below) H.out.cl.2 HSN.out HG.out).mono ?_
    rintro e w2 ⟨vf, rfl, hF, hb⟩
    replace HB := Aside0.mk (below_step HB.out hb)
    rw [← HFL.out] at hF
    obtain ⟨Bf, df, ef, hdf, hCf⟩ := Kd.R_reads hF
    subst ef
    have HCF := Aside0.mk hCf
    have HS2 := Aside0.mk HB.out.size
    clear hF hb f0 hCf hdf
    go_wp2_with fail
    go_loopw [5, 9] (fun v5 v9 wr => ∃ (j : Nat) (v : Value) (zs : List Int), v9 = .int .i64 (j : Int) ∧ v5 = v ∧ j ≤ ps.length ∧ Aside0 (Below w2.heap.size w2 wr) ∧ Aside0 (Kd.R (Kd.int .i64) 3 wr w2.heap.size (fun _ => True) v zs) ∧ Aside0 (∀ y, y ∈ zs ↔ ∃ j', j' < j ∧ isRefH (rd_T41 fl (j' : Int)).f1 = true ∧ y = ps.getD j' 0 ∧ (s.m y).isSome = true) ∧ Aside0 (zs.length ≤ j)) (fun _ v9 _ => ((ps.length : Int) - intOf v9).toNat)
    case atStart => exact ⟨0, _, [], rfl, rfl, Nat.zero_le _, ⟨Below.refl _ _⟩, ⟨Kd.R_nil _ _ _ _ _⟩, ⟨fun y => ⟨fun q => (by cases q), fun ⟨j', q, _⟩ => absurd q (Nat.not_lt_zero _)⟩⟩, ⟨Nat.le_refl _⟩⟩
    case round =>
      obtain ⟨j, v, zs, rfl, rfl, hj, HB2, HV, HZ, HZL⟩ := hrel
      obtain ⟨Av, cv, ev⟩ := Kd.R_slice HV.out
      subst ev
      have HBW := Aside0.mk (below_then HB.out HS2.out HB2.out)
      have HIN := Aside0.mk (H.out.step HBW.out)
      by_cases c1 : j < ps.length
      · obtain ⟨ad, cc, eo, g0, g1, g2⟩ := HIN.out.at_ HI.out
        rw [HOT.out.1, if_pos rfl, HOT.out.2.2, ← HPS.out.1] at g2
        obtain ⟨_, _, f2⟩ := HIN.out.cells
        rw [eo] at f2
        have hpl := (HIN.out.pl _ HI.out HOT.out.1).1
        rw [HOT.out.2.2, ← HPS.out.1] at hpl
        have g3 := num_cell hpl c1
        obtain ⟨y, hy⟩ : ∃ y, y = ps.getD j 0 := ⟨_, rfl⟩
        rw [← hy] at g3
        have HYY := Aside0.mk hy
        have HYK := Aside0.mk (HPS.out.2.2.2 y (by rw [hy, List.getD_eq_getElem?_getD, List.getElem?_eq_getElem c1]; exact List.getElem_mem c1))
        obtain ⟨ad3, e3, hf0, hf1⟩ := at_T41 (Kd.C_below HCF.out HB2.out) (j : Int) (by omega) (by have := HPS.out.2.1; omega)
        cases e3
        obtain ⟨ft, hft⟩ : ∃ ft, ft = (rd_T41 fl (j : Int)).f1 := ⟨_, rfl⟩
        rw [Int.toNat_natCast] at hf0 hf1
        rw [← hft] at hf1
        have HFT := Aside0.mk hft
        have c1b : decide ((j : Int) < (fl.length : Int)) = true := decide_eq_true (by have := HPS.out.2.1; omega)
        have c1c : decide (j < fl.length) = true := decide_eq_true (by have := HPS.out.2.1; omega)
        have p5 : (0 ≤ (j : Int)) = True := eq_true (by omega)
        have p6 : ((j : Int) < (ps.length : Int)) = True := eq_true (by omega)
        have p7 : ((j : Int) < (fl.length : Int)) = True := eq_true (by have := HPS.out.2.1; omega)
        have p8 : (0 ≤ (i : Int)) = True := eq_true (by omega)
        have p9 : ((i : Int) < (d.obs.length : Int)) = True := eq_true (by have := HI.out; omega)
        have HJ := Aside0.mk c1
        have HW := Aside0.mk (wrap_h c1 (by have := HPS.out.2.2.1; omega))
        clear hy c1 hft hpl eo g0 g1 hf0
        go_wp2_with fail
        refine (ct_IsRef ft _).mono ?_
        rintro e w10 ⟨rfl, hb⟩
        replace HB2 := Aside0.mk (below_step HB2.out hb)
        replace HV := Aside0.mk (Kd.R_below HV.out hb)
        clear hb hf1 g2 g3 f2
        cases hq : isRefH ft with
        | true =>
          have hcall := rf_There w0 F d rb y HYK.out (by have := HNL.out; omega) w10 (H.out.step (below_then HB.out HS2.out HB2.out))
          rw [← HLK.out.m] at hcall
          cases hq2 : (s.m y).isSome with
          | true =>
            rw [hq2] at hcall
            have HC := Aside0.mk hcall
            clear hcall
            go_wp2_with fail
            refine HC.out.mono ?_
            rintro e w11 ⟨rfl, hb⟩
            replace HB2 := Aside0.mk (below_step HB2.out hb)
            replace HV := Aside0.mk (Kd.R_below HV.out hb)
            clear hb HC
            go_wp2_with ((with_reducible refine gate_dst (N := 57) rfl ?_); refine ap_int rfl rfl (w0 := w2) w2.heap.size y HV.out rfl rfl HB2.out HB2.out.size (by have h1 := HZL.out; have h2 := HJ.out; have h3 := HPS.out.2.2.1; omega) ?_; intro v9 w12 hV hb9; replace HV := Aside0.mk hV; replace HB2 := Aside0.mk hb9; clear hV hb9; obtain ⟨A9, c9, e9⟩ := Kd.R_slice HV.out; subst e9)
            go_roundw
            case rel => exact ⟨j + 1, _, zs ++ [y], (by rw [HW.out]), rfl, HJ.out, HB2, ⟨by have h9 := HV.out; first | exact h9 | (simp only [List.length_append, List.length_singleton] at h9; exact h9)⟩, ⟨fun z => by
              rw [List.mem_append, List.mem_singleton, HZ.out]
              constructor
              · rintro (⟨j', q1, q2⟩ | rfl)
                · exact ⟨j', by omega, q2⟩
                · exact ⟨j, by omega, by rw [← HFT.out]; exact hq, HYY.out, hq2⟩
              · rintro ⟨j', q1, q2, q3, q4⟩
                by_cases e9 : j' = j
                · subst e9; exact .inr (q3.trans HYY.out.symm)
                · exact .inl ⟨j', by omega, q2, q3, q4⟩⟩, ⟨by rw [List.length_append, List.length_singleton]; have := HZL.out; omega⟩⟩
            case measure => exact meas_h HJ.out HW.out
          | false =>
            rw [hq2] at hcall
            have HC := Aside0.mk hcall
            clear hcall
            go_wp2_with fail
            refine HC.out.mono ?_
            rintro e w11 ⟨rfl, hb⟩
            replace HB2 := Aside0.mk (below_step HB2.out hb)
            replace HV := Aside0.mk (Kd.R_below HV.out hb)
            clear hb HC
            go_wp2_with fail
            go_roundw
            case rel => exact ⟨j + 1, _, zs, (by rw [HW.out]), rfl, HJ.out, HB2, HV, ⟨fun z => by
              rw [HZ.out]
              constructor
              · rintro ⟨j', q1, q2⟩
                exact ⟨j', by omega, q2⟩
              · rintro ⟨j', q1, q2, q3, q4⟩
                by_cases e9 : j' = j
                · subst e9; rw [q3, ← HYY.out, hq2] at q4; cases q4
                · exact ⟨j', by omega, q2, q3, q4⟩⟩, ⟨by have := HZL.out; omega⟩⟩
            case measure => exact meas_h HJ.out HW.out
        | false =>
          go_wp2_with fail
          go_roundw
          case rel => exact ⟨j + 1, _, zs, (by rw [HW.out]), rfl, HJ.out, HB2, HV, ⟨fun z => by
            rw [HZ.out]
            constructor
            · rintro ⟨j', q1, q2⟩
              exact ⟨j', by omega, q2⟩
            · rintro ⟨j', q1, q2, q3, q4⟩
              by_cases e9 : j' = j
              · subst e9; rw [← HFT.out, hq] at q2; cases q2
              · exact ⟨j', by omega, q2, q3, q4⟩⟩, ⟨by have := HZL.out; omega⟩⟩
          case measure => exact meas_h HJ.out HW.out
      · have c1b : decide ((j : Int) < (fl.length : Int)) = false := decide_eq_false (by have := HPS.out.2.1; omega)
        have c1c : decide (j < fl.length) = false := decide_eq_false (by have := HPS.out.2.1; omega)
        have HJE := Aside0.mk (show j = fl.length by have := HPS.out.2.1; omega)
        clear c1 hj
        go_wp2_with fail
        go_ret
        refine ⟨_, zs, rfl, Kd.R_lower HV.out HS2.out, HBW.out, fun y => ?_, by have h1 := HZL.out; have h2 := HJE.out; have h3 := HPS.out; omega⟩
        rw [HZ.out]
        constructor
        · rintro ⟨j', q1, q2, q3, q4⟩
          exact ⟨o, j', HOM.out, HOC.out, by rw [HLK.out.l, ← HFL.out, ← HJE.out]; exact q1, by rw [HLK.out.l, ← HFL.out]; exact q2, by rw [q3, HPS.out.1], q4⟩
        · rintro ⟨o', j', q0, _, q1, q2, q3, q4⟩
          rw [HOM.out] at q0
          cases q0
          rw [HLK.out.l, ← HFL.out] at q1 q2
          exact ⟨j', by rw [HJE.out]; exact q1, q2, by rw [q3, HPS.out.1], q4⟩
  · have hcl : classM s x = (0, false) := by
      cases ho : s.m x with
      | none => exact classM_no ho
      | some o =>
        have hok := hob x o ho
        rw [classM_yes (by have := hok.1; omega) ho, if_pos (Classical.byContradiction fun q => hc ⟨o, ho, by omega⟩)]
    rw [hcl] at hcall
    have HC := Aside0.mk hcall
    have HNO := Aside0.mk (show ∀ y, ¬ SuccM s x y from fun y ⟨o, j, q0, q1, _⟩ => hc ⟨o, q0, q1⟩)
    clear h hs hn9 hk hg hsn hcall hm hob hc hcl
    go_enter Tryz.func54, Tryz.ntmps54
    go_wp2_with fail
    refine HC.out.mono ?_
    rintro e w1 ⟨rfl, hb⟩
    have HB := Aside0.mk hb
    clear hb HC
    go_wp2_with fail
    go_ret
    exact ⟨_, [], rfl, Kd.R_nil _ _ _ _ _, HB.out, fun y => ⟨fun q => (by cases q), fun q => absurd q (HNO.out y)⟩, by simp⟩
end Go.Proofs.YtkjagcamikkjkaaGreat.P

end

section
namespace Go.Proofs.YtkjagcamikkjkaaGreat.P
open Go.RowKit Go.Proofs.YtkjagcamikkjkaaGreatW.PrintWords Go.Proofs.YtkjagcamikkjkaaGreatW.PrintLast Go.Proofs.YtkjagcamikkjkaaGreatW.PrintMore
attribute [local go_sem] max2_int min2_int max_two min_two max_three min_three max_four min_four
set_option linter.unusedVariables false
set_option linter.unusedSimpArgs false
section
variable {ops : Array Oper} {rest : List Oper} {o : Oper} {a : Act} {Q : Exit → Act → World → Prop}
theorem ap_int2 (hgd : o.guard = none) {s x : Operand} (ho : o.op = .call { callee := .builtin .append, args := #[s, x], argTypes := #[42, 42] }) {w0 W : World} (base : Nat) {ok : Nat → Prop} {v : Value} {xs : List Int} (p : Int) (HO : Kd.R (Kd.int .i64) 3 W base ok v xs) (hs : a.eval s = v) (hx : a.eval x = .slice (some ⟨W.heap.size, 0, none⟩) 1 1)
    (HB : Below base w0 W) (hbase : base ≤ W.heap.size) (hl : xs.length ≤ 17592186060800) (hfresh : ∀ k, W.heap.size ≤ k → ok k)
    (h : ∀ v1 w1, Kd.R (Kd.int .i64) 3 w1 base ok v1 (xs ++ [p]) → Below base w0 w1 → W.grownBy w1 v.ownBlock → wpList Tryz.prog ops Q rest (a.put o.dst v1) w1) : wpList Tryz.prog ops Q (o :: rest) a (W.alloc (.cells #[.int .i64 p] 3)) :=
  wpList_plain hgd fun K hK => R_append1_wp (Kd.int .i64) (w0 := w0) base hgd s x 42 3 (.int .i64 0) 8 ho Tryz.underlying42 info3 rfl (by decide) (by decide) v xs p [.int .i64 p] ok (fun _ => False) hs hx rfl (fun _ h => h.elim) hfresh HO HB hbase (by unfold maxLen; omega) (int_fits hl) (fun v1 w1 h1 h2 h3 _ => hK _ _ (h v1 w1 h1 h2 h3))
def MidKept (a b : Nat) (w W : World) : Prop := b ≤ W.heap.size ∧ ∀ k, a ≤ k → k < b → W.heap[k]? = w.heap[k]?
theorem MidKept.step {a b : Nat} {w W W1 : World} (h : MidKept a b w W) (hb : Below W.heap.size W W1) : MidKept a b w W1 := ⟨Nat.le_trans h.1 hb.size, fun k h1 h2 => (hb.block k (Nat.lt_of_lt_of_le h2 h.1)).trans (h.2 k h1 h2)⟩
theorem MidKept.grown {a b : Nat} {w W W1 : World} {r : Option Nat} (h : MidKept a b w W) (hg : W.grownBy W1 r) (hr : ∀ k, r = some k → k < a ∨ b ≤ k) : MidKept a b w W1 := ⟨Nat.le_trans h.1 hg.size, fun k h1 h2 => (hg.block k (Nat.lt_of_lt_of_le h2 h.1) (fun e => by have := hr k e.symm; omega)).trans (h.2 k h1 h2)⟩
theorem MidKept.C {α : Type} {d : Kd α} {e a : Nat} {w W : World} {xs : List α} {A : Option Addr} {c : Nat} (hR : d.R e w a (fun _ => True) (.slice A xs.length c) xs) (h : MidKept a w.heap.size w W) : d.C W A xs.length xs := by
  have h1 : d.R e W a (fun k => a ≤ k) (.slice A xs.length c) xs := Kd.R_step (Kd.R_mono (Kd.R_bound hR) (fun k hk => hk.2.1)) (fun k hk hlt => h.2 k hk hlt)
  obtain ⟨A', c', e9, _, h9⟩ := Kd.R_reads h1
  injection e9 with e9 _ _
  rw [e9]
  exact h9
end
theorem add0 (g m : Nat) : (⟨g, 0, none⟩ : Addr).add m = ⟨g, m, none⟩ := by
  unfold Addr.add
  split
  · rename_i h; first | (subst h; rfl) | (rw [h]) | simp_all
  · simp
theorem R_addr {α : Type} {d : Kd α} {e : Nat} {w : World} {base : Nat} {ok : Nat → Prop} {v : Value} {xs : List α} (h : d.R e w base ok v xs) (hb : ∃ b, v.ownBlock = some b) : ∃ g cap, v = .slice (some ⟨g, 0, none⟩) xs.length cap ∧ w.heap.size > g ∧ base ≤ g := by
  obtain ⟨h0, inner, ho, hr⟩ := h
  have hlt := own_lt ho
  rcases ho.2 with ⟨rfl, _⟩ | ⟨g, cap, cur, rfl, hbg, _⟩
  · obtain ⟨b, hb⟩ := hb
    simp [Value.ownBlock] at hb
  · exact ⟨g, cap, rfl, hlt g (by simp [Value.ownBlock]), hbg⟩
section
variable {ops : Array Oper} {rest : List Oper} {o : Oper} {a : Act} {Q : Exit → Act → World → Prop}
theorem bool_put (hgd : o.guard = none) {p x : Operand} (ho : o.op = .store 4 p x) (hN : o.dst = none) {w0 W : World} {base g n cap : Nat} {ok : Nat → Prop} {xs : List Bool} {b : Bool} (i : Nat) (HO : Kd.R Kd.bool 4 W base ok (.slice (some ⟨g, 0, none⟩) n cap) xs) (hi : i < n) (HB : Below base w0 W) (haddr : a.eval p = .pointer (some ⟨g, i, none⟩)) (hx : a.eval x = .bool b)
    (h : ∀ w1, Kd.R Kd.bool 4 w1 base ok (.slice (some ⟨g, 0, none⟩) n cap) (xs.set i b) → Below base w0 w1 → W.grownBy w1 (some g) → wpList Tryz.prog ops Q rest a w1) : wpList Tryz.prog ops Q (o :: rest) a W := by
  obtain ⟨c, hcl, _, hcc⟩ := Kd.R_getA HO false (i : Int) (by omega) (by omega)
  obtain ⟨q, rfl⟩ := List.length_eq_one_iff.1 (hcl.trans rfl)
  refine Kd.R_store Kd.bool base hN hgd 4 p x ho 4 (i : Int) 0 xs b (.bool b) [.bool b] [q] ok (fun _ => False) haddr (by show i = i * 1 + 0; omega) hx rfl (by kernel_rfl) (by intro q hq; rw [List.mem_singleton.1 hq]; rfl) HO (by omega) (by omega) rfl (fun j u hj => by have := hcc j u hj; rw [add0] at this; exact this) (by show 0 + 1 ≤ 1; omega) rfl (fun _ hk => hk.elim) HB ?_
  intro w1 h1 h2 h3
  exact h w1 (by rw [Int.toNat_natCast] at h1; exact h1) h2 h3
end
theorem bools_at {w : World} {base : Nat} {ok : Nat → Prop} {g n c : Nat} {xs : List Bool} (h : Kd.R Kd.bool 4 w base ok (.slice (some ⟨g, 0, none⟩) n c) xs) {i : Nat} (hi : i < n) : w.cell? ⟨g, i, none⟩ = some (.bool (xs.getD i false)) := by
  have h0 := Kd.R_reads' h
  obtain ⟨ad, e, hx⟩ := Kd.at_bool h0.2.2 (i : Int) (by omega) (by omega)
  cases e
  rw [Int.toNat_natCast, add0] at hx
  rw [hx]
  unfold rdOf
  rw [Int.toNat_natCast]
structure ComeOK (n : Nat) (cm : List Bool) (nx : List Int) : Prop where
  len : cm.length = n + 1
  is : ∀ i : Nat, i ≤ n → (cm.getD i false = true ↔ (i : Int) ∈ nx)
theorem ComeOK.start (n : Nat) : ComeOK n (List.replicate (n + 1) false) [] := ⟨by simp, fun i hi => by
  rw [List.getD_eq_getElem?_getD, List.getElem?_replicate, if_pos (by omega)]
  simp⟩
theorem ComeOK.add {n : Nat} {cm : List Bool} {nx : List Int} (h : ComeOK n cm nx) {i : Nat} (hi : i ≤ n) : ComeOK n (cm.set i true) (nx ++ [(i : Int)]) := ⟨by rw [List.length_set]; exact h.len, fun k hk => by
  rw [getD_set _ _ _ _ _ (by rw [h.len]; omega), List.mem_append, List.mem_singleton]
  by_cases e : k = i
  · rw [if_pos e, e]; simp
  · rw [if_neg e, h.is k hk]
    exact ⟨.inl, fun q => q.elim id (fun q => absurd (by omega) e)⟩⟩
structure NextOK (s : HS) (roots : List Int) (nx : List Int) : Prop where
  nd : nx.Nodup
  live : ∀ x ∈ nx, (s.m x).isSome = true
  least : ∀ P : Int → Prop, (∀ x ∈ roots, (s.m x).isSome = true → P x) → (∀ x v, P x → SuccM s x v → P v) → ∀ x ∈ nx, P x
theorem NextOK.add {s : HS} {roots nx : List Int} (h : NextOK s roots nx) {x : Int} (hx : x ∉ nx) (hl : (s.m x).isSome = true) (hp : ∀ P : Int → Prop, (∀ x ∈ roots, (s.m x).isSome = true → P x) → (∀ x v, P x → SuccM s x v → P v) → P x) : NextOK s roots (nx ++ [x]) :=
  ⟨nodup_snoc h.nd hx, fun y hy => (List.mem_append.1 hy).elim (h.live y) (fun q => by rw [List.mem_singleton.1 q]; exact hl), fun P p1 p2 y hy => (List.mem_append.1 hy).elim (h.least P p1 p2 y) (fun q => by rw [List.mem_singleton.1 q]; exact hp P p1 p2)⟩
set_option maxHeartbeats 3200000 in
set_option maxRecDepth 100000 in
theorem rf_Reach (w0 : World) (F : Nat → Prop) (d : DS) (rb : Nat → Nat) (s : HS) (hs : Like s d) (hn9 : d.obs.length < 4398046511104) (hob : ∀ x o, s.m x = some o → ObjOK s.l s.last x o) (hg : Good d.l) (hsn : Sane d.l) (A : Option Addr) (c : Nat) (roots : List Int) (W : World) (hC : Kd.C (Kd.int .i64) W A roots.length roots) (hrk : ∀ y ∈ roots, I64 y) (hrl : roots.length < 17592186044416) (h : DIn w0 F d rb W) : Calls Tryz.prog 25 #[.pointer (some ⟨d.db, 0, none⟩), .slice A roots.length c] W fun e w' => Below W.heap.size W w' ∧ ((BadRoots s roots ∧ e = .returned (.tuple #[.slice none 0 0, .int .i64 141])) ∨ ∃ (met : List Int) (v : Value), ¬ BadRoots s roots ∧ Reached s roots met ∧ e = .returned (.tuple #[v, .int .i64 0]) ∧ Kd.R (Kd.int .i64) 3 w' W.heap.size (fun _ => True) v (reachL s met)) := by
  have H := Aside0.mk h
  have HLK := Aside0.mk hs
  have HNL := Aside0.mk hn9
  have HOB := Aside0.mk hob
  have HG := Aside0.mk hg
  have HSN := Aside0.mk hsn
  have HRC := Aside0.mk hC
  have HRK := Aside0.mk hrk
  have HRL := Aside0.mk hrl
  obtain ⟨n, hn⟩ : ∃ n, n = d.obs.length := ⟨_, rfl⟩
  obtain ⟨Ao, co, eo⟩ := h.ovs
  have f2 := h.cells.2.2
  rw [eo, ← hn] at f2
  have HNN := Aside0.mk hn
  have HM0 := Aside0.mk (show s.m 0 = none by rw [hs.m]; exact mOf_zero _)
  have HIR := Aside0.mk (show ∀ x : Int, (s.m x).isSome = true → ∃ k : Nat, x = (k : Int) ∧ 1 ≤ k ∧ k ≤ n by
    intro x hx
    obtain ⟨o, ho⟩ := Option.isSome_iff_exists.1 hx
    have h1 := hs.sum.1 x o ho
    have h2 := hs.last
    exact ⟨x.toNat, by omega, by omega, by omega⟩)
  obtain ⟨N, hN⟩ : ∃ N, N = n + 1 := ⟨_, rfl⟩
  have hw1 : wrap64 ((n : Int) + 1) = (N : Int) := by unfold wrap64; omega
  have HNE := Aside0.mk hN
  have HFEW := Aside0.mk (show ∀ l : List Int, l.Nodup → (∀ x ∈ l, (s.m x).isSome = true) → l.length ≤ 4096 from hs.sum.few hs.used)
  clear h hs hn9 hob hg hsn hC hrk hrl eo hn hN
  go_enter Tryz.func25, Tryz.ntmps25
  go_wp2_with ((with_reducible refine gate_dst (N := 20) rfl ?_); refine Kd.R_make Kd.bool (w0 := W) W.heap.size 4 rfl rfl 101 _ _ rfl (wrap64 ((n : Int) + 1)) rfl rfl Tryz.underlying101 (.bool false) 1 (by kernel_rfl) rfl (by decide) (by decide) false (ok := fun _ => True) (okp := fun _ => False) rfl (fun _ h => h.elim) trivial (by rw [hw1]; omega) (by rw [hw1]; have := HNL.out; have := HNN.out; have := HNE.out; omega) (Below.refl _ _) (Nat.le_refl _) ?_; intro v8 w1 hR8 hb8 _ hown; rw [hw1, Int.toNat_natCast] at hR8; obtain ⟨gc, cc, e8, hgc, hbg8⟩ := R_addr hR8 ⟨_, hown.choose_spec.1⟩; rw [List.length_replicate] at e8; subst e8; have HCM := Aside0.mk (Kd.R_mono (ok' := fun k => k = gc) (Kd.R_tight rfl hR8) (fun k hk => by simp [Value.ownBlock] at hk; exact hk)); have HB := Aside0.mk hb8; have HGC := Aside0.mk hgc; clear hR8 hb8 hown hgc hbg8)
  go_wp2_with fail
  have HS1 := Aside0.mk (show gc < w1.heap.size from HGC.out)
  go_loopw [7, 8] (fun v7 v8 wr => ∃ (i : Nat) (v : Value) (nx : List Int) (cm : List Bool), v8 = .int .i64 (i : Int) ∧ v7 = v ∧ i ≤ roots.length ∧ Aside0 (Below W.heap.size W wr) ∧ Aside0 (gc < wr.heap.size) ∧ Aside0 (Kd.R Kd.bool 4 wr W.heap.size (fun k => k = gc) (.slice (some ⟨gc, 0, none⟩) N cc) cm) ∧ Aside0 (Kd.R (Kd.int .i64) 3 wr W.heap.size (fun k => k ≠ gc) v nx) ∧ Aside0 (ComeOK n cm nx) ∧ Aside0 (NextOK s roots nx) ∧ Aside0 (∀ y ∈ roots.take i, (s.m y).isSome = true → y ∈ nx) ∧ Aside0 (∀ y ∈ roots.take i, y ≠ 0 → (s.m y).isSome = true)) (fun _ v8 _ => ((roots.length : Int) - intOf v8).toNat)
  case atStart => exact ⟨0, _, [], _, rfl, rfl, Nat.zero_le _, HB, HS1, HCM, ⟨Kd.R_nil _ _ _ _ _⟩, ⟨by rw [HNE.out]; exact ComeOK.start n⟩, ⟨⟨List.nodup_nil, fun _ q => (by cases q), fun _ _ _ _ q => (by cases q)⟩⟩, ⟨fun _ q => (by simp at q)⟩, ⟨fun _ q => (by simp at q)⟩⟩
  case round =>
    clear HB HCM
    obtain ⟨i, v, nx, cm, rfl, rfl, hi, HB, HGS, HCM, HNX, HCO, HNO, HRT, HRG⟩ := hrel
    obtain ⟨Av, cv, ev⟩ := Kd.R_slice HNX.out
    subst ev
    by_cases c1 : i < roots.length
    · obtain ⟨x, hx⟩ : ∃ x, x = rd roots (i : Int) := ⟨_, rfl⟩
      obtain ⟨ad, e1, hxa⟩ := Kd.at_int (Kd.C_below HRC.out HB.out) (i : Int) (by omega) (by omega)
      cases e1
      rw [← hx, Int.toNat_natCast] at hxa
      have hxm : x ∈ roots := by rw [hx]; unfold rd; rw [Int.toNat_natCast, List.getD_eq_getElem?_getD, List.getElem?_eq_getElem c1]; exact List.getElem_mem c1
      have HXD := Aside0.mk hx
      have HXM := Aside0.mk hxm
      have HXK := Aside0.mk (HRK.out x hxm)
      have HTK := Aside0.mk (show ∀ y, y ∈ roots.take (i + 1) ↔ y ∈ roots.take i ∨ y = x by
        intro y
        rw [List.take_succ_eq_append_getElem c1, List.mem_append, List.mem_singleton, hx]
        unfold rd
        rw [Int.toNat_natCast, List.getD_eq_getElem?_getD, List.getElem?_eq_getElem c1]
        rfl)
      have c1b : decide ((i : Int) < (roots.length : Int)) = true := decide_eq_true (by omega)
      have c1c : decide (i < roots.length) = true := decide_eq_true c1
      have p5 : (0 ≤ (i : Int)) = True := eq_true (by omega)
      have p6 : ((i : Int) < (roots.length : Int)) = True := eq_true (by omega)
      have HI := Aside0.mk c1
      have HIL := Aside0.mk (show (i : Int) < (roots.length : Int) by omega)
      have HW := Aside0.mk (wrap_h c1 (by have := HRL.out; omega))
      clear hx c1 hxm
      by_cases cz : x = 0
      · have cz1 : (x == 0) = true := by rw [beq_iff_eq]; exact cz
        have HZ := Aside0.mk cz
        clear cz
        go_wp2_with fail
        go_roundw
        case rel => exact ⟨i + 1, _, nx, cm, (by rw [HW.out]), rfl, HI.out, HB, HGS, HCM, HNX, HCO, HNO, ⟨fun y hy hl => by
          rcases (HTK.out y).1 hy with q | q
          · exact HRT.out y q hl
          · rw [q, HZ.out, HM0.out] at hl; cases hl⟩, ⟨fun y hy h0 => by
          rcases (HTK.out y).1 hy with q | q
          · exact HRG.out y q h0
          · exact absurd (q.trans HZ.out) h0⟩⟩
        case measure => exact meas_h HI.out HW.out
      · have cz1 : (x == 0) = false := by rw [beq_eq_false_iff_ne]; exact cz
        have HZ := Aside0.mk cz
        clear cz
        have hcall := rf_There w0 F d rb x HXK.out (by have := HNL.out; omega) _ (H.out.step HB.out)
        rw [← HLK.out.m] at hcall
        cases hq : (s.m x).isSome with
        | false =>
          rw [hq] at hcall
          have HC := Aside0.mk hcall
          have HBR := Aside0.mk (show BadRoots s roots from ⟨x, HXM.out, HZ.out, by cases hmm : s.m x with | none => rfl | some o => rw [hmm] at hq; cases hq⟩)
          clear hcall hq
          go_wp2_with fail
          refine HC.out.mono ?_
          rintro e w5 ⟨rfl, hb⟩
          replace HB := Aside0.mk (below_step HB.out hb)
          clear hb HC
          go_wp2_with fail
          go_ret2
          exact ⟨HB.out, .inl ⟨HBR.out, rfl⟩⟩
        | true =>
          rw [hq] at hcall
          have HC := Aside0.mk hcall
          have HQ := Aside0.mk hq
          obtain ⟨k, hkx, hk1, hk2⟩ := HIR.out x hq
          have HXR := Aside0.mk (show rd roots (i : Int) = (k : Int) by rw [← hkx]; exact HXD.out.symm)
          subst hkx
          have HK2 := Aside0.mk (show k < N by have := HNE.out; omega)
          have p7 : (0 ≤ (k : Int)) = True := eq_true (by omega)
          have p8 : ((k : Int) < (N : Int)) = True := eq_true (by have := HK2.out; omega)
          have HKN := Aside0.mk hk2
          clear hcall hq hk1 hk2
          go_wp2_with fail
          refine HC.out.mono ?_
          rintro e w5 ⟨rfl, hb⟩
          replace HB := Aside0.mk (below_step HB.out hb)
          replace HCM := Aside0.mk (Kd.R_below HCM.out hb)
          replace HNX := Aside0.mk (Kd.R_below HNX.out hb)
          replace HGS := Aside0.mk (Nat.lt_of_lt_of_le HGS.out hb.size)
          clear hb HC hxa
          obtain ⟨ad9, e9, hxb⟩ := Kd.at_int (Kd.C_below HRC.out HB.out) (i : Int) (by omega) HIL.out
          cases e9
          rw [HXR.out, Int.toNat_natCast] at hxb
          have hcb := bools_at HCM.out HK2.out
          cases hcv : cm.getD k false with
          | true =>
            rw [hcv] at hcb
            have HIN := Aside0.mk (show (k : Int) ∈ nx from (HCO.out.is k HKN.out).1 hcv)
            clear hcv
            go_wp2_with fail
            go_roundw
            case rel => exact ⟨i + 1, _, nx, cm, (by rw [HW.out]), rfl, HI.out, HB, HGS, HCM, HNX, HCO, HNO, ⟨fun y hy hl => by
              rcases (HTK.out y).1 hy with q | q
              · exact HRT.out y q hl
              · rw [q]; exact HIN.out⟩, ⟨fun y hy h0 => by
              rcases (HTK.out y).1 hy with q | q
              · exact HRG.out y q h0
              · rw [q]; exact HQ.out⟩⟩
            case measure => exact meas_h HI.out HW.out
          | false =>
            rw [hcv] at hcb
            have HNI := Aside0.mk (show (k : Int) ∉ nx from fun q => by rw [(HCO.out.is k HKN.out).2 q] at hcv; cases hcv)
            have HNL2 := Aside0.mk (show nx.length ≤ 17592186060800 by have := HFEW.out nx HNO.out.nd HNO.out.live; omega)
            clear hcv
            go_wp2_with (first
              | ((with_reducible refine gate_store (t := 4) (p := 52) rfl ?_); refine bool_put rfl rfl rfl (w0 := W) k HCM.out HK2.out HB.out rfl rfl ?_; intro w6 h1 h2 h3; replace HCM := Aside0.mk h1; replace HB := Aside0.mk h2; replace HNX := Aside0.mk (Kd.R_grown HNX.out h3 (fun k hk e => hk (Option.some.inj e))); replace HGS := Aside0.mk (Nat.lt_of_lt_of_le HGS.out h3.size); clear h1 h2 h3 hxb hcb; obtain ⟨ad9, e9, hxb⟩ := Kd.at_int (Kd.C_below HRC.out HB.out) (i : Int) (by omega) HIL.out; cases e9; rw [HXR.out, Int.toNat_natCast] at hxb)
              | ((with_reducible refine gate_dst (N := 59) rfl ?_); refine ap_int2 rfl rfl (w0 := W) W.heap.size (k : Int) HNX.out rfl rfl HB.out HB.out.size HNL2.out (fun k9 hk9 => by have := HGS.out; omega) ?_; intro v9 w7 hV hb9 hg9; replace HCM := Aside0.mk (Kd.R_grown HCM.out hg9 (fun k hk e => HNX.out.1 k e.symm hk)); replace HGS := Aside0.mk (Nat.lt_of_lt_of_le HGS.out hg9.size); replace HB := Aside0.mk hb9; replace HNX := Aside0.mk hV; clear hV hb9 hg9 hxb; obtain ⟨A9, c9, e9⟩ := Kd.R_slice HNX.out; subst e9))
            go_roundw
            case rel => exact ⟨i + 1, _, nx ++ [(k : Int)], cm.set k true, (by rw [HW.out]), rfl, HI.out, HB, HGS, HCM, ⟨by have h9 := HNX.out; first | exact h9 | (simp only [List.length_append, List.length_singleton] at h9; exact h9)⟩, ⟨HCO.out.add HKN.out⟩, ⟨HNO.out.add HNI.out HQ.out (fun P p1 p2 => p1 _ HXM.out HQ.out)⟩, ⟨fun y hy hl => by
              rcases (HTK.out y).1 hy with q | q
              · exact List.mem_append_left _ (HRT.out y q hl)
              · rw [q]; exact List.mem_append_right _ (List.mem_singleton.2 rfl)⟩, ⟨fun y hy h0 => by
              rcases (HTK.out y).1 hy with q | q
              · exact HRG.out y q h0
              · rw [q]; exact HQ.out⟩⟩
            case measure => exact meas_h HI.out HW.out
    · have c1b : decide ((i : Int) < (roots.length : Int)) = false := decide_eq_false (by omega)
      have c1c : decide (i < roots.length) = false := decide_eq_false c1
      rw [List.take_of_length_le (by omega)] at HRT HRG
      have HGD := Aside0.mk (show ¬ BadRoots s roots from fun ⟨x, hx, h0, h1⟩ => by have := HRG.out x hx h0; rw [h1] at this; cases this)
      clear c1 hi
      clear HRG
      go_wp2_with fail
      go_loopw [7, 9] (fun v7 v9 wr => ∃ (k : Nat) (v : Value) (nx : List Int) (cm : List Bool), v9 = .int .i64 (k : Int) ∧ v7 = v ∧ k ≤ nx.length ∧ Aside0 (Below W.heap.size W wr) ∧ Aside0 (gc < wr.heap.size) ∧ Aside0 (Kd.R Kd.bool 4 wr W.heap.size (fun k => k = gc) (.slice (some ⟨gc, 0, none⟩) N cc) cm) ∧ Aside0 (Kd.R (Kd.int .i64) 3 wr W.heap.size (fun k => k ≠ gc) v nx) ∧ Aside0 (ComeOK n cm nx) ∧ Aside0 (NextOK s roots nx) ∧ Aside0 (∀ y ∈ roots, (s.m y).isSome = true → y ∈ nx) ∧ Aside0 (∀ x ∈ nx.take k, ∀ v, SuccM s x v → v ∈ nx)) (fun _ v9 _ => ((4096 : Int) - intOf v9).toNat)
      case atStart => exact ⟨0, _, nx, cm, rfl, rfl, Nat.zero_le _, HB, HGS, HCM, HNX, HCO, HNO, HRT, ⟨fun _ q => (by simp at q)⟩⟩
      case round =>
        clear HB HGS HCM HNX HCO HNO HRT
        obtain ⟨k, v, nx, cm, rfl, rfl, hk, HB, HGS, HCM, HNX, HCO, HNO, HRT, HCL⟩ := hrel
        obtain ⟨Av, cv, ev⟩ := Kd.R_slice HNX.out
        subst ev
        have HN4 := Aside0.mk (HFEW.out nx HNO.out.nd HNO.out.live)
        by_cases c1 : k < nx.length
        · obtain ⟨x, hx⟩ : ∃ x, x = rd nx (k : Int) := ⟨_, rfl⟩
          obtain ⟨ad, e1, hxa⟩ := Kd.at_int (Kd.R_reads' HNX.out).2.2 (k : Int) (by omega) (by omega)
          cases e1
          rw [← hx, Int.toNat_natCast] at hxa
          have hxm : x ∈ nx := by rw [hx]; unfold rd; rw [Int.toNat_natCast, List.getD_eq_getElem?_getD, List.getElem?_eq_getElem c1]; exact List.getElem_mem c1
          have HXM := Aside0.mk hxm
          have HXK := Aside0.mk (show I64 x by obtain ⟨q, q1, q2, q3⟩ := HIR.out x (HNO.out.live x hxm); have := HNL.out; have := HNN.out; rw [q1]; unfold I64; omega)
          have HTK := Aside0.mk (show nx.take (k + 1) = nx.take k ++ [x] by
            rw [List.take_succ_eq_append_getElem c1, hx]
            unfold rd
            rw [Int.toNat_natCast, List.getD_eq_getElem?_getD, List.getElem?_eq_getElem c1]
            rfl)
          have c1b : decide ((k : Int) < (nx.length : Int)) = true := decide_eq_true (by omega)
          have c1c : decide (k < nx.length) = true := decide_eq_true c1
          have p5 : (0 ≤ (k : Int)) = True := eq_true (by omega)
          have p6 : ((k : Int) < (nx.length : Int)) = True := eq_true (by omega)
          have HKI := Aside0.mk c1
          have HW := Aside0.mk (wrap_h c1 (by have := HN4.out; omega))
          clear hx c1 hxm
          go_wp2_with fail
          refine (rf_Leads w0 F d rb s HLK.out HNL.out HOB.out HG.out HSN.out x HXK.out wr (H.out.step HB.out)).mono ?_
          rintro e w9 ⟨vz, zs, rfl, hZ, hb, hzs, hzl⟩
          have HMID := Aside0.mk (show MidKept wr.heap.size w9.heap.size w9 w9 from ⟨Nat.le_refl _, fun _ _ _ => rfl⟩)
          have HS9 := Aside0.mk hb.size
          have HNX9 := Aside0.mk (Kd.R_mono (ok' := fun k => k ≠ gc ∧ (k < wr.heap.size ∨ w9.heap.size ≤ k)) (Kd.R_bound HNX.out) (fun k hk => ⟨hk.1, Or.inl hk.2.2.1⟩))
          replace HNX9 := Aside0.mk (Kd.R_below HNX9.out hb)
          replace HB := Aside0.mk (below_step HB.out hb)
          have HGW := Aside0.mk HGS.out
          replace HGS := Aside0.mk (Nat.lt_of_lt_of_le HGS.out hb.size)
          replace HCM := Aside0.mk (Kd.R_below HCM.out hb)
          obtain ⟨Az, cz, ez⟩ := Kd.R_slice hZ
          subst ez
          have HZR := Aside0.mk hZ
          have HZS := Aside0.mk hzs
          have HZL := Aside0.mk hzl
          obtain ⟨wl, hwl⟩ : ∃ wl, wl = wr := ⟨_, rfl⟩
          subst hwl
          clear hZ hb hzs hzl hxa
          go_wp2_with fail
          go_loopw [7, 11] (fun v7 v11 wr => ∃ (i : Nat) (v : Value) (nx2 : List Int) (cm2 : List Bool), v11 = .int .i64 (i : Int) ∧ v7 = v ∧ i ≤ zs.length ∧ Aside0 (Below W.heap.size W wr) ∧ Aside0 (gc < wr.heap.size) ∧ Aside0 (Kd.R Kd.bool 4 wr W.heap.size (fun k => k = gc) (.slice (some ⟨gc, 0, none⟩) N cc) cm2) ∧ Aside0 (Kd.R (Kd.int .i64) 3 wr W.heap.size (fun k => k ≠ gc ∧ (k < wl.heap.size ∨ w9.heap.size ≤ k)) v nx2) ∧ Aside0 (ComeOK n cm2 nx2) ∧ Aside0 (NextOK s roots nx2) ∧ Aside0 (∃ tl, nx2 = nx ++ tl) ∧ Aside0 (∀ y ∈ zs.take i, y ∈ nx2) ∧ Aside0 (MidKept wl.heap.size w9.heap.size w9 wr)) (fun _ v11 _ => ((zs.length : Int) - intOf v11).toNat)
          case atStart => exact ⟨0, _, nx, cm, rfl, rfl, Nat.zero_le _, HB, HGS, HCM, HNX9, HCO, HNO, ⟨⟨[], by simp⟩⟩, ⟨fun _ q => (by simp at q)⟩, HMID⟩
          case round =>
            clear HB HGS HCM HNX9 HMID
            obtain ⟨i, v, nx2, cm2, rfl, rfl, hi, HB, HGS, HCM, HNX2, HCO2, HNO2, HPRE, HIN, HMID⟩ := hrel
            obtain ⟨Av2, cv2, ev2⟩ := Kd.R_slice HNX2.out
            subst ev2
            by_cases c2 : i < zs.length
            · have HI := Aside0.mk c2
              have HIL := Aside0.mk (show (i : Int) < (zs.length : Int) by omega)
              have hyl : (s.m (rd zs (i : Int))).isSome = true ∧ SuccM s x (rd zs (i : Int)) := by
                have hym : rd zs (i : Int) ∈ zs := by unfold rd; rw [Int.toNat_natCast, List.getD_eq_getElem?_getD, List.getElem?_eq_getElem c2]; exact List.getElem_mem c2
                have h9 := (HZS.out _).1 hym
                exact ⟨h9.choose_spec.choose_spec.2.2.2.2.2, h9⟩
              obtain ⟨y, hyx, hy1, hy2⟩ := HIR.out _ hyl.1
              have HXR := Aside0.mk hyx
              have HYS := Aside0.mk (show (s.m (y : Int)).isSome = true ∧ SuccM s x (y : Int) by rw [← hyx]; exact hyl)
              have HTK2 := Aside0.mk (show ∀ z, z ∈ zs.take (i + 1) ↔ z ∈ zs.take i ∨ z = (y : Int) by
                intro z
                rw [List.take_succ_eq_append_getElem c2, List.mem_append, List.mem_singleton, ← hyx]
                unfold rd
                rw [Int.toNat_natCast, List.getD_eq_getElem?_getD, List.getElem?_eq_getElem c2]
                rfl)
              obtain ⟨ad2, e2, hxb⟩ := Kd.at_int (MidKept.C HZR.out HMID.out) (i : Int) (by omega) HIL.out
              cases e2
              rw [HXR.out, Int.toNat_natCast] at hxb
              have HK2 := Aside0.mk (show y < N by have := HNE.out; omega)
              have HKN := Aside0.mk hy2
              have c1b : decide ((i : Int) < (zs.length : Int)) = true := decide_eq_true (by omega)
              have c1c : decide (i < zs.length) = true := decide_eq_true c2
              have p5 : (0 ≤ (i : Int)) = True := eq_true (by omega)
              have p6 : ((i : Int) < (zs.length : Int)) = True := eq_true (by omega)
              have p7 : (0 ≤ (y : Int)) = True := eq_true (by omega)
              have p8 : ((y : Int) < (N : Int)) = True := eq_true (by have := HK2.out; omega)
              have HW2 := Aside0.mk (wrap_h c2 (by have := HZL.out; omega))
              have hcb := bools_at HCM.out HK2.out
              clear c2 hyl hyx hy1 hy2
              cases hcv : cm2.getD y false with
              | true =>
                rw [hcv] at hcb
                have HYN := Aside0.mk (show (y : Int) ∈ nx2 from (HCO2.out.is y HKN.out).1 hcv)
                clear hcv
                go_wp2_with fail
                go_roundw
                case rel => exact ⟨i + 1, _, nx2, cm2, (by rw [HW2.out]), rfl, HI.out, HB, HGS, HCM, HNX2, HCO2, HNO2, HPRE, ⟨fun z hz => by
                  rcases (HTK2.out z).1 hz with q | q
                  · exact HIN.out z q
                  · rw [q]; exact HYN.out⟩, HMID⟩
                case measure => exact meas_h HI.out HW2.out
              | false =>
                rw [hcv] at hcb
                have HNI := Aside0.mk (show (y : Int) ∉ nx2 from fun q => by rw [(HCO2.out.is y HKN.out).2 q] at hcv; cases hcv)
                have HNL2 := Aside0.mk (show nx2.length ≤ 17592186060800 by have := HFEW.out nx2 HNO2.out.nd HNO2.out.live; omega)
                clear hcv
                go_wp2_with (first
                  | ((with_reducible refine gate_store (t := 4) (p := 91) rfl ?_); refine bool_put rfl rfl rfl (w0 := W) y HCM.out HK2.out HB.out rfl rfl ?_; intro w6 h1 h2 h3; replace HCM := Aside0.mk h1; replace HB := Aside0.mk h2; replace HMID := Aside0.mk (HMID.out.grown h3 (fun k hk => Or.inl (by rw [← Option.some.inj hk]; exact HGW.out))); replace HNX2 := Aside0.mk (Kd.R_grown HNX2.out h3 (fun k hk e => hk.1 (Option.some.inj e))); replace HGS := Aside0.mk (Nat.lt_of_lt_of_le HGS.out h3.size); clear h1 h2 h3 hxb hcb; obtain ⟨ad9, e9, hxb⟩ := Kd.at_int (MidKept.C HZR.out HMID.out) (i : Int) (by omega) HIL.out; cases e9; rw [HXR.out, Int.toNat_natCast] at hxb)
                  | ((with_reducible refine gate_dst (N := 98) rfl ?_); refine ap_int2 rfl rfl (w0 := W) W.heap.size (y : Int) HNX2.out rfl rfl HB.out HB.out.size HNL2.out (fun k9 hk9 => ⟨by have := HGS.out; omega, Or.inr (Nat.le_trans HMID.out.1 hk9)⟩) ?_; intro v9 w7 hV hb9 hg9; replace HCM := Aside0.mk (Kd.R_grown HCM.out hg9 (fun k hk e => (HNX2.out.1 k e.symm).1 hk)); replace HGS := Aside0.mk (Nat.lt_of_lt_of_le HGS.out hg9.size); replace HMID := Aside0.mk (HMID.out.grown hg9 (fun k hk => (HNX2.out.1 k hk).2)); replace HB := Aside0.mk hb9; replace HNX2 := Aside0.mk hV; clear hV hb9 hg9 hxb; obtain ⟨A9, c9, e9⟩ := Kd.R_slice HNX2.out; subst e9))
                go_roundw
                case rel => exact ⟨i + 1, _, nx2 ++ [(y : Int)], cm2.set y true, (by rw [HW2.out]), rfl, HI.out, HB, HGS, HCM, ⟨by have h9 := HNX2.out; first | exact h9 | (simp only [List.length_append, List.length_singleton] at h9; exact h9)⟩, ⟨HCO2.out.add HKN.out⟩, ⟨HNO2.out.add HNI.out HYS.out.1 (fun P p1 p2 => p2 x _ (HNO.out.least P p1 p2 x HXM.out) HYS.out.2)⟩, ⟨by obtain ⟨tl, q⟩ := HPRE.out; exact ⟨tl ++ [(y : Int)], by rw [q, List.append_assoc]⟩⟩, ⟨fun z hz => by
                  rcases (HTK2.out z).1 hz with q | q
                  · exact List.mem_append_left _ (HIN.out z q)
                  · rw [q]; exact List.mem_append_right _ (List.mem_singleton.2 rfl)⟩, HMID⟩
                case measure => exact meas_h HI.out HW2.out
            · have c1b : decide ((i : Int) < (zs.length : Int)) = false := decide_eq_false (by omega)
              have c1c : decide (i < zs.length) = false := decide_eq_false c2
              rw [List.take_of_length_le (by omega)] at HIN
              clear c2 hi
              go_wp2_with fail
              go_roundw
              case rel => exact ⟨k + 1, _, nx2, cm2, (by rw [HW.out]), rfl, (by obtain ⟨tl, q⟩ := HPRE.out; rw [q, List.length_append]; have := HKI.out; omega), HB, HGS, HCM, ⟨Kd.R_mono HNX2.out (fun _ q => q.1)⟩, HCO2, HNO2, ⟨fun y hy hl => by obtain ⟨tl, q⟩ := HPRE.out; rw [q]; exact List.mem_append_left _ (HRT.out y hy hl)⟩, ⟨fun z hz v hv => by
                obtain ⟨tl, q⟩ := HPRE.out
                rw [q, List.take_append_of_le_length (by have := HKI.out; omega), HTK.out] at hz
                rcases List.mem_append.1 hz with hz | hz
                · rw [q]; exact List.mem_append_left _ (HCL.out z hz v hv)
                · rw [List.mem_singleton.1 hz] at hv
                  exact HIN.out v ((HZS.out v).2 hv)⟩⟩
              case measure => rw [HW.out]; have h1 := HKI.out; have h2 := HN4.out; show ((4096 : Int) - ((k + 1 : Nat) : Int)).toNat < ((4096 : Int) - (k : Int)).toNat; omega
        · have c1b : decide ((k : Int) < (nx.length : Int)) = false := decide_eq_false (by omega)
          have c1c : decide (k < nx.length) = false := decide_eq_false c1
          rw [List.take_of_length_le (by omega)] at HCL
          have HRE := Aside0.mk (show Reached s roots nx from ⟨HNO.out.nd, HNO.out.live, HRT.out, HCL.out, HNO.out.least⟩)
          clear c1 hk
          obtain ⟨we, rfl⟩ : ∃ we, we = wr := ⟨_, rfl⟩
          go_wp2_with fail
          go_loopw [12, 13] (fun v12 v13 wr => ∃ (i : Nat) (v : Value) (os : List Int), v13 = .int .i64 ((i : Int) + 1) ∧ v12 = v ∧ i ≤ n ∧ Aside0 (Below we.heap.size we wr) ∧ Aside0 (Kd.R (Kd.int .i64) 3 wr we.heap.size (fun _ => True) v os) ∧ Aside0 (os = ((List.range i).map fun i : Nat => (i : Int) + 1).filter fun x => memH nx x)) (fun _ v13 _ => ((N : Int) - intOf v13).toNat)
          case atStart => exact ⟨0, _, [], rfl, rfl, Nat.zero_le _, ⟨Below.refl _ _⟩, ⟨Kd.R_nil _ _ _ _ _⟩, ⟨rfl⟩⟩
          case round =>
            obtain ⟨i, v, os, rfl, rfl, hi, HB2, HOS, HOE⟩ := hrel
            obtain ⟨Av2, cv2, ev2⟩ := Kd.R_slice HOS.out
            subst ev2
            by_cases c2 : i < n
            · have HI := Aside0.mk c2
              have HK2 := Aside0.mk (show i + 1 < N by have := HNE.out; omega)
              have c1b : decide ((i : Int) + 1 < (N : Int)) = true := decide_eq_true (by have := HK2.out; omega)
              have p5 : (0 ≤ (i : Int) + 1) = True := eq_true (by omega)
              have p6 : ((i : Int) + 1 < (N : Int)) = True := eq_true (by have := HK2.out; omega)
              have p7 : (0 ≤ ((i + 1 : Nat) : Int)) = True := eq_true (by omega)
              have HW2 := Aside0.mk (show wrap64 ((i : Int) + 1 + 1) = ((i + 1 : Nat) : Int) + 1 by have := HNL.out; have := HNN.out; unfold wrap64; omega)
              have hcb := bools_at (Kd.R_below HCM.out HB2.out) HK2.out
              have HOL := Aside0.mk (show os.length ≤ 17592186060800 by rw [HOE.out]; refine Nat.le_trans (List.length_filter_le _ _) ?_; simp; have := HNL.out; have := HNN.out; omega)
              have hos : ((List.range (i + 1)).map fun i : Nat => (i : Int) + 1).filter (fun x => memH nx x) = os ++ (if memH nx ((i : Int) + 1) = true then [(i : Int) + 1] else []) := by
                rw [List.range_succ, List.map_append, List.filter_append, HOE.out]
                congr 1
                by_cases h : memH nx ((i : Int) + 1) = true
                · rw [if_pos h]; simp [h]
                · rw [if_neg h]; simp at h; simp [h]
              have hcn : cm.getD (i + 1) false = memH nx ((i : Int) + 1) := by
                have h9 := HCO.out.is (i + 1) (by omega)
                unfold memH
                cases hq : cm.getD (i + 1) false with
                | true => exact (decide_eq_true (h9.1 hq)).symm
                | false => exact (decide_eq_false (fun q => by rw [h9.2 q] at hq; cases hq)).symm
              have hnat : ((i : Int) + 1).toNat = i + 1 := by omega
              rw [hcn] at hcb
              clear c2 hcn
              cases hcv : memH nx ((i : Int) + 1) with
              | true =>
                rw [hcv] at hcb hos
                rw [if_pos rfl] at hos
                have HOS2 := Aside0.mk hos.symm
                clear hos hcv
                go_wp2_with ((with_reducible refine gate_dst (N := 112) rfl ?_); refine ap_int rfl rfl (w0 := we) we.heap.size ((i : Int) + 1) HOS.out rfl rfl HB2.out HB2.out.size HOL.out ?_; intro v9 w12 hV hb9; replace HOS := Aside0.mk hV; replace HB2 := Aside0.mk hb9; clear hV hb9; obtain ⟨A9, c9, e9⟩ := Kd.R_slice HOS.out; subst e9)
                go_roundw
                case rel => exact ⟨i + 1, _, os ++ [(i : Int) + 1], (by rw [HW2.out]), rfl, HI.out, HB2, ⟨by have h9 := HOS.out; first | exact h9 | (simp only [List.length_append, List.length_singleton] at h9; exact h9)⟩, HOS2⟩
                case measure => rw [HW2.out]; have h1 := HK2.out; show ((N : Int) - (((i + 1 : Nat) : Int) + 1)).toNat < ((N : Int) - ((i : Int) + 1)).toNat; omega
              | false =>
                rw [hcv] at hcb hos
                rw [if_neg (by decide), List.append_nil] at hos
                have HOS2 := Aside0.mk hos.symm
                clear hos hcv
                go_wp2_with fail
                go_roundw
                case rel => exact ⟨i + 1, _, os, (by rw [HW2.out]), rfl, HI.out, HB2, HOS, HOS2⟩
                case measure => rw [HW2.out]; have h1 := HK2.out; show ((N : Int) - (((i + 1 : Nat) : Int) + 1)).toNat < ((N : Int) - ((i : Int) + 1)).toNat; omega
            · have c1b : decide ((i : Int) + 1 < (N : Int)) = false := decide_eq_false (by have := HNE.out; omega)
              have HOE2 := Aside0.mk (show os = reachL s nx by
                have hin : i = n := by omega
                rw [HOE.out, hin]
                have hr : (((List.range n).map fun i : Nat => (i : Int) + 1).filter fun x => memH nx x).Pairwise (· < ·) := by
                  rw [List.range_eq_range']
                  exact (range_rising n 0).filter _
                refine rising_same hr (reachL_rising s nx) (fun x => ?_)
                rw [reachL_mem HLK.out.sum HRE.out.live, List.mem_filter]
                unfold memH
                rw [decide_eq_true_eq]
                refine ⟨fun q => q.2, fun q => ⟨?_, q⟩⟩
                obtain ⟨k9, q1, q2, q3⟩ := HIR.out x (HRE.out.live x q)
                exact List.mem_map.2 ⟨k9 - 1, List.mem_range.2 (by omega), by omega⟩)
              have HWS := Aside0.mk HB.out.size
              clear c2 hi
              go_wp2_with fail
              go_ret2
              exact ⟨below_then HB.out HWS.out HB2.out, .inr ⟨nx, _, HGD.out, HRE.out, rfl, by rw [← HOE2.out]; exact Kd.R_lower HOS.out HWS.out⟩⟩
end Go.Proofs.YtkjagcamikkjkaaGreat.P

end

section
namespace Go.Proofs.YtkjagcamikkjkaaGreat.P
open Go.RowKit Go.Proofs.YtkjagcamikkjkaaGreatW.PrintWords Go.Proofs.YtkjagcamikkjkaaGreatW.PrintLast Go.Proofs.YtkjagcamikkjkaaGreatW.PrintMore
attribute [local go_sem] max2_int min2_int max_two min_two max_three min_three max_four min_four
set_option linter.unusedVariables false
set_option linter.unusedSimpArgs false
def cutO (met : List Int) (obs : List (Bool × Int × List Int)) (i : Nat) : List (Bool × Int × List Int) := (List.range obs.length).map fun k => if k < i ∧ memH met ((k : Int) + 1) = false then oz else obs.getD k oz
theorem cutO_len (met : List Int) (obs : List (Bool × Int × List Int)) (i : Nat) : (cutO met obs i).length = obs.length := by simp [cutO]
theorem cutO_at {met : List Int} {obs : List (Bool × Int × List Int)} {i k : Nat} (hk : k < obs.length) : (cutO met obs i).getD k oz = if k < i ∧ memH met ((k : Int) + 1) = false then oz else obs.getD k oz := by
  rw [List.getD_eq_getElem?_getD, List.getElem?_eq_getElem (by rw [cutO_len]; exact hk)]
  simp [cutO]
theorem objs_ext {a b : List (Bool × Int × List Int)} (hl : a.length = b.length) (h : ∀ k, k < a.length → a.getD k oz = b.getD k oz) : a = b :=
  List.ext_getElem hl (fun k h1 h2 => by
    have := h k h1
    rw [List.getD_eq_getElem?_getD, List.getD_eq_getElem?_getD, List.getElem?_eq_getElem h1, List.getElem?_eq_getElem h2] at this
    exact this)
theorem cutO_zero (met : List Int) (obs : List (Bool × Int × List Int)) : cutO met obs 0 = obs := objs_ext (cutO_len _ _ _) (fun k hk => by
  rw [cutO_len] at hk
  rw [cutO_at hk, if_neg (fun q => absurd q.1 (Nat.not_lt_zero _))])
theorem cutO_stay {met : List Int} {obs : List (Bool × Int × List Int)} {i : Nat} (h : memH met ((i : Int) + 1) = true) : cutO met obs (i + 1) = cutO met obs i := objs_ext (by rw [cutO_len, cutO_len]) (fun k hk => by
  rw [cutO_len] at hk
  rw [cutO_at hk, cutO_at hk]
  by_cases e : k = i
  · rw [e, h, if_neg (fun q => by cases q.2), if_neg (fun q => by cases q.2)]
  · by_cases e2 : memH met ((k : Int) + 1) = false
    · by_cases e3 : k < i
      · rw [if_pos ⟨by omega, e2⟩, if_pos ⟨e3, e2⟩]
      · rw [if_neg (fun q => by omega), if_neg (fun q => e3 q.1)]
    · rw [if_neg (fun q => e2 q.2), if_neg (fun q => e2 q.2)])
theorem cutO_go {met : List Int} {obs : List (Bool × Int × List Int)} {i : Nat} (hi : i < obs.length) (h : memH met ((i : Int) + 1) = false) : cutO met obs (i + 1) = (cutO met obs i).set i oz := objs_ext (by rw [List.length_set, cutO_len, cutO_len]) (fun k hk => by
  rw [cutO_len] at hk
  rw [getD_set _ _ _ _ _ (by rw [cutO_len]; exact hi), cutO_at hk, cutO_at hk]
  by_cases e : k = i
  · rw [if_pos e, e, if_pos ⟨by omega, h⟩]
  · rw [if_neg e]
    by_cases e2 : memH met ((k : Int) + 1) = false
    · by_cases e3 : k < i
      · rw [if_pos ⟨by omega, e2⟩, if_pos ⟨e3, e2⟩]
      · rw [if_neg (fun q => by omega), if_neg (fun q => e3 q.1)]
    · rw [if_neg (fun q => e2 q.2), if_neg (fun q => e2 q.2)])
def objZ : List Value := [.bool false, .int .i64 0, .slice none 0 0]
theorem rows_set {obs : List (Bool × Int × List Int)} {i : Nat} (hi : i < obs.length) (rb : Nat → Nat) : rowsD (obs.set i oz) rb = (rowsD obs rb).set i objZ := by
  refine List.ext_getElem (by rw [List.length_set, rowsD_len, rowsD_len, List.length_set]) (fun k h1 h2 => ?_)
  rw [List.getElem_set]
  have hk : k < obs.length := by rw [rowsD_len, List.length_set] at h1; exact h1
  have e1 : (rowsD (obs.set i oz) rb)[k] = objC rb k ((obs.set i oz).getD k oz) := by simp [rowsD]
  have e2 : (rowsD obs rb)[k]'(by rw [rowsD_len]; exact hk) = objC rb k (obs.getD k oz) := by simp [rowsD]
  rw [e1, e2, getD_set _ _ _ _ _ hi]
  by_cases e : i = k
  · rw [if_pos e, if_pos e.symm]; rfl
  · rw [if_neg e, if_neg (fun q => e q.symm)]
theorem DIn.cut {w0 : World} {F : Nat → Prop} {d : DS} {rb : Nat → Nat} {W W1 : World} (h : DIn w0 F d rb W) {i : Nat} (hi : i < d.obs.length) {g : Nat} (ho : d.ov.ownBlock = some g) (hR : Kd.R (Kd.raw 3) 83 W1 w0.heap.size F d.ov ((rowsD d.obs rb).set i objZ)) (hb : Below w0.heap.size w0 W1) (hg : W.grownBy W1 (some g)) : DIn w0 F { d with obs := d.obs.set i oz } rb W1 := by
  have hty : ∀ (b : Nat) (cs : Array Value) (t : Nat), W.heap[b]? = some (.cells cs t (0, 0)) → t ≠ 83 → W1.heap[b]? = some (.cells cs t (0, 0)) := fun b cs t hb9 h1 => blk_grown hb9 hg (fun e => by
    obtain ⟨cells, h4⟩ := Kd.R_typed h.ro g ho
    rw [← Option.some.inj e, hb9] at h4
    injection h4 with h4
    injection h4 with _ h4
    exact h1 h4)
  have hold : ∀ k, k < d.obs.length → ((d.obs.set i oz).getD k oz).1 = true → k ≠ i ∧ (d.obs.set i oz).getD k oz = d.obs.getD k oz := fun k hk ht => by
    rw [getD_set _ _ _ _ _ hi] at ht ⊢
    by_cases e : k = i
    · rw [if_pos e] at ht; cases ht
    · rw [if_neg e]; exact ⟨e, rfl⟩
  refine ⟨hty _ _ _ h.hd (by decide), ?_, fun k hk ht => ?_, fun a b ha hb9 h1 h2 hab => ?_, fun k hk => ?_, h.fd, h.cl, hb⟩
  · show Kd.R (Kd.raw 3) 83 W1 w0.heap.size F d.ov (rowsD (d.obs.set i oz) rb)
    rw [rows_set hi]
    exact hR
  · change k < (d.obs.set i oz).length at hk
    rw [List.length_set] at hk
    change ((d.obs.set i oz).getD k oz).1 = true at ht
    obtain ⟨e1, e2⟩ := hold k hk ht
    show W1.heap[rb k]? = some (.cells (((d.obs.set i oz).getD k oz).2.2.map (Value.int .i64)).toArray 3 (0, 0)) ∧ F (rb k) ∧ w0.heap.size ≤ rb k
    rw [e2] at ht ⊢
    have h9 := h.pl k hk ht
    exact ⟨hty _ _ _ h9.1 (by decide), h9.2⟩
  · change a < (d.obs.set i oz).length at ha
    change b < (d.obs.set i oz).length at hb9
    rw [List.length_set] at ha hb9
    change ((d.obs.set i oz).getD a oz).1 = true at h1
    change ((d.obs.set i oz).getD b oz).1 = true at h2
    rw [(hold a ha h1).2] at h1
    rw [(hold b hb9 h2).2] at h2
    exact h.inj a b ha hb9 h1 h2 hab
  · change k < (d.obs.set i oz).length at hk
    rw [List.length_set] at hk
    show DOK ((d.obs.set i oz).getD k oz)
    rw [getD_set _ _ _ _ _ hi]
    by_cases e : k = i
    · rw [if_pos e]
      exact ⟨fun _ => rfl, by decide, fun y hy => (by cases hy), by decide⟩
    · rw [if_neg e]; exact h.ok k hk
theorem Like.cut {s : HS} {d : DS} (h : Like s d) (met : List Int) : Like (colS s met) { d with obs := cutO met d.obs d.obs.length } := by
  refine ⟨?_, ?_, h.sum.collect met, ?_, ?_, ?_⟩
  · show (colS s met).m = mOf (cutO met d.obs d.obs.length)
    funext x
    rw [colS_m h.sum.1, h.m]
    by_cases hx : 1 ≤ x ∧ x ≤ (d.obs.length : Int)
    · obtain ⟨k, hk, rfl⟩ := ref_split hx
      rw [mOf_in hk, mOf_in (by rw [cutO_len]; exact hk), cutO_at hk]
      by_cases hm : (k : Int) + 1 ∈ met
      · have e : (if k < d.obs.length ∧ memH met ((k : Int) + 1) = false then oz else d.obs.getD k oz) = d.obs.getD k oz := if_neg (fun q => by have := q.2; unfold memH at this; rw [decide_eq_false_iff_not] at this; exact this hm)
        rw [if_pos hm, e]
      · have e : (if k < d.obs.length ∧ memH met ((k : Int) + 1) = false then oz else d.obs.getD k oz) = oz := if_pos ⟨hk, decide_eq_false hm⟩
        rw [if_neg hm, e]
        rfl
    · rw [mOf_out hx, mOf_out (by rw [cutO_len]; exact hx)]
      split <;> rfl
  · rw [colS_eq]
    show s.last = (cutO met d.obs d.obs.length).length
    rw [cutO_len, h.last]
  · show s.used - (goC met s 0 (liveL s)).1 ≤ 4096
    rw [goC_n met _ s 0 (rising_nodup (liveL_rising s))]
    have h1 := costL_nonneg s.m ((liveL s).filter fun x => !memH met x)
    have h2 := h.used
    omega
  · rw [colS_eq]; exact h.l
  · rw [colS_eq]; exact h.room
theorem colS_lt {s : HS} (h : SumOK s) (met : List Int) : 0 ≤ (colS s met).used ∧ (colS s met).used ≤ s.used := by
  have e : (colS s met).used = s.used - (goC met s 0 (liveL s)).1 := rfl
  have h0 := h.collect_le met
  rw [goC_n met _ s 0 (rising_nodup (liveL_rising s))] at e h0
  have h1 := costL_nonneg s.m ((liveL s).filter fun x => !memH met x)
  rw [e]
  exact ⟨by omega, by omega⟩
section
variable {ops : Array Oper} {rest : List Oper} {o : Oper} {a : Act} {Q : Exit → Act → World → Prop}
theorem obj_put (hgd : o.guard = none) {p x : Operand} (ho : o.op = .store 83 p x) (hN : o.dst = none) {w0 W : World} {F : Nat → Prop} {d : DS} {rb : Nat → Nat} (H : DIn w0 F d rb W) {i : Nat} (hi : i < d.obs.length) {ad : Addr} {n c : Nat} (hov : d.ov = .slice (some ad) n c) (haddr : a.eval p = .pointer (some (ad.add (i * 3)))) (hx : a.eval x = .agg #[.bool false, .int .i64 0, .slice none 0 0])
    (h : ∀ w1 g, DIn w0 F { d with obs := d.obs.set i oz } rb w1 → W.grownBy w1 (some g) → F g → (∃ cs, W.heap[g]? = some (.cells cs 83 (0, 0))) → wpList Tryz.prog ops Q rest a w1) : wpList Tryz.prog ops Q (o :: rest) a W := by
  have HR := H.ro
  rw [hov] at HR
  obtain ⟨g, rfl⟩ := Kd.R_head HR
  have hn : n = (rowsD d.obs rb).length := (Kd.R_reads' HR).1
  rw [rowsD_len] at hn
  obtain ⟨q, hcl, hM, hcc⟩ := Kd.R_getA HR [] (i : Int) (by omega) (by omega)
  rw [add0] at haddr
  refine Kd.R_store (Kd.raw 3) w0.heap.size hN hgd 83 p x ho 83 (i : Int) 0 (rowsD d.obs rb) objZ (.agg #[.bool false, .int .i64 0, .slice none 0 0]) objZ q F (fun _ => False) haddr (by show i * 3 = (i : Int).toNat * 3 + 0; omega) hx rfl (by kernel_rfl) (by decide) HR (by omega) (by omega) hcl (fun j u hj => by have := hcc j u hj; rw [add0] at this; exact this) (by show 0 + 3 ≤ 3; omega) ?_ (fun _ hk => hk.elim) H.below ?_
  · have e : q.take 0 ++ objZ ++ q.drop (0 + objZ.length) = objZ := by
      rw [List.take_zero, List.nil_append, List.drop_of_length_le (by rw [hcl]; decide), List.append_nil]
    rw [e]
    exact ⟨rfl, rfl, by decide⟩
  · intro w1 h1 h2 h3
    rw [Int.toNat_natCast, ← hov] at h1
    exact h w1 g (H.cut hi (by rw [hov]; rfl) h1 h2 h3) h3 (HR.1 g rfl) (Kd.R_typed HR g rfl)
end
set_option maxHeartbeats 3200000 in
set_option maxRecDepth 100000 in
theorem rf_Collect (w0 : World) (F : Nat → Prop) (d : DS) (rb : Nat → Nat) (s : HS) (hs : Like s d) (hn9 : d.obs.length < 4398046511104) (hob : ∀ x o, s.m x = some o → ObjOK s.l s.last x o) (hg : Good d.l) (hsn : Sane d.l) (A : Option Addr) (c : Nat) (roots : List Int) (W : World) (hC : Kd.C (Kd.int .i64) W A roots.length roots) (hrk : ∀ y ∈ roots, I64 y) (hrl : roots.length < 17592186044416) (h : DIn w0 F d rb W) : Calls Tryz.prog 28 #[.pointer (some ⟨d.db, 0, none⟩), .slice A roots.length c] W fun e w' => (BadRoots s roots ∧ e = .returned (.tuple #[.int .i64 0, .int .i64 141]) ∧ RfPost w0 F d W s w') ∨ ∃ (met : List Int), ¬ BadRoots s roots ∧ Reached s roots met ∧ e = .returned (.tuple #[.int .i64 (goC met s 0 (liveL s)).1, .int .i64 0]) ∧ RfPost w0 F d W (colS s met) w' := by
  have H := Aside0.mk h
  have HLK := Aside0.mk hs
  have HNL := Aside0.mk hn9
  have hcall := rf_Reach w0 F d rb s hs hn9 hob hg hsn A c roots W hC hrk hrl h
  have HSU := Aside0.mk hs.sum
  have HSM := Aside0.mk hs.used
  by_cases hbad : BadRoots s roots
  · have HBD := Aside0.mk hbad
    have HC := Aside0.mk hcall
    clear h hs hn9 hob hg hsn hC hrk hrl hcall hbad
    go_enter Tryz.func28, Tryz.ntmps28
    go_wp2_with fail
    refine HC.out.mono ?_
    rintro e w1 ⟨hb, ⟨_, rfl⟩ | ⟨met, v, hnb, _⟩⟩
    · have HB := Aside0.mk hb
      clear hb HC
      go_wp2_with fail
      go_ret2
      exact .inl ⟨HBD.out, rfl, RfPost.same HLK.out H.out HB.out⟩
    · exact absurd HBD.out hnb
  · have HBD := Aside0.mk hbad
    have HC := Aside0.mk hcall
    clear h hs hn9 hob hg hsn hC hrk hrl hcall hbad
    go_enter Tryz.func28, Tryz.ntmps28
    go_wp2_with fail
    refine HC.out.mono ?_
    rintro e w1 ⟨hb, ⟨hbd, _⟩ | ⟨met, v, _, hre, rfl, hR⟩⟩
    · exact absurd hbd HBD.out
    · have HB := Aside0.mk hb
      have HRE := Aside0.mk hre
      have HLS := Aside0.mk hR
      replace H := Aside0.mk (H.out.step hb)
      obtain ⟨Al, cl, el⟩ := Kd.R_slice hR
      subst el
      clear hb hre hR HC
      go_wp2_with fail
      refine (rf_Used w0 F d rb s HLK.out HNL.out w1 H.out).mono ?_
      rintro e w2 ⟨rfl, hdr⟩
      replace HB := Aside0.mk (below_step HB.out hdr.below)
      replace HLS := Aside0.mk (Kd.R_below HLS.out hdr.below)
      replace H := Aside0.mk (H.out.step hdr.below)
      have HS2 := Aside0.mk hdr.below.size
      clear hdr
      obtain ⟨Ao, co, eo⟩ := H.out.ovs
      have f2 := H.out.cells.2.2
      rw [eo] at f2
      have HEO := Aside0.mk eo
      clear eo
      obtain ⟨n, hn⟩ : ∃ n, n = d.obs.length := ⟨_, rfl⟩
      rw [← hn] at f2 HEO
      have HNN := Aside0.mk hn
      obtain ⟨N, hN⟩ : ∃ N, N = n + 1 := ⟨_, rfl⟩
      have hw1 : wrap64 ((n : Int) + 1) = (N : Int) := by have := HNL.out; unfold wrap64; omega
      have HNE := Aside0.mk hN
      clear hn hN
      go_wp2_with ((with_reducible refine gate_dst (N := 29) rfl ?_); refine Kd.R_make Kd.bool (w0 := w2) w2.heap.size 4 rfl rfl 101 _ _ rfl (wrap64 ((n : Int) + 1)) rfl rfl Tryz.underlying101 (.bool false) 1 (by kernel_rfl) rfl (by decide) (by decide) false (ok := fun _ => True) (okp := fun _ => False) rfl (fun _ h => h.elim) trivial (by rw [hw1]; omega) (by rw [hw1]; have := HNL.out; have := HNN.out; have := HNE.out; omega) (Below.refl _ _) (Nat.le_refl _) ?_; intro v8 w3 hR8 hb8 _ hown; rw [hw1, Int.toNat_natCast] at hR8; obtain ⟨gc, cc, e8, hgc, hbg8⟩ := R_addr hR8 ⟨_, hown.choose_spec.1⟩; rw [List.length_replicate] at e8; subst e8; have HCM := Aside0.mk (Kd.R_mono (ok' := fun k => k = gc) (Kd.R_tight rfl hR8) (fun k hk => by simp [Value.ownBlock] at hk; exact hk)); have HB3 := Aside0.mk hb8; have HGC := Aside0.mk hgc; have HBG := Aside0.mk hbg8; clear hR8 hb8 hown hgc hbg8)
      obtain ⟨ls, hls⟩ : ∃ ls, ls = reachL s met := ⟨_, rfl⟩
      rw [← hls] at HLS
      have HRL := Aside0.mk hls
      have HLIN := Aside0.mk (show ∀ x ∈ ls, ∃ k : Nat, x = (k : Int) ∧ 1 ≤ k ∧ k ≤ n by
        intro x hx
        rw [HRL.out, reachL_mem HSU.out HRE.out.live] at hx
        obtain ⟨o, ho⟩ := Option.isSome_iff_exists.1 (HRE.out.live x hx)
        have h1 := HSU.out.1 x o ho
        have h2 := HLK.out.last
        have h3 := HNN.out
        exact ⟨x.toNat, by omega, by omega, by omega⟩)
      have HLL := Aside0.mk (show ls.length ≤ 4096 by rw [HRL.out]; exact Nat.le_trans (List.length_filter_le _ _) (live_few HSU.out HSM.out))
      rw [← hls]
      clear f2 hls
      go_wp2_with fail
      go_loopw [10] (fun v10 wr => ∃ (i : Nat) (cm : List Bool), v10 = .int .i64 (i : Int) ∧ i ≤ ls.length ∧ Aside0 (Below w2.heap.size w2 wr) ∧ Aside0 (w3.heap.size ≤ wr.heap.size) ∧ Aside0 (Kd.R Kd.bool 4 wr w2.heap.size (fun k => k = gc) (.slice (some ⟨gc, 0, none⟩) N cc) cm) ∧ Aside0 (ComeOK n cm (ls.take i))) (fun v10 _ => ((ls.length : Int) - intOf v10).toNat)
      case atStart => exact ⟨0, _, rfl, Nat.zero_le _, HB3, ⟨Nat.le_refl _⟩, HCM, ⟨by rw [HNE.out]; exact ComeOK.start n⟩⟩
      case round =>
        clear HCM
        obtain ⟨i, cm, rfl, hi, HB4, HZ4, HCM, HCO⟩ := hrel
        by_cases c1 : i < ls.length
        · have c1b : decide ((i : Int) < (ls.length : Int)) = true := decide_eq_true (by omega)
          have c1c : decide (i < ls.length) = true := decide_eq_true c1
          have p5 : (0 ≤ (i : Int)) = True := eq_true (by omega)
          have p6 : ((i : Int) < (ls.length : Int)) = True := eq_true (by omega)
          obtain ⟨ad, e1, hxa⟩ := Kd.at_int (Kd.R_reads' (Kd.R_below HLS.out HB4.out)).2.2 (i : Int) (by omega) (by omega)
          cases e1
          have hxm : rd ls (i : Int) ∈ ls := by unfold rd; rw [Int.toNat_natCast, List.getD_eq_getElem?_getD, List.getElem?_eq_getElem c1]; exact List.getElem_mem c1
          obtain ⟨k, hk, hk1, hk2⟩ := HLIN.out _ hxm
          have htk : ls.take (i + 1) = ls.take i ++ [(k : Int)] := by
            rw [List.take_succ_eq_append_getElem c1, ← hk]
            unfold rd
            rw [Int.toNat_natCast, List.getD_eq_getElem?_getD, List.getElem?_eq_getElem c1]
            rfl
          rw [hk, Int.toNat_natCast] at hxa
          have HTK := Aside0.mk htk
          have HKN := Aside0.mk hk2
          have HKM := Aside0.mk (show k < N by have := HNE.out; omega)
          have q5 : (0 ≤ (k : Int)) = True := eq_true (by omega)
          have q6 : ((k : Int) < (N : Int)) = True := eq_true (by have := HKM.out; omega)
          have HI := Aside0.mk c1
          have HW := Aside0.mk (wrap_h c1 (by have := HLL.out; omega))
          clear c1 hxm hk hk1 hk2 htk
          go_wp2_with ((with_reducible refine gate_store (t := 4) (p := 41) rfl ?_); refine bool_put rfl rfl rfl (w0 := w2) k HCM.out HKM.out HB4.out rfl rfl ?_; intro w6 h1 h2 h3; replace HCM := Aside0.mk h1; replace HB4 := Aside0.mk h2; replace HZ4 := Aside0.mk (Nat.le_trans HZ4.out h3.size); clear h1 h2 h3 hxa)
          go_roundw
          case rel => exact ⟨i + 1, _, (by rw [HW.out]), HI.out, HB4, HZ4, HCM, ⟨by rw [HTK.out]; exact HCO.out.add HKN.out⟩⟩
          case measure => exact meas_h HI.out HW.out
        · have c1b : decide ((i : Int) < (ls.length : Int)) = false := decide_eq_false (by omega)
          have c1c : decide (i < ls.length) = false := decide_eq_false c1
          rw [List.take_of_length_le (by omega)] at HCO
          clear c1 hi
          obtain ⟨wz, rfl⟩ : ∃ wz, wz = wr := ⟨_, rfl⟩
          have HSZ := Aside0.mk (show ∀ k, k < W.heap.size → ¬ F k → wz.heap[k]? = W.heap[k]? from fun k hk _ => by rw [HB4.out.block k (Nat.lt_of_lt_of_le hk HB.out.size), HB.out.block k hk])
          have HSW := Aside0.mk (Nat.le_trans HB.out.size HB4.out.size)
          replace H := Aside0.mk (H.out.step HB4.out)
          clear HB4
          go_wp2_with fail
          go_loopw [11] (fun v11 wr => ∃ (i : Nat), v11 = .int .i64 ((i : Int) + 1) ∧ i ≤ n ∧ Aside0 (DIn w0 F { d with obs := cutO met d.obs i } rb wr) ∧ Aside0 (W.heap.size ≤ wr.heap.size) ∧ Aside0 (∀ k, k < W.heap.size → ¬ F k → wr.heap[k]? = W.heap[k]?) ∧ Aside0 (Kd.R Kd.bool 4 wr w2.heap.size (fun k => k = gc) (.slice (some ⟨gc, 0, none⟩) N cc) cm)) (fun v11 _ => ((n : Int) + 1 - intOf v11).toNat)
          case atStart => exact ⟨0, rfl, Nat.zero_le _, ⟨by rw [cutO_zero]; exact H.out⟩, HSW, HSZ, HCM⟩
          case round =>
            clear H HSW HSZ HCM
            obtain ⟨i, rfl, hi, H, HSW, HSZ, HCM⟩ := hrel
            have f2 := H.out.cells.2.2
            change wr.cell? ⟨d.db, 2, none⟩ = some d.ov at f2
            rw [HEO.out] at f2
            by_cases c1 : i < n
            · have c1b : decide ((i : Int) + 1 ≤ (n : Int)) = true := decide_eq_true (by omega)
              have c1c : decide ((i : Int) < (n : Int)) = true := decide_eq_true (by omega)
              have c1d : decide (i < n) = true := decide_eq_true c1
              have HKM := Aside0.mk (show i + 1 < N by have := HNE.out; omega)
              have p5 : (0 ≤ (i : Int) + 1) = True := eq_true (by omega)
              have p6 : ((i : Int) + 1 < (N : Int)) = True := eq_true (by have := HKM.out; omega)
              have p7 : (0 ≤ (i : Int)) = True := eq_true (by omega)
              have p8 : ((i : Int) < (n : Int)) = True := eq_true (by omega)
              have hnat : ((i : Int) + 1).toNat = i + 1 := by omega
              have HW := Aside0.mk (show wrap64 ((i : Int) + 1 + 1) = ((i + 1 : Nat) : Int) + 1 by have := HNL.out; have := HNN.out; unfold wrap64; omega)
              have hw0 : wrap64 (i : Int) = (i : Int) := by have := HNL.out; have := HNN.out; unfold wrap64; omega
              have hcb := bools_at HCM.out HKM.out
              have hcn : cm.getD (i + 1) false = memH met ((i : Int) + 1) := by
                have h9 := HCO.out.is (i + 1) (by omega)
                rw [HRL.out, reachL_mem HSU.out HRE.out.live] at h9
                unfold memH
                cases hq : cm.getD (i + 1) false with
                | true => exact (decide_eq_true (h9.1 hq)).symm
                | false => exact (decide_eq_false (fun q => by rw [h9.2 q] at hq; cases hq)).symm
              rw [hcn] at hcb
              have HI := Aside0.mk c1
              clear c1 hcn
              cases hcv : memH met ((i : Int) + 1) with
              | true =>
                rw [hcv] at hcb
                have HCV := Aside0.mk hcv
                clear hcv
                go_wp2_with fail
                go_roundw
                case rel => exact ⟨i + 1, (by rw [HW.out]), HI.out, ⟨by rw [cutO_stay HCV.out]; exact H.out⟩, HSW, HSZ, HCM⟩
                case measure => rw [HW.out]; have h1 := HI.out; show ((n : Int) + 1 - (((i + 1 : Nat) : Int) + 1)).toNat < ((n : Int) + 1 - ((i : Int) + 1)).toNat; omega
              | false =>
                rw [hcv] at hcb
                have HCV := Aside0.mk hcv
                clear hcv
                obtain ⟨ad, cc9, eo, _⟩ := H.out.at_ (i := i) (by show i < (cutO met d.obs i).length; rw [cutO_len, ← HNN.out]; exact HI.out)
                change d.ov = _ at eo
                rw [HEO.out] at eo
                injection eo with e1 e2 e3
                clear e2
                subst e1 e3
                go_wp2_with ((with_reducible refine gate_store (t := 83) (p := 63) rfl ?_); refine obj_put rfl rfl rfl H.out (i := i) (by show i < (cutO met d.obs i).length; rw [cutO_len, ← HNN.out]; exact HI.out) HEO.out rfl rfl ?_; intro w6 g h1 h2 h3 h4; replace H := Aside0.mk h1; replace HSZ := Aside0.mk (show ∀ k, k < W.heap.size → ¬ F k → w6.heap[k]? = W.heap[k]? from fun k hk hF => by rw [h2.block k (Nat.lt_of_lt_of_le hk HSW.out) (fun e => hF (by rw [Option.some.inj e]; exact h3)), HSZ.out k hk hF]); replace HSW := Aside0.mk (Nat.le_trans HSW.out h2.size); replace HCM := Aside0.mk (Kd.R_grown HCM.out h2 (fun k hk e => by subst hk; obtain ⟨c1, q1⟩ := h4; obtain ⟨c2, q2⟩ := Kd.R_typed HCM.out k rfl; rw [Option.some.inj e, q1] at q2; injection q2 with q2; injection q2 with _ q2; revert q2; decide)); clear h1 h2 h3 h4)
                go_roundw
                case rel => exact ⟨i + 1, (by rw [HW.out]), HI.out, ⟨by rw [cutO_go (by rw [← HNN.out]; exact HI.out) HCV.out]; exact H.out⟩, HSW, HSZ, HCM⟩
                case measure => rw [HW.out]; have h1 := HI.out; show ((n : Int) + 1 - (((i + 1 : Nat) : Int) + 1)).toNat < ((n : Int) + 1 - ((i : Int) + 1)).toNat; omega
            · have c1b : decide ((i : Int) + 1 ≤ (n : Int)) = false := decide_eq_false (by omega)
              have c1c : decide ((i : Int) < (n : Int)) = false := decide_eq_false (by omega)
              have c1d : decide (i < n) = false := decide_eq_false c1
              have HIN := Aside0.mk (show i = d.obs.length by have := HNN.out; omega)
              rw [HIN.out] at H
              clear c1 hi
              have HL2 := Aside0.mk (HLK.out.cut met)
              go_wp2_with fail
              refine (rf_Used w0 F _ rb (colS s met) HL2.out (by show (cutO met d.obs d.obs.length).length < _; rw [cutO_len]; exact HNL.out) wr H.out).mono ?_
              rintro e w9 ⟨rfl, hdr⟩
              have HB9 := Aside0.mk hdr.below
              clear hdr
              have hgu : (colS s met).used = s.used - (goC met s 0 (liveL s)).1 := rfl
              obtain ⟨gu, hgu2⟩ : ∃ gu, gu = (goC met s 0 (liveL s)).1 := ⟨_, rfl⟩
              have HG2 := Aside0.mk hgu2
              rw [← hgu2] at hgu
              rw [hgu]
              have HGU := Aside0.mk (show wrap64 (s.used - (s.used - gu)) = gu by
                have h1 := colS_lt HSU.out met
                have h2 := HSM.out
                have h3 := HSU.out.2
                have h4 := costL_nonneg s.m (liveL s)
                rw [hgu] at h1
                unfold wrap64
                omega)
              clear hgu hgu2
              go_wp2_with fail
              go_ret2
              refine .inr ⟨met, HBD.out, HRE.out, by rw [← HG2.out]; show Ending.returned (.tuple #[.int .i64 (wrap64 (s.used - (s.used - gu))), .int .i64 0]) = _; rw [HGU.out], { d with obs := cutO met d.obs d.obs.length }, rb, rfl, by show (cutO met d.obs d.obs.length).length ≤ _; rw [cutO_len]; exact Nat.le_succ _, HL2.out, (H.out.step HB9.out).wider (fun _ q => .inl q), fun k hk hF => by rw [HB9.out.block k (Nat.lt_of_lt_of_le hk HSW.out), HSZ.out k hk hF]⟩
end Go.Proofs.YtkjagcamikkjkaaGreat.P

end

section
namespace Go.Proofs.YtkjagcamikkjkaaGreat.P
open Go.RowKit Go.Proofs.YtkjagcamikkjkaaGreatW.PrintWords Go.Proofs.YtkjagcamikkjkaaGreatW.PrintLast Go.Proofs.YtkjagcamikkjkaaGreatW.PrintMore
attribute [local go_sem] max2_int min2_int max_two min_two max_three min_three max_four min_four
set_option linter.unusedVariables false
set_option linter.unusedSimpArgs false
theorem sane_long {l : List S38} (h : Sane l) : l.length < 4398046511104 ∧ ∀ c ∈ l, c.f2.length < 5864062014805 := by
  have h1 := h.size
  refine ⟨by omega, fun c hc => ?_⟩
  have := (h.2.2 c hc).2.2
  have := this.2.1
  omega
def newE (l : List S38) (room : Int) : Int := if room < 0 ∨ room > 4096 then 1 else (checkB l).2
theorem hp_NewZ (A0 : Option Addr) (c0 : Nat) (l0 : List S38) (room : Int) (w : World) (hr0 : Kd.C k38 w A0 l0.length l0) (hc0 : l0.length ≤ c0) (hs : Sane l0) :
    Calls Tryz.prog 5 #[.slice A0 l0.length c0, .int .i64 room] w fun e w' => (newE l0 room ≠ 0 ∧ e = .returned (.tuple #[.pointer none, .int .i64 (newE l0 room)]) ∧ Below w.heap.size w w') ∨ (newE l0 room = 0 ∧ 0 ≤ room ∧ room ≤ 4096 ∧ Good l0 ∧ ∃ (hb B : Nat) (vc : Value), e = .returned (.tuple #[.pointer (some ⟨hb, 0, none⟩), .int .i64 0]) ∧ HeapAt w ⟨hb, B, vc, l0, room, 0, 0, fun _ => none, fun _ => False, w⟩ w') := by
  obtain ⟨h1, h2⟩ := sane_long hs
  obtain ⟨k, hk⟩ := impl_check l0 hs
  have hk := hk k (Nat.le_refl k)
  refine (hp_New k A0 c0 l0 room (checkB l0).1 (checkB l0).2 w hr0 hc0 h1 h2 hk).mono ?_
  rintro e w' (⟨h, h3, h4⟩ | ⟨q1, q2, h, h3, h4⟩ | ⟨q1, q2, h, hb, B, vc, h3, h4⟩)
  · have e : newE l0 room = 1 := if_pos h
    rw [e]
    exact .inl ⟨by decide, h3, h4⟩
  · have e : newE l0 room = (checkB l0).2 := if_neg (by omega)
    rw [e]
    exact .inl ⟨h, h3, h4⟩
  · have e : newE l0 room = (checkB l0).2 := if_neg (by omega)
    rw [e]
    exact .inr ⟨h, q1, q2, (good_iff l0).1 h, hb, B, vc, h3, h4⟩
set_option maxHeartbeats 1600000 in
set_option maxRecDepth 100000 in
theorem rf_New (A0 : Option Addr) (c0 : Nat) (l0 : List S38) (room : Int) (w0 W : World) (hb : Below w0.heap.size w0 W) (hr0 : Kd.C k38 w0 A0 l0.length l0) (hc0 : l0.length ≤ c0) (hs : Sane l0) :
    Calls Tryz.prog 6 #[.slice A0 l0.length c0, .int .i64 room] W fun e w' => Below W.heap.size W w' ∧ ((newE l0 room ≠ 0 ∧ e = .returned (.tuple #[.pointer none, .int .i64 (newE l0 room)])) ∨ (newE l0 room = 0 ∧ ∃ db : Nat, e = .returned (.tuple #[.pointer (some ⟨db, 0, none⟩), .int .i64 0]) ∧ DIn w0 (fun k => W.heap.size ≤ k) ⟨db, A0, c0, l0, room, .slice none 0 0, []⟩ (fun _ => 0) w')) := by
  obtain ⟨k, hk⟩ := ref_check l0 hs
  have hk := hk k (Nat.le_refl k)
  have HB0 := Aside0.mk hb
  have HR := Aside0.mk hr0
  have HC := Aside0.mk hc0
  have HK := Aside0.mk hk
  clear hb hr0 hc0 hs hk
  by_cases ca : room < 0
  · have d1 : decide (room < 0) = true := decide_eq_true ca
    have e : newE l0 room = 1 := if_pos (.inl ca)
    rw [e]
    clear ca e
    go_enter Tryz.func6, Tryz.ntmps6
    go_wp2
    go_ret2
    first | exact ⟨Below.refl _ _, .inl ⟨by decide, rfl⟩⟩ | exact ⟨Below.refl _ _, rfl⟩
  have d1 : decide (room < 0) = false := decide_eq_false ca
  by_cases cb : room > 4096
  · have d2 : decide (room > 4096) = true := decide_eq_true cb
    have d2b : decide (4096 < room) = true := decide_eq_true cb
    have e : newE l0 room = 1 := if_pos (.inr cb)
    rw [e]
    clear ca cb e
    go_enter Tryz.func6, Tryz.ntmps6
    go_wp2
    go_ret2
    first | exact ⟨Below.refl _ _, .inl ⟨by decide, rfl⟩⟩ | exact ⟨Below.refl _ _, rfl⟩
  have d2 : decide (room > 4096) = false := decide_eq_false cb
  have d2b : decide (4096 < room) = false := decide_eq_false cb
  have e : newE l0 room = (checkB l0).2 := if_neg (by omega)
  rw [e]
  clear ca cb e
  obtain ⟨r1, hr1⟩ : ∃ r1, r1 = (checkB l0).1 := ⟨_, rfl⟩
  obtain ⟨r2, hr2⟩ : ∃ r2, r2 = (checkB l0).2 := ⟨_, rfl⟩
  rw [← hr2]
  have HK2 : Aside0 (provisoref02_Check.f k l0 = some (r1, r2)) := ⟨by rw [hr1, hr2]; exact HK.out⟩
  clear hr1 hr2 HK
  by_cases cr : r2 = 0
  · subst cr
    go_enter Tryz.func6, Tryz.ntmps6
    go_wp2_with fail
    refine (provisoref02_Check.calls k A0 c0 l0 r1 0 W (Kd.C_below HR.out HB0.out) HC.out HK2.out).mono ?_
    rintro e w1 ⟨rfl, hb⟩
    have HB := Aside0.mk hb
    clear hb
    go_wp2_with ((with_reducible refine gate_dst (N := 25) rfl ?_); refine rw_box rfl 57 rfl (cs := #[.slice A0 l0.length c0, .int .i64 room, .slice none 0 0]) rfl ((Rws.nil W).step HB.out) ?_; intro b2 w2 hX; have HX := Aside0.mk hX; clear hX)
    go_ret2
    have hz := HX.out.lies _ List.mem_cons_self
    have hsz := HB0.out.size
    refine ⟨HX.out.below, ?_⟩
    first | refine .inr ⟨trivial, ?_⟩ | refine .inr ⟨rfl, ?_⟩
    refine ⟨b2, rfl, hz.1, Kd.R_nil _ _ _ _ _, fun i hi => (by cases hi), fun i j hi => (by cases hi), fun i hi => (by cases hi), ⟨hz.2, Nat.le_trans hsz hz.2⟩, ⟨HR.out, HC.out⟩, below_then HB0.out hsz HX.out.below⟩
  · have cz : (r2 != 0) = true := by rw [bne_iff_ne]; exact cr
    have cz2 : (r2 == 0) = false := by rw [beq_eq_false_iff_ne]; exact cr
    have HZ := Aside0.mk cr
    clear cr
    go_enter Tryz.func6, Tryz.ntmps6
    go_wp2_with fail
    refine (provisoref02_Check.calls k A0 c0 l0 r1 r2 W (Kd.C_below HR.out HB0.out) HC.out HK2.out).mono ?_
    rintro e w1 ⟨rfl, hb⟩
    have HB := Aside0.mk hb
    clear hb
    go_wp2_with fail
    go_ret2
    exact ⟨HB.out, .inl ⟨HZ.out, rfl⟩⟩
theorem Like.start (hb B : Nat) (vc : Value) (l0 : List S38) (room : Int) (fr : Nat → Prop) (W : World) (db : Nat) (A : Option Addr) (c : Nat) : Like ⟨hb, B, vc, l0, room, 0, 0, fun _ => none, fr, W⟩ ⟨db, A, c, l0, room, .slice none 0 0, []⟩ :=
  ⟨by
    funext x
    exact (mOf_out (fun h => by simp at h; omega)).symm, rfl, ⟨fun x o h => (by cases h), (by unfold liveL; rfl)⟩, (by show (0 : Int) ≤ 4096; decide), rfl, rfl⟩
end Go.Proofs.YtkjagcamikkjkaaGreat.P

end

section
namespace Go.Proofs.YtkjagcamikkjkaaGreat.P
open Go.RowKit Go.Proofs.YtkjagcamikkjkaaGreatW.PrintWords Go.Proofs.YtkjagcamikkjkaaGreatW.PrintLast Go.Proofs.YtkjagcamikkjkaaGreatW.PrintMore
attribute [local go_sem] max2_int min2_int max_two min_two max_three min_three max_four min_four
set_option linter.unusedVariables false
set_option linter.unusedSimpArgs false
theorem HeapAt.move {w0 w : World} {s : HS} {W W1 : World} (h : HeapAt w0 s W) (hk : ∀ k, w0.heap.size ≤ k → k < W.heap.size → ¬ s.fr k → W1.heap[k]? = W.heap[k]?) (hw : w.heap.size ≤ w0.heap.size) (hb : Below w.heap.size w W1) (fr' : Nat → Prop) (hf : ∀ k, fr' k → k < W1.heap.size ∧ (s.fr k ∨ W.heap.size ≤ k)) : HeapAt w { s with fr := fr', w9 := W1 } W1 := by
  obtain ⟨ob, rb, h⟩ := h
  have hq : ∀ b, w0.heap.size ≤ b → b < W.heap.size → ¬ s.fr b → ∀ k, fr' k → k ≠ b := fun b h0 h1 h2 k hk e => by
    subst e
    rcases (hf k hk).2 with q | q
    · exact h2 q
    · omega
  have hlt : ∀ (b : Nat) (x : Obj), W.heap[b]? = some x → b < W.heap.size := fun b x hx => by
    rcases Nat.lt_or_ge b W.heap.size with q | q
    · exact q
    · rw [Array.getElem?_eq_none q] at hx; cases hx
  have hhd := hlt _ _ h.hd
  have hmp := h.mp.lt
  have nhd : ¬ s.fr s.hb := fun q => (h.sep _ q).1 rfl
  have nmp : ¬ s.fr s.B := fun q => (h.sep _ q).2.1 rfl
  have nob : ∀ x o, s.m x = some o → ¬ s.fr (ob x) ∧ ¬ s.fr (rb x) := fun x o hx => ⟨fun q => ((h.sep _ q).2.2 x o hx).1 rfl, fun q => ((h.sep _ q).2.2 x o hx).2 rfl⟩
  refine ⟨ob, rb, ?_, ?_, fun x o hx => ?_, h.inj, ⟨Nat.le_trans hw h.base.1, Nat.le_trans hw h.base.2.1, fun x o hx => ⟨Nat.le_trans hw (h.base.2.2 x o hx).1, Nat.le_trans hw (h.base.2.2 x o hx).2⟩⟩, ?_, h.dom, h.num, hb, ⟨Nat.le_refl _, fun k q => ⟨(hf k q).1, rfl⟩⟩, fun k q => ⟨hq _ h.base.1 hhd nhd k q, hq _ h.base.2.1 hmp nmp k q, fun x o hx => ?_⟩⟩
  · exact (hk _ h.base.1 hhd nhd).trans h.hd
  · exact h.mp.block (hk _ h.base.2.1 hmp nmp)
  · have h1 := h.obj x o hx
    have h2 := h.base.2.2 x o hx
    have h3 := nob x o hx
    exact ⟨(hk _ h2.1 (hlt _ _ h1.1) h3.1).trans h1.1, (hk _ h2.2 (hlt _ _ h1.2) h3.2).trans h1.2⟩
  · have h1 := Kd.R_step (w1 := W1) (Kd.R_mono (Kd.R_bound h.cls) (ok' := fun k => ¬ s.fr k ∧ w0.heap.size ≤ k ∧ k < W.heap.size) (fun k q => ⟨q.1, q.2.1, q.2.2.1⟩)) (fun k q hlt => hk k q.2.1 q.2.2 q.1)
    exact Kd.R_lower (Kd.R_mono h1 (fun k q hfk => by
      rcases (hf k hfk).2 with q2 | q2
      · exact q.1 q2
      · omega)) hw
  · have h1 := h.obj x o hx
    have h2 := h.base.2.2 x o hx
    have h3 := nob x o hx
    exact ⟨hq _ h2.1 (hlt _ _ h1.1) h3.1 k q, hq _ h2.2 (hlt _ _ h1.2) h3.2 k q⟩
theorem DIn.move {w0 : World} {F : Nat → Prop} {d : DS} {rb : Nat → Nat} {W W1 : World} (h : DIn w0 F d rb W) (hk : ∀ k, F k → k < W.heap.size → W1.heap[k]? = W.heap[k]?) (hb : Below w0.heap.size w0 W1) : DIn w0 (fun k => F k ∧ k < W.heap.size) d rb W1 := by
  have hlt : ∀ (b : Nat) (x : Obj), W.heap[b]? = some x → b < W.heap.size := fun b x hx => by
    rcases Nat.lt_or_ge b W.heap.size with q | q
    · exact q
    · rw [Array.getElem?_eq_none q] at hx; cases hx
  have hd := hlt _ _ h.hd
  refine ⟨(hk _ h.fd.1 hd).trans h.hd, ?_, fun i hi ht => ?_, h.inj, h.ok, ⟨⟨h.fd.1, hd⟩, h.fd.2⟩, h.cl, hb⟩
  · exact Kd.R_step (Kd.R_mono (Kd.R_bound h.ro) (fun k q => ⟨q.1, q.2.2.1⟩)) (fun k q _ => hk k q.1 q.2)
  · have h1 := h.pl i hi ht
    have h2 := hlt _ _ h1.1
    exact ⟨(hk _ h1.2.1 h2).trans h1.1, ⟨h1.2.1, h2⟩, h1.2.2⟩
structure Both (w0 : World) (P : Nat → Prop) (s : HS) (d : DS) (W : World) : Prop where
  at_ : HeapAt w0 s W
  doc : ∃ F rb, DIn w0 F d rb W ∧ ∀ k, F k → s.fr k ∧ ¬ P k
  own : ∀ k, P k → s.fr k
  like : Like s d
  good : Good s.l
  sane : Sane s.l
theorem Both.step {w0 : World} {P : Nat → Prop} {s : HS} {d : DS} {W W1 : World} (h : Both w0 P s d W) (hb : Below W.heap.size W W1) : Both w0 P s d W1 := by
  obtain ⟨F, rb, hd, hf⟩ := h.doc
  exact ⟨h.at_.step hb, ⟨F, rb, hd.step hb, hf⟩, h.own, h.like, h.good, h.sane⟩
theorem Both.less {w0 : World} {P P' : Nat → Prop} {s : HS} {d : DS} {W : World} (h : Both w0 P s d W) (hp : ∀ k, P' k → P k) : Both w0 P' s d W := by
  obtain ⟨F, rb, hd, hf⟩ := h.doc
  exact ⟨h.at_, ⟨F, rb, hd, fun k hk => ⟨(hf k hk).1, fun q => (hf k hk).2 (hp k q)⟩⟩, fun k q => h.own k (hp k q), h.like, h.good, h.sane⟩
theorem HeapAt.fr_lt {w0 : World} {s : HS} {W : World} (h : HeapAt w0 s W) (k : Nat) (hk : s.fr k) : k < W.heap.size := by
  obtain ⟨ob, rb, h⟩ := h
  exact Nat.lt_of_lt_of_le (h.keep.2 k hk).1 h.keep.1
theorem Both.freeze {w0 : World} {P : Nat → Prop} {s : HS} {d : DS} {W W1 : World} (h : Both w0 P s d W) (hb : Below W.heap.size W W1) : ∃ s' : HS, Both w0 (fun k => P k ∨ (W.heap.size ≤ k ∧ k < W1.heap.size)) s' d W1 ∧ s'.hb = s.hb := by
  obtain ⟨F, rb, hd, hf⟩ := h.doc
  have hsz := hb.size
  refine ⟨{ s with fr := fun k => s.fr k ∨ (W.heap.size ≤ k ∧ k < W1.heap.size), w9 := W1 }, ⟨HeapAt.move h.at_ (fun k _ hlt _ => hb.block k hlt) (Nat.le_refl _) (below_step h.at_.below hb) _ (fun k q => ?_), ⟨F, rb, hd.step hb, fun k hk => ⟨.inl (hf k hk).1, fun q => ?_⟩⟩, fun k q => q.imp (h.own k) id, ⟨h.like.m, h.like.last, h.like.sum, h.like.used, h.like.l, h.like.room⟩, h.good, h.sane⟩, rfl⟩
  · rcases q with q | q
    · exact ⟨Nat.lt_of_lt_of_le (h.at_.fr_lt k q) hsz, .inl q⟩
    · exact ⟨q.2, .inr q.1⟩
  · rcases q with q | q
    · exact (hf k hk).2 q
    · have := h.at_.fr_lt k (hf k hk).1
      omega
theorem Both.half {w0 : World} {P : Nat → Prop} {s s' : HS} {d : DS} {W W1 : World} (h : Both w0 P s d W) (hh : HeapAt w0 s' W1) (hf : s'.fr = s.fr) (h9 : s'.w9 = s.w9) : (∃ F rb, DIn w0 F d rb W1 ∧ ∀ k, F k → s.fr k ∧ ¬ P k) ∧ ∀ k, P k → W1.heap[k]? = W.heap[k]? := by
  obtain ⟨F, rb, hd, hF⟩ := h.doc
  obtain ⟨ob, rb2, h1⟩ := h.at_
  obtain ⟨ob3, rb3, h2⟩ := hh
  have hkk : ∀ k, s.fr k → W1.heap[k]? = W.heap[k]? := fun k hk => by
    have e1 := (h1.keep.2 k hk).2
    have e2 := (h2.keep.2 k (by rw [hf]; exact hk)).2
    rw [h9] at e2
    exact e2.trans e1.symm
  exact ⟨⟨F, rb, (hd.move (fun k hk _ => hkk k (hF k hk).1) h2.below).wider (fun k q => q.1), hF⟩, fun k q => hkk k (h.own k q)⟩
theorem Both.turn {w0 : World} {P F : Nat → Prop} {s s' : HS} {d : DS} {W W1 W2 : World} (h : Both w0 P s d W) (hh : HeapAt w0 s' W1) (hf : s'.fr = s.fr) (hl : s'.l = s.l) (hF : ∀ k, F k → s.fr k ∧ ¬ P k) (hk1 : ∀ k, P k → W1.heap[k]? = W.heap[k]?) (hp : RfPost w0 F d W1 s' W2) : ∃ (s2 : HS) (d2 : DS), Both w0 P s2 d2 W2 ∧ s2.hb = s'.hb ∧ d2.db = d.db ∧ d2.obs.length ≤ d.obs.length + 1 ∧ ∀ k, P k → W2.heap[k]? = W.heap[k]? := by
  obtain ⟨d', rb', e1, e2, hk, hD, hold⟩ := hp
  have hfl := hh.fr_lt
  have hDb := hD.below
  have hPF : ∀ k, P k → k < W1.heap.size ∧ ¬ F k := fun k q => ⟨hfl k (by rw [hf]; exact h.own k q), fun q2 => (hF k q2).2 q⟩
  have hP2 : ∀ k, P k → k < W2.heap.size := fun k q => by
    have h1 := hold k (hPF k q).1 (hPF k q).2
    rcases Nat.lt_or_ge k W2.heap.size with q2 | q2
    · exact q2
    · rw [Array.getElem?_eq_none q2, Array.getElem?_eq_getElem (hPF k q).1] at h1
      cases h1
  refine ⟨{ s' with fr := fun k => (s.fr k ∨ W1.heap.size ≤ k) ∧ k < W2.heap.size, w9 := W2 }, d', ⟨?_, ⟨fun k => (F k ∨ W1.heap.size ≤ k) ∧ k < W2.heap.size, rb', ?_, fun k q => ⟨⟨q.1.imp (fun q2 => (hF k q2).1) id, q.2⟩, fun q2 => ?_⟩⟩, fun k q => ⟨.inl (h.own k q), hP2 k q⟩, ⟨hk.m, hk.last, hk.sum, hk.used, hk.l, hk.room⟩, by show Good s'.l; rw [hl]; exact h.good, by show Sane s'.l; rw [hl]; exact h.sane⟩, rfl, e1, e2, fun k q => (hold k (hPF k q).1 (hPF k q).2).trans (hk1 k q)⟩
  · exact HeapAt.move hh (fun k _ hlt hn => hold k hlt (fun q => hn (by rw [hf]; exact (hF k q).1))) (Nat.le_refl _) hDb _ (fun k q => ⟨q.2, q.1.imp (fun q2 => by rw [hf]; exact q2) id⟩)
  · have hlt : ∀ (b : Nat) (x : Obj), W2.heap[b]? = some x → b < W2.heap.size := fun b x hx => by
      rcases Nat.lt_or_ge b W2.heap.size with q | q
      · exact q
      · rw [Array.getElem?_eq_none q] at hx; cases hx
    refine ⟨hD.hd, ?_, fun i hi ht => ⟨(hD.pl i hi ht).1, ⟨(hD.pl i hi ht).2.1, hlt _ _ (hD.pl i hi ht).1⟩, (hD.pl i hi ht).2.2⟩, hD.inj, hD.ok, ⟨⟨hD.fd.1, hlt _ _ hD.hd⟩, hD.fd.2⟩, hD.cl, hDb⟩
    exact Kd.R_mono (Kd.R_bound hD.ro) (fun k q => ⟨q.1, q.2.2.1⟩)
  · rcases q.1 with q3 | q3
    · exact (hF k q3).2 q2
    · have := (hPF k q2).1
      omega
theorem Reached.same {s : HS} {rs a b : List Int} (h : Reached s rs a) (h2 : Reached s rs b) (x : Int) : x ∈ a ↔ x ∈ b :=
  ⟨h.least (fun x => x ∈ b) h2.has (fun x v q => h2.shut x q v) x, h2.least (fun x => x ∈ a) h.has (fun x v q => h.shut x q v) x⟩
theorem memH_same {a b : List Int} (h : ∀ x, x ∈ a ↔ x ∈ b) (x : Int) : memH a x = memH b x := by
  unfold memH
  exact decide_eq_decide.2 (h x)
theorem reachL_same {s : HS} {a b : List Int} (h : ∀ x, x ∈ a ↔ x ∈ b) : reachL s a = reachL s b := by
  unfold reachL
  exact List.filter_congr (fun x _ => memH_same h x)
theorem goC_same {a b : List Int} (h : ∀ x, x ∈ a ↔ x ∈ b) : ∀ (l : List Int) (s : HS) (n : Int), goC a s n l = goC b s n l
  | [], s, n => rfl
  | x :: l, s, n => by
    unfold goC
    by_cases hx : x ∈ a
    · rw [if_pos hx, if_pos ((h x).1 hx)]; exact goC_same h l _ _
    · rw [if_neg hx, if_neg (fun q => hx ((h x).2 q))]; exact goC_same h l _ _
theorem colS_same {s : HS} {a b : List Int} (h : ∀ x, x ∈ a ↔ x ∈ b) : colS s a = colS s b := by
  unfold colS
  rw [goC_same h]
theorem addM_all (s : HS) (c n : Int) : (addM s c n).2.2.fr = s.fr ∧ (addM s c n).2.2.w9 = s.w9 ∧ (addM s c n).2.2.l = s.l ∧ (addM s c n).2.2.hb = s.hb := by
  unfold addM
  split
  · exact ⟨rfl, rfl, rfl, rfl⟩
  · exact ⟨rfl, rfl, rfl, rfl⟩
theorem recordM_all (s : HS) (c : Int) : (recordM s c).2.2.fr = s.fr ∧ (recordM s c).2.2.w9 = s.w9 ∧ (recordM s c).2.2.l = s.l ∧ (recordM s c).2.2.hb = s.hb := by
  unfold recordM
  split
  · exact ⟨rfl, rfl, rfl, rfl⟩
  · exact addM_all _ _ _
theorem rowM_all (s : HS) (c : Int) : (rowM s c).2.2.fr = s.fr ∧ (rowM s c).2.2.w9 = s.w9 ∧ (rowM s c).2.2.l = s.l ∧ (rowM s c).2.2.hb = s.hb := by
  unfold rowM
  split
  · exact ⟨rfl, rfl, rfl, rfl⟩
  · exact addM_all _ _ _
theorem putM_all (s : HS) (x i v : Int) : (putM s x i v).2.fr = s.fr ∧ (putM s x i v).2.w9 = s.w9 ∧ (putM s x i v).2.l = s.l ∧ (putM s x i v).2.hb = s.hb := by
  unfold putM
  split
  · split
    · exact ⟨rfl, rfl, rfl, rfl⟩
    · exact ⟨rfl, rfl, rfl, rfl⟩
  · exact ⟨rfl, rfl, rfl, rfl⟩
theorem colS_all (s : HS) (met : List Int) : (colS s met).fr = s.fr ∧ (colS s met).w9 = s.w9 ∧ (colS s met).l = s.l ∧ (colS s met).hb = s.hb := by
  rw [colS_eq]
  exact ⟨rfl, rfl, rfl, rfl⟩
def ActPost (w0 : World) (P : Nat → Prop) (s : HS) (d : DS) (W w' : World) : Prop := ∃ (s' : HS) (d' : DS), Both w0 P s' d' w' ∧ s'.hb = s.hb ∧ d'.db = d.db ∧ d'.obs.length ≤ d.obs.length + 1 ∧ ∀ k, P k → w'.heap[k]? = W.heap[k]?
end Go.Proofs.YtkjagcamikkjkaaGreat.P

end

section
namespace Go.Proofs.YtkjagcamikkjkaaGreat.P
open Go.RowKit Go.Proofs.YtkjagcamikkjkaaGreatW.PrintWords Go.Proofs.YtkjagcamikkjkaaGreatW.PrintLast Go.Proofs.YtkjagcamikkjkaaGreatW.PrintMore
attribute [local go_sem] max2_int min2_int max_two min_two max_three min_three max_four min_four
set_option linter.unusedVariables false
set_option linter.unusedSimpArgs false
set_option maxHeartbeats 3200000 in
set_option maxRecDepth 100000 in
theorem look_calls (w0 : World) (P : Nat → Prop) (s : HS) (d : DS) (W : World) (h : Both w0 P s d W) (hn9 : d.obs.length < 4398046511104) (A : Option Addr) (c : Nat) (refs : List Int) (hC : Kd.C (Kd.int .i64) W A refs.length refs) (hrk : ∀ y ∈ refs, I64 y) (hrl : refs.length < 17592186044416) :
    Calls Tryz.prog 8 #[.agg #[.pointer (some ⟨s.hb, 0, none⟩), .pointer (some ⟨d.db, 0, none⟩)], .slice A refs.length c] W fun e w' => e = .returned (.bool true) ∧ Below W.heap.size W w' := by
  have H := Aside0.mk h
  have HN := Aside0.mk hn9
  have HC := Aside0.mk hC
  have HRK := Aside0.mk hrk
  have HRL := Aside0.mk hrl
  have HLA := Aside0.mk (show s.last < 17592186044416 by have := h.like.last; omega)
  clear h hn9 hC hrk hrl
  go_enter Tryz.func8, Tryz.ntmps8
  go_wp2_with ((with_reducible refine gate_dst (N := 2) rfl ?_); refine rw_box rfl 35 rfl (cs := #[.pointer (some ⟨s.hb, 0, none⟩), .pointer (some ⟨d.db, 0, none⟩)]) rfl (Rws.nil W) ?_; intro b2 w1 hX; have HX := Aside0.mk hX; clear hX)
  have HSS := Aside0.mk (show ∀ W' : World, Below w1.heap.size w1 W' → W'.cell? ⟨b2, 0, none⟩ = some (.pointer (some ⟨s.hb, 0, none⟩)) ∧ W'.cell? ⟨b2, 1, none⟩ = some (.pointer (some ⟨d.db, 0, none⟩)) from fun W' hW => ⟨blk_cell ((HX.out.step hW).mem List.mem_cons_self) 0, blk_cell ((HX.out.step hW).mem List.mem_cons_self) 1⟩)
  replace H := Aside0.mk (H.out.step HX.out.below)
  replace HC := Aside0.mk (Kd.C_below HC.out HX.out.below)
  have HB0 := Aside0.mk HX.out.below
  have HB := Aside0.mk (Below.refl w1.heap.size w1)
  clear HX
  (try simp only [Act.put, List.setIfInBounds_toArray, List.set_cons_zero, List.set_cons_succ])
  refine wp_region_held_drew (S := fun w' => w'.cell? ⟨b2, 0, none⟩ = some (.pointer (some ⟨s.hb, 0, none⟩)) ∧ w'.cell? ⟨b2, 1, none⟩ = some (.pointer (some ⟨d.db, 0, none⟩))) (by kernel_rfl) ?_ (fun hHeld => ?_)
  · exact HSS.out _ (pw_below_drewN HB.out 1)
  replace HB := Aside0.mk (show Below w1.heap.size w1 w1.drew from pw_below_drewN HB.out 1)
  refine take_dst (i := 0) (v := ?_) 20 rfl rfl (by kernel_rfl) (by kernel_rfl) (by kernel_rfl) (fun _ _ _ h => h) (Or.inl ⟨by rfl, ?_⟩) (by assumption) ?_
  rotate_left
  · intro w hSw
    obtain ⟨q1, q2⟩ := hSw
    go_simp
    try with_reducible rfl
  (try simp only [Act.put, List.setIfInBounds_toArray, List.set_cons_zero, List.set_cons_succ])
  refine take_dst (i := 1) (v := ?_) 21 rfl rfl (by kernel_rfl) (by kernel_rfl) (by kernel_rfl) (fun _ _ _ h => h) (Or.inl ⟨by rfl, ?_⟩) (by assumption) ?_
  rotate_left
  · intro w hSw
    obtain ⟨q1, q2⟩ := hSw
    go_simp
    try with_reducible rfl
  (try simp only [Act.put, List.setIfInBounds_toArray, List.set_cons_zero, List.set_cons_succ])
  refine take_dst (i := 3) (v := ?_) 23 rfl rfl (by kernel_rfl) (by kernel_rfl) (by kernel_rfl) (fun _ _ _ h => h) (Or.inl ⟨by rfl, ?_⟩) (by assumption) ?_
  rotate_left
  · intro w hSw
    obtain ⟨q1, q2⟩ := hSw
    go_simp
    try with_reducible rfl
  (try simp only [Act.put, List.setIfInBounds_toArray, List.set_cons_zero, List.set_cons_succ])
  refine take_dst (i := 4) (v := ?_) 24 rfl rfl (by kernel_rfl) (by kernel_rfl) (by kernel_rfl) (fun _ _ _ h => h) (Or.inl ⟨by rfl, ?_⟩) (by assumption) ?_
  rotate_left
  · intro w hSw
    obtain ⟨q1, q2⟩ := hSw
    go_simp
    try with_reducible rfl
  (try simp only [Act.put, List.setIfInBounds_toArray, List.set_cons_zero, List.set_cons_succ])
  refine wpAnyH_ready (rs := [2]) (by kernel_rfl) (by simp) ?_
  refine AllReadyH.cons rfl (fun K hK => ?_) AllReadyH.nil
  go_simp
  refine (hp_Used w0 s _ (H.out.at_.step HB.out)).mono ?_
  rintro e w3 ⟨rfl, hb⟩
  replace HB := Aside0.mk (below_step HB.out hb)
  clear hb
  go_simp
  refine hK.out _ _ (HSS.out _ HB.out) (fun hHeld => ?_)
  (try simp only [Act.put, List.setIfInBounds_toArray, List.set_cons_zero, List.set_cons_succ])
  clear hK K
  refine wpAnyH_ready (rs := [5]) (by kernel_rfl) (by simp) ?_
  refine AllReadyH.cons rfl (fun K hK => ?_) AllReadyH.nil
  go_simp
  obtain ⟨F, rb, hdd, _⟩ := (H.out.step HB.out).doc
  have HDD := Aside0.mk hdd
  clear hdd
  refine (rf_Used w0 F d rb s H.out.like HN.out _ HDD.out).mono ?_
  clear HDD
  rintro e w4 ⟨rfl, hb⟩
  replace HB := Aside0.mk (below_step HB.out hb.below)
  clear hb
  go_simp
  refine hK.out _ _ (HSS.out _ HB.out) (fun hHeld => ?_)
  (try simp only [Act.put, List.setIfInBounds_toArray, List.set_cons_zero, List.set_cons_succ])
  clear hK K
  refine take_dst (i := 6) (v := ?_) 26 rfl rfl (by kernel_rfl) (by kernel_rfl) (by kernel_rfl) (fun _ _ _ h => h) (Or.inl ⟨by rfl, ?_⟩) (by assumption) ?_
  rotate_left
  · intro w hSw
    obtain ⟨q1, q2⟩ := hSw
    go_simp
    try with_reducible rfl
  (try simp only [Act.put, List.setIfInBounds_toArray, List.set_cons_zero, List.set_cons_succ])
  refine take_dst (i := 7) (v := ?_) 27 rfl rfl (by kernel_rfl) (by kernel_rfl) (by kernel_rfl) (fun _ _ _ h => h) (Or.inl ⟨by rfl, ?_⟩) (by assumption) ?_
  rotate_left
  · intro w hSw
    obtain ⟨q1, q2⟩ := hSw
    go_simp
    try with_reducible rfl
  (try simp only [Act.put, List.setIfInBounds_toArray, List.set_cons_zero, List.set_cons_succ])
  refine take_dst (i := 8) (v := ?_) 28 rfl rfl (by kernel_rfl) (by kernel_rfl) (by kernel_rfl) (fun _ _ _ h => h) (Or.inl ⟨by rfl, ?_⟩) (by assumption) ?_
  rotate_left
  · intro w hSw
    obtain ⟨q1, q2⟩ := hSw
    go_simp
    try with_reducible rfl
  (try simp only [Act.put, List.setIfInBounds_toArray, List.set_cons_zero, List.set_cons_succ])
  refine take_dst (i := 9) (v := ?_) 29 rfl rfl (by kernel_rfl) (by kernel_rfl) (by kernel_rfl) (fun _ _ _ h => h) (Or.inl ⟨by rfl, ?_⟩) (by assumption) ?_
  rotate_left
  · intro w hSw
    obtain ⟨q1, q2⟩ := hSw
    go_simp
    try with_reducible rfl
  (try simp only [Act.put, List.setIfInBounds_toArray, List.set_cons_zero, List.set_cons_succ])
  refine take_dst (i := 11) (v := ?_) 31 rfl rfl (by kernel_rfl) (by kernel_rfl) (by kernel_rfl) (fun _ _ _ h => h) (Or.inl ⟨by rfl, ?_⟩) (by assumption) ?_
  rotate_left
  · intro w hSw
    obtain ⟨q1, q2⟩ := hSw
    go_simp
    try with_reducible rfl
  (try simp only [Act.put, List.setIfInBounds_toArray, List.set_cons_zero, List.set_cons_succ])
  refine take_dst (i := 12) (v := ?_) 32 rfl rfl (by kernel_rfl) (by kernel_rfl) (by kernel_rfl) (fun _ _ _ h => h) (Or.inl ⟨by rfl, ?_⟩) (by assumption) ?_
  rotate_left
  · intro w hSw
    obtain ⟨q1, q2⟩ := hSw
    go_simp
    try with_reducible rfl
  (try simp only [Act.put, List.setIfInBounds_toArray, List.set_cons_zero, List.set_cons_succ])
  refine wpAnyH_ready (rs := [10]) (by kernel_rfl) (by simp) ?_
  refine AllReadyH.cons rfl (fun K hK => ?_) AllReadyH.nil
  go_simp
  refine (hp_LiveS w0 s H.out.like.sum HLA.out _ (H.out.at_.step HB.out)).mono ?_
  rintro e w5 ⟨v5, rfl, hV, hb⟩
  replace HB := Aside0.mk (below_step HB.out hb)
  obtain ⟨A5, c5, e5, hc5, hC5⟩ := Kd.R_reads hV
  subst e5
  have HV5 := Aside0.mk hC5
  have HD5 := Aside0.mk hc5
  clear hb hV hc5 hC5
  go_simp
  refine hK.out _ _ (HSS.out _ HB.out) (fun hHeld => ?_)
  (try simp only [Act.put, List.setIfInBounds_toArray, List.set_cons_zero, List.set_cons_succ])
  clear hK K
  refine wpAnyH_ready (rs := [13]) (by kernel_rfl) (by simp) ?_
  refine AllReadyH.cons rfl (fun K hK => ?_) AllReadyH.nil
  go_simp
  obtain ⟨F, rb, hdd, _⟩ := (H.out.step HB.out).doc
  have HDD := Aside0.mk hdd
  clear hdd
  refine (rf_Live w0 F d rb s H.out.like HN.out _ HDD.out).mono ?_
  clear HDD
  rintro e w6 ⟨v6, rfl, hV, hb⟩
  replace HB := Aside0.mk (below_step HB.out hb)
  replace HV5 := Aside0.mk (Kd.C_below HV5.out hb)
  obtain ⟨A6, c6, e6, hc6, hC6⟩ := Kd.R_reads hV
  subst e6
  have HV6 := Aside0.mk hC6
  have HD6 := Aside0.mk hc6
  clear hb hV hc6 hC6
  go_simp
  refine hK.out _ _ (HSS.out _ HB.out) (fun hHeld => ?_)
  (try simp only [Act.put, List.setIfInBounds_toArray, List.set_cons_zero, List.set_cons_succ])
  clear hK K
  refine wpAnyH_ready (rs := [14]) (by kernel_rfl) (by simp) ?_
  refine AllReadyH.cons rfl (fun K hK => ?_) AllReadyH.nil
  go_simp
  refine (ct_EqualSelf A5 c5 A6 c6 (liveL s) _ HV5.out HD5.out HV6.out HD6.out).mono ?_
  rintro e w7 ⟨rfl, hb⟩
  replace HB := Aside0.mk (below_step HB.out hb)
  clear hb
  go_simp
  refine hK.out _ _ (HSS.out _ HB.out) (fun hHeld => ?_)
  (try simp only [Act.put, List.setIfInBounds_toArray, List.set_cons_zero, List.set_cons_succ])
  clear hK K
  refine take_dst (i := 15) (v := ?_) 35 rfl rfl (by kernel_rfl) (by kernel_rfl) (by kernel_rfl) (fun _ _ _ h => h) (Or.inl ⟨by rfl, ?_⟩) (by assumption) ?_
  rotate_left
  · intro w hSw
    obtain ⟨q1, q2⟩ := hSw
    go_simp
    try with_reducible rfl
  (try simp only [Act.put, List.setIfInBounds_toArray, List.set_cons_zero, List.set_cons_succ])
  refine take_dst (i := 16) (v := ?_) 36 rfl rfl (by kernel_rfl) (by kernel_rfl) (by kernel_rfl) (fun _ _ _ h => h) (Or.inl ⟨by rfl, ?_⟩) (by assumption) ?_
  rotate_left
  · intro w hSw
    obtain ⟨q1, q2⟩ := hSw
    go_simp
    try with_reducible rfl
  (try simp only [Act.put, List.setIfInBounds_toArray, List.set_cons_zero, List.set_cons_succ])
  refine wpAnyH_done (by kernel_rfl) ?_ _
  go_wp2_with fail
  obtain ⟨wz, rfl⟩ : ∃ wz, wz = w7 := ⟨_, rfl⟩
  go_loopw [39] (fun v39 wr => ∃ (i : Nat), v39 = .int .i64 (i : Int) ∧ i ≤ refs.length ∧ Aside0 (Below w1.heap.size w1 wr)) (fun v39 _ => ((refs.length : Int) - intOf v39).toNat)
  case atStart => exact ⟨0, rfl, Nat.zero_le _, HB⟩
  case round =>
    clear HB
    obtain ⟨i, rfl, hi, HB⟩ := hrel
    by_cases c1 : i < refs.length
    · have c1b : decide ((i : Int) < (refs.length : Int)) = true := decide_eq_true (by omega)
      have c1c : decide (i < refs.length) = true := decide_eq_true c1
      have p5 : (0 ≤ (i : Int)) = True := eq_true (by omega)
      have p6 : ((i : Int) < (refs.length : Int)) = True := eq_true (by omega)
      obtain ⟨x, hx⟩ : ∃ x, x = rd refs (i : Int) := ⟨_, rfl⟩
      obtain ⟨ad, e1, hxa⟩ := Kd.at_int (Kd.C_below HC.out HB.out) (i : Int) (by omega) (by omega)
      cases e1
      rw [← hx, Int.toNat_natCast] at hxa
      have HXK := Aside0.mk (HRK.out x (by rw [hx]; unfold rd; rw [Int.toNat_natCast, List.getD_eq_getElem?_getD, List.getElem?_eq_getElem c1]; exact List.getElem_mem c1))
      have HI := Aside0.mk c1
      have HW := Aside0.mk (wrap_h c1 (by have := HRL.out; omega))
      obtain ⟨q1, q2⟩ := HSS.out _ HB.out
      clear c1 hx
      go_wp2_with fail
      refine (hp_Class w0 s x HXK.out _ (H.out.at_.step HB.out)).mono ?_
      rintro e w8 ⟨rfl, hb⟩
      replace HB := Aside0.mk (below_step HB.out hb)
      clear hb q1 q2
      obtain ⟨q1, q2⟩ := HSS.out _ HB.out
      go_wp2_with fail
      obtain ⟨F8, rb8, hdd, _⟩ := (H.out.step HB.out).doc
      have HDD := Aside0.mk hdd
      clear hdd
      refine (rf_Class w0 F8 d rb8 s H.out.like.m x HXK.out (by have := HN.out; omega) _ HDD.out).mono ?_
      rintro e w9 ⟨rfl, hb⟩
      replace HB := Aside0.mk (below_step HB.out hb)
      clear hb q1 q2 HDD
      obtain ⟨q1, q2⟩ := HSS.out _ HB.out
      go_wp2_with fail
      refine (hp_Len w0 s x HXK.out _ (H.out.at_.step HB.out)).mono ?_
      rintro e w10 ⟨rfl, hb⟩
      replace HB := Aside0.mk (below_step HB.out hb)
      clear hb q1 q2
      obtain ⟨q1, q2⟩ := HSS.out _ HB.out
      go_wp2_with fail
      obtain ⟨F10, rb10, hdd, _⟩ := (H.out.step HB.out).doc
      have HDD := Aside0.mk hdd
      clear hdd
      refine (rf_Len w0 F10 d rb10 s H.out.like.m x HXK.out (by have := HN.out; omega) _ HDD.out).mono ?_
      rintro e w11 ⟨rfl, hb⟩
      replace HB := Aside0.mk (below_step HB.out hb)
      clear hb q1 q2 HDD
      obtain ⟨q1, q2⟩ := HSS.out _ HB.out
      obtain ⟨lm, hlm⟩ : ∃ lm, lm = lenM s x := ⟨_, rfl⟩
      obtain ⟨cm, hcm⟩ : ∃ cm, cm = classM s x := ⟨_, rfl⟩
      rw [← hlm, ← hcm]
      clear hlm hcm
      obtain ⟨m0, m1⟩ := lm
      obtain ⟨k0, k1⟩ := cm
      obtain ⟨wy, rfl⟩ : ∃ wy, wy = wr := ⟨_, rfl⟩
      clear q1 q2 hxa
      go_wp2_with fail
      obtain ⟨mn, hmn⟩ : ∃ mn, (if 8 < m0 then (8 : Int) else m0) = mn := ⟨_, rfl⟩
      have HMN := Aside0.mk (show mn ≤ 8 by rw [← hmn]; split <;> omega)
      go_loopw [15] (fun v15 wr => ∃ (z : Int), v15 = .int .i64 z ∧ -1 ≤ z ∧ z ≤ 9 ∧ Aside0 (Below w1.heap.size w1 wr)) (fun v15 _ => ((10 : Int) - intOf v15).toNat)
      case atStart => exact ⟨-1, rfl, by omega, by omega, HB⟩
      case round =>
        clear HB
        obtain ⟨z, rfl, hz0, hz1, HB⟩ := hrel
        obtain ⟨q1, q2⟩ := HSS.out _ HB.out
        by_cases c2 : z ≤ mn
        · have c2b : decide (z ≤ mn) = true := decide_eq_true c2
          have HZ := Aside0.mk (show wrap64 (z + 1) = z + 1 ∧ -1 ≤ z + 1 ∧ z + 1 ≤ 9 by have := HMN.out; unfold wrap64; omega)
          clear c2 hz0 hz1
          go_wp2_with fail
          refine (hp_Get w0 s x z HXK.out _ (H.out.at_.step HB.out)).mono ?_
          rintro e w8 ⟨rfl, hb⟩
          replace HB := Aside0.mk (below_step HB.out hb)
          clear hb q1 q2
          obtain ⟨q1, q2⟩ := HSS.out _ HB.out
          go_wp2_with fail
          obtain ⟨F8, rb8, hdd, _⟩ := (H.out.step HB.out).doc
          have HDD := Aside0.mk hdd
          clear hdd
          refine (rf_Get w0 F8 d rb8 s H.out.like.m x z HXK.out (by have := HN.out; omega) _ HDD.out).mono ?_
          rintro e w9 ⟨rfl, hb⟩
          replace HB := Aside0.mk (below_step HB.out hb)
          clear hb q1 q2 HDD
          obtain ⟨gm, hgm⟩ : ∃ gm, gm = getM s x z := ⟨_, rfl⟩
          rw [← hgm]
          clear hgm
          obtain ⟨g0, g1⟩ := gm
          go_wp2_with fail
          go_roundw
          case rel => exact ⟨z + 1, (by rw [HZ.out.1]), HZ.out.2.1, HZ.out.2.2, HB⟩
          case measure => rw [HZ.out.1]; have := HZ.out; show ((10 : Int) - (z + 1)).toNat < ((10 : Int) - z).toNat; omega
        · have c2b : decide (z ≤ mn) = false := decide_eq_false c2
          clear c2 hz0 hz1
          go_wp2_with fail
          go_roundw
          case rel => exact ⟨i + 1, (by rw [HW.out]), HI.out, HB⟩
          case measure => exact meas_h HI.out HW.out
    · have c1b : decide ((i : Int) < (refs.length : Int)) = false := decide_eq_false (by omega)
      have c1c : decide (i < refs.length) = false := decide_eq_false c1
      clear c1 hi
      go_wp2_with fail
      go_ret
      exact ⟨rfl, below_then HB0.out HB0.out.size HB.out⟩
end Go.Proofs.YtkjagcamikkjkaaGreat.P

end

section
namespace Go.Proofs.YtkjagcamikkjkaaGreat.P
open Go.RowKit Go.Proofs.YtkjagcamikkjkaaGreatW.PrintWords Go.Proofs.YtkjagcamikkjkaaGreatW.PrintLast Go.Proofs.YtkjagcamikkjkaaGreatW.PrintMore
attribute [local go_sem] max2_int min2_int max_two min_two max_three min_three max_four min_four
set_option linter.unusedVariables false
set_option linter.unusedSimpArgs false
theorem blk_lt {W : World} {b : Nat} {x : Obj} (hx : W.heap[b]? = some x) : b < W.heap.size := by
  rcases Nat.lt_or_ge b W.heap.size with q | q
  · exact q
  · rw [Array.getElem?_eq_none q] at hx; cases hx
theorem C_mid {α : Type} {d : Kd α} {e a : Nat} {w W : World} {xs : List α} {A : Option Addr} {c : Nat} (hR : d.R e w a (fun _ => True) (.slice A xs.length c) xs) (h : ∀ k, a ≤ k → k < w.heap.size → W.heap[k]? = w.heap[k]?) : d.C W A xs.length xs := by
  have h1 : d.R e W a (fun k => a ≤ k) (.slice A xs.length c) xs := Kd.R_step (Kd.R_mono (Kd.R_bound hR) (fun k hk => hk.2.1)) (fun k hk hlt => h k hk hlt)
  obtain ⟨A', c', e9, _, h9⟩ := Kd.R_reads h1
  injection e9 with e9 _ _
  rw [e9]
  exact h9
theorem ActPost.of {w0 : World} {P Q : Nat → Prop} {s s3 s2 : HS} {d d2 : DS} {W w3 w5 : World} (hb : Below W.heap.size W w3) (h : Both w0 P s d W) (hB : Both w0 (fun k => P k ∨ Q k) s2 d2 w5) (h1 : s2.hb = s3.hb) (h2 : s3.hb = s.hb) (h3 : d2.db = d.db) (h4 : d2.obs.length ≤ d.obs.length + 1) (hk : ∀ k, P k ∨ Q k → w5.heap[k]? = w3.heap[k]?) : ActPost w0 P s d W w5 :=
  ⟨s2, d2, hB.less (fun k q => .inl q), h1.trans h2, h3, h4, fun k q => (hk k (.inl q)).trans (hb.block k (h.at_.fr_lt k (h.own k q)))⟩
set_option maxHeartbeats 3200000 in
set_option maxRecDepth 100000 in
theorem act_0 (w0 : World) (P : Nat → Prop) (s : HS) (d : DS) (W : World) (h : Both w0 P s d W) (hn9 : d.obs.length < 4398046511104) (A : Option Addr) (c : Nat) (roots : List Int) (hC : Kd.C (Kd.int .i64) w0 A roots.length roots) (hc : roots.length ≤ c) (hrk : ∀ y ∈ roots, I64 y) (hrl : roots.length < 17592186044416) (x y z : Int) (hx : I64 x) (hy : I64 y) (hz : I64 z) :
    Calls Tryz.prog 7 #[.agg #[.pointer (some ⟨s.hb, 0, none⟩), .pointer (some ⟨d.db, 0, none⟩)], .agg #[.int .i64 0, .int .i64 x, .int .i64 y, .int .i64 z, .slice A roots.length c]] W fun e w' => e = .returned (.bool true) ∧ ActPost w0 P s d W w' := by
  have H := Aside0.mk h
  have HN := Aside0.mk hn9
  have HC := Aside0.mk hC
  have HCC := Aside0.mk hc
  have HRK := Aside0.mk hrk
  have HRL := Aside0.mk hrl
  have HX9 := Aside0.mk hx
  have HY9 := Aside0.mk hy
  have HZ9 := Aside0.mk hz
  clear h hn9 hC hc hrk hrl hx hy hz
  go_enter Tryz.func7, Tryz.ntmps7
  go_wp2_with (first | ((with_reducible refine gate_dst (N := 2) rfl ?_); refine rw_box rfl 35 rfl (cs := #[.pointer (some ⟨s.hb, 0, none⟩), .pointer (some ⟨d.db, 0, none⟩)]) rfl (Rws.nil W) ?_; intro b2 w1 hX; have HX := Aside0.mk hX; clear hX) | ((with_reducible refine gate_dst (N := 3) rfl ?_); refine rw_box rfl 44 rfl (cs := #[.int .i64 0, .int .i64 x, .int .i64 y, .int .i64 z, .slice A roots.length c]) rfl HX.out ?_; intro b3 w2 hX; replace HX := Aside0.mk hX; clear hX; have f4 := blk_cell (HX.out.mem List.mem_cons_self) 4; simp only [List.getElem?_toArray, List.getElem?_cons_zero, List.getElem?_cons_succ] at f4))
  refine (slices_Clone_int_int.calls A c roots roots w2 (Kd.C_below HC.out (below_step H.out.at_.below HX.out.below)) HCC.out (by unfold slices_Clone_int_int.f; rw [if_pos HRL.out])).mono ?_
  rintro e w3 ⟨v3, rfl, hR, hb⟩
  have HW2 := Aside0.mk HX.out.below.size
  replace HX := Aside0.mk (HX.out.step hb)
  obtain ⟨A3, c3, e3, hc3, hC3⟩ := Kd.R_reads hR
  subst e3
  have HR3 := Aside0.mk hC3
  have HD3 := Aside0.mk hc3
  have HROW := Aside0.mk (Kd.R_lower hR HW2.out)
  clear f4 hb hR hC3 hc3
  have HO := Aside0.mk H.out
  have HBW := Aside0.mk HX.out.below
  obtain ⟨s3, hB3, hhb⟩ := H.out.freeze HBW.out
  replace H := Aside0.mk hB3
  rw [← hhb] at HX ⊢
  have HSS := Aside0.mk (show ∀ W' : World, (∀ k, P k ∨ (W.heap.size ≤ k ∧ k < w3.heap.size) → W'.heap[k]? = w3.heap[k]?) → W'.cell? ⟨b2, 0, none⟩ = some (.pointer (some ⟨s3.hb, 0, none⟩)) ∧ W'.cell? ⟨b2, 1, none⟩ = some (.pointer (some ⟨d.db, 0, none⟩)) ∧ W'.cell? ⟨b3, 0, none⟩ = some (.int .i64 0) ∧ W'.cell? ⟨b3, 1, none⟩ = some (.int .i64 x) ∧ W'.cell? ⟨b3, 2, none⟩ = some (.int .i64 y) ∧ W'.cell? ⟨b3, 3, none⟩ = some (.int .i64 z) ∧ W'.cell? ⟨b3, 4, none⟩ = some (.slice A roots.length c) from fun W' hW => by
    have h3 := HX.out.lies _ List.mem_cons_self
    have h2 := HX.out.lies _ (List.mem_cons_of_mem _ List.mem_cons_self)
    have g3 := (hW b3 (.inr ⟨h3.2, blk_lt h3.1⟩)).trans h3.1
    have g2 := (hW b2 (.inr ⟨h2.2, blk_lt h2.1⟩)).trans h2.1
    exact ⟨blk_cell g2 0, blk_cell g2 1, blk_cell g3 0, blk_cell g3 1, blk_cell g3 2, blk_cell g3 3, blk_cell g3 4⟩)
  have HHB := Aside0.mk hhb
  obtain ⟨q0, q1, q2, q3, q4, q5, q6⟩ := HSS.out w3 (fun _ _ => rfl)
  clear hB3 hhb HX
  go_wp2_with fail
  refine (hp_Record w0 s3 x _ (impl_fields' H.out.good x) (by have := HN.out; have := H.out.like.last; omega) w3 H.out.at_).mono ?_
  rintro e w4 ⟨rfl, hH⟩
  have HA := Aside0.mk (recordM_all s3 x)
  obtain ⟨⟨F, rb, hd4, hF⟩, hk4⟩ := H.out.half hH HA.out.1 HA.out.2.1
  have HH4 := Aside0.mk hH
  have HD4 := Aside0.mk hd4
  have HF4 := Aside0.mk hF
  have HK4 := Aside0.mk hk4
  clear hH hd4 hF q0 q1 q2 q3 q4 q5 q6
  obtain ⟨q0, q1, q2, q3, q4, q5, q6⟩ := HSS.out w4 hk4
  clear hk4
  go_wp2_with fail
  refine (rf_Record w0 F d rb s3 H.out.like HN.out (by rw [← H.out.like.l]; exact H.out.good) (by rw [← H.out.like.l]; exact H.out.sane) x w4 H.out.at_.num HD4.out).mono ?_
  rintro e w5 ⟨rfl, hp⟩
  obtain ⟨s2, d2, hB, g1, g2, g3, g4⟩ := H.out.turn HH4.out HA.out.1 HA.out.2.2.1 HF4.out HK4.out hp
  have HAP := Aside0.mk (ActPost.of HBW.out HO.out hB (g1.trans HA.out.2.2.2) HHB.out g2 g3 g4)
  clear hp hB g1 g2 g3 g4 q0 q1 q2 q3 q4 q5 q6
  obtain ⟨rm, hrm⟩ : ∃ rm, rm = recordM s3 x := ⟨_, rfl⟩
  rw [← hrm]
  clear hrm HA HH4
  obtain ⟨r0, r1, r2⟩ := rm
  go_wp2_with fail
  go_ret
  exact ⟨rfl, HAP.out⟩
set_option maxHeartbeats 3200000 in
set_option maxRecDepth 100000 in
theorem act_1 (w0 : World) (P : Nat → Prop) (s : HS) (d : DS) (W : World) (h : Both w0 P s d W) (hn9 : d.obs.length < 4398046511104) (A : Option Addr) (c : Nat) (roots : List Int) (hC : Kd.C (Kd.int .i64) w0 A roots.length roots) (hc : roots.length ≤ c) (hrk : ∀ y ∈ roots, I64 y) (hrl : roots.length < 17592186044416) (x y z : Int) (hx : I64 x) (hy : I64 y) (hz : I64 z) :
    Calls Tryz.prog 7 #[.agg #[.pointer (some ⟨s.hb, 0, none⟩), .pointer (some ⟨d.db, 0, none⟩)], .agg #[.int .i64 1, .int .i64 x, .int .i64 y, .int .i64 z, .slice A roots.length c]] W fun e w' => e = .returned (.bool true) ∧ ActPost w0 P s d W w' := by
  have H := Aside0.mk h
  have HN := Aside0.mk hn9
  have HC := Aside0.mk hC
  have HCC := Aside0.mk hc
  have HRK := Aside0.mk hrk
  have HRL := Aside0.mk hrl
  have HX9 := Aside0.mk hx
  have HY9 := Aside0.mk hy
  have HZ9 := Aside0.mk hz
  clear h hn9 hC hc hrk hrl hx hy hz
  go_enter Tryz.func7, Tryz.ntmps7
  go_wp2_with (first | ((with_reducible refine gate_dst (N := 2) rfl ?_); refine rw_box rfl 35 rfl (cs := #[.pointer (some ⟨s.hb, 0, none⟩), .pointer (some ⟨d.db, 0, none⟩)]) rfl (Rws.nil W) ?_; intro b2 w1 hX; have HX := Aside0.mk hX; clear hX) | ((with_reducible refine gate_dst (N := 3) rfl ?_); refine rw_box rfl 44 rfl (cs := #[.int .i64 1, .int .i64 x, .int .i64 y, .int .i64 z, .slice A roots.length c]) rfl HX.out ?_; intro b3 w2 hX; replace HX := Aside0.mk hX; clear hX; have f4 := blk_cell (HX.out.mem List.mem_cons_self) 4; simp only [List.getElem?_toArray, List.getElem?_cons_zero, List.getElem?_cons_succ] at f4))
  refine (slices_Clone_int_int.calls A c roots roots w2 (Kd.C_below HC.out (below_step H.out.at_.below HX.out.below)) HCC.out (by unfold slices_Clone_int_int.f; rw [if_pos HRL.out])).mono ?_
  rintro e w3 ⟨v3, rfl, hR, hb⟩
  have HW2 := Aside0.mk HX.out.below.size
  replace HX := Aside0.mk (HX.out.step hb)
  obtain ⟨A3, c3, e3, hc3, hC3⟩ := Kd.R_reads hR
  subst e3
  have HR3 := Aside0.mk hC3
  have HD3 := Aside0.mk hc3
  have HROW := Aside0.mk (Kd.R_lower hR HW2.out)
  clear f4 hb hR hC3 hc3
  have HO := Aside0.mk H.out
  have HBW := Aside0.mk HX.out.below
  obtain ⟨s3, hB3, hhb⟩ := H.out.freeze HBW.out
  replace H := Aside0.mk hB3
  rw [← hhb] at HX ⊢
  have HSS := Aside0.mk (show ∀ W' : World, (∀ k, P k ∨ (W.heap.size ≤ k ∧ k < w3.heap.size) → W'.heap[k]? = w3.heap[k]?) → W'.cell? ⟨b2, 0, none⟩ = some (.pointer (some ⟨s3.hb, 0, none⟩)) ∧ W'.cell? ⟨b2, 1, none⟩ = some (.pointer (some ⟨d.db, 0, none⟩)) ∧ W'.cell? ⟨b3, 0, none⟩ = some (.int .i64 1) ∧ W'.cell? ⟨b3, 1, none⟩ = some (.int .i64 x) ∧ W'.cell? ⟨b3, 2, none⟩ = some (.int .i64 y) ∧ W'.cell? ⟨b3, 3, none⟩ = some (.int .i64 z) ∧ W'.cell? ⟨b3, 4, none⟩ = some (.slice A roots.length c) from fun W' hW => by
    have h3 := HX.out.lies _ List.mem_cons_self
    have h2 := HX.out.lies _ (List.mem_cons_of_mem _ List.mem_cons_self)
    have g3 := (hW b3 (.inr ⟨h3.2, blk_lt h3.1⟩)).trans h3.1
    have g2 := (hW b2 (.inr ⟨h2.2, blk_lt h2.1⟩)).trans h2.1
    exact ⟨blk_cell g2 0, blk_cell g2 1, blk_cell g3 0, blk_cell g3 1, blk_cell g3 2, blk_cell g3 3, blk_cell g3 4⟩)
  have HHB := Aside0.mk hhb
  obtain ⟨q0, q1, q2, q3, q4, q5, q6⟩ := HSS.out w3 (fun _ _ => rfl)
  clear hB3 hhb HX
  go_wp2_with fail
  refine (hp_Row w0 s3 x HX9.out.2 (by have := HN.out; have := H.out.like.last; omega) w3 H.out.at_).mono ?_
  rintro e w4 ⟨rfl, hH⟩
  have HA := Aside0.mk (rowM_all s3 x)
  obtain ⟨⟨F, rb, hd4, hF⟩, hk4⟩ := H.out.half hH HA.out.1 HA.out.2.1
  have HH4 := Aside0.mk hH
  have HD4 := Aside0.mk hd4
  have HF4 := Aside0.mk hF
  have HK4 := Aside0.mk hk4
  clear hH hd4 hF q0 q1 q2 q3 q4 q5 q6
  obtain ⟨q0, q1, q2, q3, q4, q5, q6⟩ := HSS.out w4 hk4
  clear hk4
  go_wp2_with fail
  refine (rf_MakeRow w0 F d rb s3 H.out.like HN.out x HX9.out.2 w4 H.out.at_.num HD4.out).mono ?_
  rintro e w5 ⟨rfl, hp⟩
  obtain ⟨s2, d2, hB, g1, g2, g3, g4⟩ := H.out.turn HH4.out HA.out.1 HA.out.2.2.1 HF4.out HK4.out hp
  have HAP := Aside0.mk (ActPost.of HBW.out HO.out hB (g1.trans HA.out.2.2.2) HHB.out g2 g3 g4)
  clear hp hB g1 g2 g3 g4 q0 q1 q2 q3 q4 q5 q6
  obtain ⟨rm, hrm⟩ : ∃ rm, rm = rowM s3 x := ⟨_, rfl⟩
  rw [← hrm]
  clear hrm HA HH4
  obtain ⟨r0, r1, r2⟩ := rm
  go_wp2_with fail
  go_ret
  exact ⟨rfl, HAP.out⟩
set_option maxHeartbeats 3200000 in
set_option maxRecDepth 100000 in
theorem act_2 (w0 : World) (P : Nat → Prop) (s : HS) (d : DS) (W : World) (h : Both w0 P s d W) (hn9 : d.obs.length < 4398046511104) (A : Option Addr) (c : Nat) (roots : List Int) (hC : Kd.C (Kd.int .i64) w0 A roots.length roots) (hc : roots.length ≤ c) (hrk : ∀ y ∈ roots, I64 y) (hrl : roots.length < 17592186044416) (x y z : Int) (hx : I64 x) (hy : I64 y) (hz : I64 z) :
    Calls Tryz.prog 7 #[.agg #[.pointer (some ⟨s.hb, 0, none⟩), .pointer (some ⟨d.db, 0, none⟩)], .agg #[.int .i64 2, .int .i64 x, .int .i64 y, .int .i64 z, .slice A roots.length c]] W fun e w' => e = .returned (.bool true) ∧ ActPost w0 P s d W w' := by
  have H := Aside0.mk h
  have HN := Aside0.mk hn9
  have HC := Aside0.mk hC
  have HCC := Aside0.mk hc
  have HRK := Aside0.mk hrk
  have HRL := Aside0.mk hrl
  have HX9 := Aside0.mk hx
  have HY9 := Aside0.mk hy
  have HZ9 := Aside0.mk hz
  clear h hn9 hC hc hrk hrl hx hy hz
  go_enter Tryz.func7, Tryz.ntmps7
  go_wp2_with (first | ((with_reducible refine gate_dst (N := 2) rfl ?_); refine rw_box rfl 35 rfl (cs := #[.pointer (some ⟨s.hb, 0, none⟩), .pointer (some ⟨d.db, 0, none⟩)]) rfl (Rws.nil W) ?_; intro b2 w1 hX; have HX := Aside0.mk hX; clear hX) | ((with_reducible refine gate_dst (N := 3) rfl ?_); refine rw_box rfl 44 rfl (cs := #[.int .i64 2, .int .i64 x, .int .i64 y, .int .i64 z, .slice A roots.length c]) rfl HX.out ?_; intro b3 w2 hX; replace HX := Aside0.mk hX; clear hX; have f4 := blk_cell (HX.out.mem List.mem_cons_self) 4; simp only [List.getElem?_toArray, List.getElem?_cons_zero, List.getElem?_cons_succ] at f4))
  refine (slices_Clone_int_int.calls A c roots roots w2 (Kd.C_below HC.out (below_step H.out.at_.below HX.out.below)) HCC.out (by unfold slices_Clone_int_int.f; rw [if_pos HRL.out])).mono ?_
  rintro e w3 ⟨v3, rfl, hR, hb⟩
  have HW2 := Aside0.mk HX.out.below.size
  replace HX := Aside0.mk (HX.out.step hb)
  obtain ⟨A3, c3, e3, hc3, hC3⟩ := Kd.R_reads hR
  subst e3
  have HR3 := Aside0.mk hC3
  have HD3 := Aside0.mk hc3
  have HROW := Aside0.mk (Kd.R_lower hR HW2.out)
  clear f4 hb hR hC3 hc3
  have HO := Aside0.mk H.out
  have HBW := Aside0.mk HX.out.below
  obtain ⟨s3, hB3, hhb⟩ := H.out.freeze HBW.out
  replace H := Aside0.mk hB3
  rw [← hhb] at HX ⊢
  have HSS := Aside0.mk (show ∀ W' : World, (∀ k, P k ∨ (W.heap.size ≤ k ∧ k < w3.heap.size) → W'.heap[k]? = w3.heap[k]?) → W'.cell? ⟨b2, 0, none⟩ = some (.pointer (some ⟨s3.hb, 0, none⟩)) ∧ W'.cell? ⟨b2, 1, none⟩ = some (.pointer (some ⟨d.db, 0, none⟩)) ∧ W'.cell? ⟨b3, 0, none⟩ = some (.int .i64 2) ∧ W'.cell? ⟨b3, 1, none⟩ = some (.int .i64 x) ∧ W'.cell? ⟨b3, 2, none⟩ = some (.int .i64 y) ∧ W'.cell? ⟨b3, 3, none⟩ = some (.int .i64 z) ∧ W'.cell? ⟨b3, 4, none⟩ = some (.slice A roots.length c) from fun W' hW => by
    have h3 := HX.out.lies _ List.mem_cons_self
    have h2 := HX.out.lies _ (List.mem_cons_of_mem _ List.mem_cons_self)
    have g3 := (hW b3 (.inr ⟨h3.2, blk_lt h3.1⟩)).trans h3.1
    have g2 := (hW b2 (.inr ⟨h2.2, blk_lt h2.1⟩)).trans h2.1
    exact ⟨blk_cell g2 0, blk_cell g2 1, blk_cell g3 0, blk_cell g3 1, blk_cell g3 2, blk_cell g3 3, blk_cell g3 4⟩)
  have HHB := Aside0.mk hhb
  obtain ⟨q0, q1, q2, q3, q4, q5, q6⟩ := HSS.out w3 (fun _ _ => rfl)
  clear hB3 hhb HX
  go_wp2_with fail
  refine (hp_Get w0 s3 x y HX9.out w3 H.out.at_).mono ?_
  rintro e w4 ⟨rfl, hb⟩
  have HB4 := Aside0.mk hb
  replace HSS := Aside0.mk (HSS.out w4 (fun k hk => hb.block k (H.out.at_.fr_lt k (H.out.own k hk))))
  clear hb q0 q1 q2 q3 q4 q5 q6
  obtain ⟨q0, q1, q2, q3, q4, q5, q6⟩ := HSS.out
  obtain ⟨F, rb, hd4, _⟩ := (H.out.step HB4.out).doc
  have HD4 := Aside0.mk hd4
  clear hd4
  go_wp2_with fail
  refine (rf_Get w0 F d rb s3 H.out.like.m x y HX9.out (by have := HN.out; omega) w4 HD4.out).mono ?_
  rintro e w5 ⟨rfl, hb⟩
  have HB5 := Aside0.mk (below_step HB4.out hb)
  clear hb q0 q1 q2 q3 q4 q5 q6
  obtain ⟨rm, hrm⟩ : ∃ rm, rm = getM s3 x y := ⟨_, rfl⟩
  rw [← hrm]
  clear hrm
  obtain ⟨r0, r1⟩ := rm
  go_wp2_with fail
  go_ret
  exact ⟨rfl, ActPost.of HBW.out HO.out (H.out.step HB5.out) rfl HHB.out rfl (Nat.le_succ _) (fun k hk => HB5.out.block k (H.out.at_.fr_lt k (H.out.own k hk)))⟩
set_option maxHeartbeats 3200000 in
set_option maxRecDepth 100000 in
theorem act_4 (w0 : World) (P : Nat → Prop) (s : HS) (d : DS) (W : World) (h : Both w0 P s d W) (hn9 : d.obs.length < 4398046511104) (A : Option Addr) (c : Nat) (roots : List Int) (hC : Kd.C (Kd.int .i64) w0 A roots.length roots) (hc : roots.length ≤ c) (hrk : ∀ y ∈ roots, I64 y) (hrl : roots.length < 17592186044416) (x y z : Int) (hx : I64 x) (hy : I64 y) (hz : I64 z) :
    Calls Tryz.prog 7 #[.agg #[.pointer (some ⟨s.hb, 0, none⟩), .pointer (some ⟨d.db, 0, none⟩)], .agg #[.int .i64 4, .int .i64 x, .int .i64 y, .int .i64 z, .slice A roots.length c]] W fun e w' => e = .returned (.bool true) ∧ ActPost w0 P s d W w' := by
  have H := Aside0.mk h
  have HN := Aside0.mk hn9
  have HC := Aside0.mk hC
  have HCC := Aside0.mk hc
  have HRK := Aside0.mk hrk
  have HRL := Aside0.mk hrl
  have HX9 := Aside0.mk hx
  have HY9 := Aside0.mk hy
  have HZ9 := Aside0.mk hz
  clear h hn9 hC hc hrk hrl hx hy hz
  go_enter Tryz.func7, Tryz.ntmps7
  go_wp2_with (first | ((with_reducible refine gate_dst (N := 2) rfl ?_); refine rw_box rfl 35 rfl (cs := #[.pointer (some ⟨s.hb, 0, none⟩), .pointer (some ⟨d.db, 0, none⟩)]) rfl (Rws.nil W) ?_; intro b2 w1 hX; have HX := Aside0.mk hX; clear hX) | ((with_reducible refine gate_dst (N := 3) rfl ?_); refine rw_box rfl 44 rfl (cs := #[.int .i64 4, .int .i64 x, .int .i64 y, .int .i64 z, .slice A roots.length c]) rfl HX.out ?_; intro b3 w2 hX; replace HX := Aside0.mk hX; clear hX; have f4 := blk_cell (HX.out.mem List.mem_cons_self) 4; simp only [List.getElem?_toArray, List.getElem?_cons_zero, List.getElem?_cons_succ] at f4))
  refine (slices_Clone_int_int.calls A c roots roots w2 (Kd.C_below HC.out (below_step H.out.at_.below HX.out.below)) HCC.out (by unfold slices_Clone_int_int.f; rw [if_pos HRL.out])).mono ?_
  rintro e w3 ⟨v3, rfl, hR, hb⟩
  have HW2 := Aside0.mk HX.out.below.size
  replace HX := Aside0.mk (HX.out.step hb)
  obtain ⟨A3, c3, e3, hc3, hC3⟩ := Kd.R_reads hR
  subst e3
  have HR3 := Aside0.mk hC3
  have HD3 := Aside0.mk hc3
  have HROW := Aside0.mk (Kd.R_lower hR HW2.out)
  clear f4 hb hR hC3 hc3
  have HO := Aside0.mk H.out
  have HBW := Aside0.mk HX.out.below
  obtain ⟨s3, hB3, hhb⟩ := H.out.freeze HBW.out
  replace H := Aside0.mk hB3
  rw [← hhb] at HX ⊢
  have HSS := Aside0.mk (show ∀ W' : World, (∀ k, P k ∨ (W.heap.size ≤ k ∧ k < w3.heap.size) → W'.heap[k]? = w3.heap[k]?) → W'.cell? ⟨b2, 0, none⟩ = some (.pointer (some ⟨s3.hb, 0, none⟩)) ∧ W'.cell? ⟨b2, 1, none⟩ = some (.pointer (some ⟨d.db, 0, none⟩)) ∧ W'.cell? ⟨b3, 0, none⟩ = some (.int .i64 4) ∧ W'.cell? ⟨b3, 1, none⟩ = some (.int .i64 x) ∧ W'.cell? ⟨b3, 2, none⟩ = some (.int .i64 y) ∧ W'.cell? ⟨b3, 3, none⟩ = some (.int .i64 z) ∧ W'.cell? ⟨b3, 4, none⟩ = some (.slice A roots.length c) from fun W' hW => by
    have h3 := HX.out.lies _ List.mem_cons_self
    have h2 := HX.out.lies _ (List.mem_cons_of_mem _ List.mem_cons_self)
    have g3 := (hW b3 (.inr ⟨h3.2, blk_lt h3.1⟩)).trans h3.1
    have g2 := (hW b2 (.inr ⟨h2.2, blk_lt h2.1⟩)).trans h2.1
    exact ⟨blk_cell g2 0, blk_cell g2 1, blk_cell g3 0, blk_cell g3 1, blk_cell g3 2, blk_cell g3 3, blk_cell g3 4⟩)
  have HHB := Aside0.mk hhb
  obtain ⟨q0, q1, q2, q3, q4, q5, q6⟩ := HSS.out w3 (fun _ _ => rfl)
  clear hB3 hhb HX
  go_wp2_with fail
  refine (hp_Len w0 s3 x HX9.out w3 H.out.at_).mono ?_
  rintro e w4 ⟨rfl, hb⟩
  have HB4 := Aside0.mk hb
  replace HSS := Aside0.mk (HSS.out w4 (fun k hk => hb.block k (H.out.at_.fr_lt k (H.out.own k hk))))
  clear hb q0 q1 q2 q3 q4 q5 q6
  obtain ⟨q0, q1, q2, q3, q4, q5, q6⟩ := HSS.out
  obtain ⟨F, rb, hd4, _⟩ := (H.out.step HB4.out).doc
  have HD4 := Aside0.mk hd4
  clear hd4
  go_wp2_with fail
  refine (rf_Len w0 F d rb s3 H.out.like.m x HX9.out (by have := HN.out; omega) w4 HD4.out).mono ?_
  rintro e w5 ⟨rfl, hb⟩
  have HB5 := Aside0.mk (below_step HB4.out hb)
  clear hb q0 q1 q2 q3 q4 q5 q6
  obtain ⟨rm, hrm⟩ : ∃ rm, rm = lenM s3 x := ⟨_, rfl⟩
  rw [← hrm]
  clear hrm
  obtain ⟨r0, r1⟩ := rm
  go_wp2_with fail
  go_ret
  exact ⟨rfl, ActPost.of HBW.out HO.out (H.out.step HB5.out) rfl HHB.out rfl (Nat.le_succ _) (fun k hk => HB5.out.block k (H.out.at_.fr_lt k (H.out.own k hk)))⟩
end Go.Proofs.YtkjagcamikkjkaaGreat.P

end

section
namespace Go.Proofs.YtkjagcamikkjkaaGreat.P
open Go.RowKit Go.Proofs.YtkjagcamikkjkaaGreatW.PrintWords Go.Proofs.YtkjagcamikkjkaaGreatW.PrintLast Go.Proofs.YtkjagcamikkjkaaGreatW.PrintMore
attribute [local go_sem] max2_int min2_int max_two min_two max_three min_three max_four min_four
set_option linter.unusedVariables false
set_option linter.unusedSimpArgs false
set_option maxHeartbeats 3200000 in
set_option maxRecDepth 100000 in
theorem act_3 (w0 : World) (P : Nat → Prop) (s : HS) (d : DS) (W : World) (h : Both w0 P s d W) (hn9 : d.obs.length < 4398046511104) (A : Option Addr) (c : Nat) (roots : List Int) (hC : Kd.C (Kd.int .i64) w0 A roots.length roots) (hc : roots.length ≤ c) (hrk : ∀ y ∈ roots, I64 y) (hrl : roots.length < 17592186044416) (x y z : Int) (hx : I64 x) (hy : I64 y) (hz : I64 z) :
    Calls Tryz.prog 7 #[.agg #[.pointer (some ⟨s.hb, 0, none⟩), .pointer (some ⟨d.db, 0, none⟩)], .agg #[.int .i64 3, .int .i64 x, .int .i64 y, .int .i64 z, .slice A roots.length c]] W fun e w' => e = .returned (.bool true) ∧ ActPost w0 P s d W w' := by
  have H := Aside0.mk h
  have HN := Aside0.mk hn9
  have HC := Aside0.mk hC
  have HCC := Aside0.mk hc
  have HRK := Aside0.mk hrk
  have HRL := Aside0.mk hrl
  have HX9 := Aside0.mk hx
  have HY9 := Aside0.mk hy
  have HZ9 := Aside0.mk hz
  clear h hn9 hC hc hrk hrl hx hy hz
  go_enter Tryz.func7, Tryz.ntmps7
  go_wp2_with (first | ((with_reducible refine gate_dst (N := 2) rfl ?_); refine rw_box rfl 35 rfl (cs := #[.pointer (some ⟨s.hb, 0, none⟩), .pointer (some ⟨d.db, 0, none⟩)]) rfl (Rws.nil W) ?_; intro b2 w1 hX; have HX := Aside0.mk hX; clear hX) | ((with_reducible refine gate_dst (N := 3) rfl ?_); refine rw_box rfl 44 rfl (cs := #[.int .i64 3, .int .i64 x, .int .i64 y, .int .i64 z, .slice A roots.length c]) rfl HX.out ?_; intro b3 w2 hX; replace HX := Aside0.mk hX; clear hX; have f4 := blk_cell (HX.out.mem List.mem_cons_self) 4; simp only [List.getElem?_toArray, List.getElem?_cons_zero, List.getElem?_cons_succ] at f4))
  refine (slices_Clone_int_int.calls A c roots roots w2 (Kd.C_below HC.out (below_step H.out.at_.below HX.out.below)) HCC.out (by unfold slices_Clone_int_int.f; rw [if_pos HRL.out])).mono ?_
  rintro e w3 ⟨v3, rfl, hR, hb⟩
  have HW2 := Aside0.mk HX.out.below.size
  replace HX := Aside0.mk (HX.out.step hb)
  obtain ⟨A3, c3, e3, hc3, hC3⟩ := Kd.R_reads hR
  subst e3
  have HR3 := Aside0.mk hC3
  have HD3 := Aside0.mk hc3
  have HROW := Aside0.mk (Kd.R_lower hR HW2.out)
  clear f4 hb hR hC3 hc3
  have HO := Aside0.mk H.out
  have HBW := Aside0.mk HX.out.below
  obtain ⟨s3, hB3, hhb⟩ := H.out.freeze HBW.out
  replace H := Aside0.mk hB3
  rw [← hhb] at HX ⊢
  have HSS := Aside0.mk (show ∀ W' : World, (∀ k, P k ∨ (W.heap.size ≤ k ∧ k < w3.heap.size) → W'.heap[k]? = w3.heap[k]?) → W'.cell? ⟨b2, 0, none⟩ = some (.pointer (some ⟨s3.hb, 0, none⟩)) ∧ W'.cell? ⟨b2, 1, none⟩ = some (.pointer (some ⟨d.db, 0, none⟩)) ∧ W'.cell? ⟨b3, 0, none⟩ = some (.int .i64 3) ∧ W'.cell? ⟨b3, 1, none⟩ = some (.int .i64 x) ∧ W'.cell? ⟨b3, 2, none⟩ = some (.int .i64 y) ∧ W'.cell? ⟨b3, 3, none⟩ = some (.int .i64 z) ∧ W'.cell? ⟨b3, 4, none⟩ = some (.slice A roots.length c) from fun W' hW => by
    have h3 := HX.out.lies _ List.mem_cons_self
    have h2 := HX.out.lies _ (List.mem_cons_of_mem _ List.mem_cons_self)
    have g3 := (hW b3 (.inr ⟨h3.2, blk_lt h3.1⟩)).trans h3.1
    have g2 := (hW b2 (.inr ⟨h2.2, blk_lt h2.1⟩)).trans h2.1
    exact ⟨blk_cell g2 0, blk_cell g2 1, blk_cell g3 0, blk_cell g3 1, blk_cell g3 2, blk_cell g3 3, blk_cell g3 4⟩)
  have HHB := Aside0.mk hhb
  obtain ⟨q0, q1, q2, q3, q4, q5, q6⟩ := HSS.out w3 (fun _ _ => rfl)
  clear hB3 hhb HX
  go_wp2_with fail
  (try simp only [Act.put, List.setIfInBounds_toArray, List.set_cons_zero, List.set_cons_succ])
  refine wp_region_held_drew (S := fun w' => w'.cell? ⟨b2, 0, none⟩ = some (.pointer (some ⟨s3.hb, 0, none⟩)) ∧ w'.cell? ⟨b2, 1, none⟩ = some (.pointer (some ⟨d.db, 0, none⟩)) ∧ w'.cell? ⟨b3, 1, none⟩ = some (.int .i64 x) ∧ w'.cell? ⟨b3, 2, none⟩ = some (.int .i64 y) ∧ w'.cell? ⟨b3, 3, none⟩ = some (.int .i64 z)) (by kernel_rfl) ?_ (fun hHeld => ?_)
  · have h9 := HSS.out w3.drew (fun k hk => (pw_below_drewN (Below.refl w3.heap.size w3) 1).block k (H.out.at_.fr_lt k (H.out.own k hk)))
    exact ⟨h9.1, h9.2.1, h9.2.2.2.1, h9.2.2.2.2.1, h9.2.2.2.2.2.1⟩
  have HBD := Aside0.mk (pw_below_drewN (Below.refl w3.heap.size w3) 1)
  have HK3 := Aside0.mk (show ∀ k, P k ∨ (W.heap.size ≤ k ∧ k < w3.heap.size) → w3.drew.heap[k]? = w3.heap[k]? from fun k hk => HBD.out.block k (H.out.at_.fr_lt k (H.out.own k hk)))
  replace H := Aside0.mk (show Both w0 (fun k => P k ∨ W.heap.size ≤ k ∧ k < w3.heap.size) s3 d w3.drew from H.out.step HBD.out)
  clear q0 q1 q2 q3 q4 q5 q6
  refine take_dst (i := 0) (v := ?_) 121 rfl rfl (by kernel_rfl) (by kernel_rfl) (by kernel_rfl) (fun _ _ _ h => h) (Or.inl ⟨by rfl, ?_⟩) (by assumption) ?_
  rotate_left
  · intro w hSw
    obtain ⟨s1, s2, s3_, s4, s5⟩ := hSw
    go_simp
    try with_reducible rfl
  (try simp only [Act.put, List.setIfInBounds_toArray, List.set_cons_zero, List.set_cons_succ])
  refine take_dst (i := 1) (v := ?_) 122 rfl rfl (by kernel_rfl) (by kernel_rfl) (by kernel_rfl) (fun _ _ _ h => h) (Or.inl ⟨by rfl, ?_⟩) (by assumption) ?_
  rotate_left
  · intro w hSw
    obtain ⟨s1, s2, s3_, s4, s5⟩ := hSw
    go_simp
    try with_reducible rfl
  (try simp only [Act.put, List.setIfInBounds_toArray, List.set_cons_zero, List.set_cons_succ])
  refine take_dst (i := 2) (v := ?_) 123 rfl rfl (by kernel_rfl) (by kernel_rfl) (by kernel_rfl) (fun _ _ _ h => h) (Or.inl ⟨by rfl, ?_⟩) (by assumption) ?_
  rotate_left
  · intro w hSw
    obtain ⟨s1, s2, s3_, s4, s5⟩ := hSw
    go_simp
    try with_reducible rfl
  (try simp only [Act.put, List.setIfInBounds_toArray, List.set_cons_zero, List.set_cons_succ])
  refine take_dst (i := 3) (v := ?_) 124 rfl rfl (by kernel_rfl) (by kernel_rfl) (by kernel_rfl) (fun _ _ _ h => h) (Or.inl ⟨by rfl, ?_⟩) (by assumption) ?_
  rotate_left
  · intro w hSw
    obtain ⟨s1, s2, s3_, s4, s5⟩ := hSw
    go_simp
    try with_reducible rfl
  (try simp only [Act.put, List.setIfInBounds_toArray, List.set_cons_zero, List.set_cons_succ])
  refine take_dst (i := 4) (v := ?_) 125 rfl rfl (by kernel_rfl) (by kernel_rfl) (by kernel_rfl) (fun _ _ _ h => h) (Or.inl ⟨by rfl, ?_⟩) (by assumption) ?_
  rotate_left
  · intro w hSw
    obtain ⟨s1, s2, s3_, s4, s5⟩ := hSw
    go_simp
    try with_reducible rfl
  (try simp only [Act.put, List.setIfInBounds_toArray, List.set_cons_zero, List.set_cons_succ])
  refine take_dst (i := 5) (v := ?_) 126 rfl rfl (by kernel_rfl) (by kernel_rfl) (by kernel_rfl) (fun _ _ _ h => h) (Or.inl ⟨by rfl, ?_⟩) (by assumption) ?_
  rotate_left
  · intro w hSw
    obtain ⟨s1, s2, s3_, s4, s5⟩ := hSw
    go_simp
    try with_reducible rfl
  (try simp only [Act.put, List.setIfInBounds_toArray, List.set_cons_zero, List.set_cons_succ])
  refine take_dst (i := 6) (v := ?_) 127 rfl rfl (by kernel_rfl) (by kernel_rfl) (by kernel_rfl) (fun _ _ _ h => h) (Or.inl ⟨by rfl, ?_⟩) (by assumption) ?_
  rotate_left
  · intro w hSw
    obtain ⟨s1, s2, s3_, s4, s5⟩ := hSw
    go_simp
    try with_reducible rfl
  (try simp only [Act.put, List.setIfInBounds_toArray, List.set_cons_zero, List.set_cons_succ])
  refine take_dst (i := 7) (v := ?_) 128 rfl rfl (by kernel_rfl) (by kernel_rfl) (by kernel_rfl) (fun _ _ _ h => h) (Or.inl ⟨by rfl, ?_⟩) (by assumption) ?_
  rotate_left
  · intro w hSw
    obtain ⟨s1, s2, s3_, s4, s5⟩ := hSw
    go_simp
    try with_reducible rfl
  (try simp only [Act.put, List.setIfInBounds_toArray, List.set_cons_zero, List.set_cons_succ])
  refine take_dst (i := 9) (v := ?_) 130 rfl rfl (by kernel_rfl) (by kernel_rfl) (by kernel_rfl) (fun _ _ _ h => h) (Or.inl ⟨by rfl, ?_⟩) (by assumption) ?_
  rotate_left
  · intro w hSw
    obtain ⟨s1, s2, s3_, s4, s5⟩ := hSw
    go_simp
    try with_reducible rfl
  (try simp only [Act.put, List.setIfInBounds_toArray, List.set_cons_zero, List.set_cons_succ])
  refine take_dst (i := 10) (v := ?_) 131 rfl rfl (by kernel_rfl) (by kernel_rfl) (by kernel_rfl) (fun _ _ _ h => h) (Or.inl ⟨by rfl, ?_⟩) (by assumption) ?_
  rotate_left
  · intro w hSw
    obtain ⟨s1, s2, s3_, s4, s5⟩ := hSw
    go_simp
    try with_reducible rfl
  (try simp only [Act.put, List.setIfInBounds_toArray, List.set_cons_zero, List.set_cons_succ])
  refine take_dst (i := 11) (v := ?_) 132 rfl rfl (by kernel_rfl) (by kernel_rfl) (by kernel_rfl) (fun _ _ _ h => h) (Or.inl ⟨by rfl, ?_⟩) (by assumption) ?_
  rotate_left
  · intro w hSw
    obtain ⟨s1, s2, s3_, s4, s5⟩ := hSw
    go_simp
    try with_reducible rfl
  (try simp only [Act.put, List.setIfInBounds_toArray, List.set_cons_zero, List.set_cons_succ])
  refine take_dst (i := 12) (v := ?_) 133 rfl rfl (by kernel_rfl) (by kernel_rfl) (by kernel_rfl) (fun _ _ _ h => h) (Or.inl ⟨by rfl, ?_⟩) (by assumption) ?_
  rotate_left
  · intro w hSw
    obtain ⟨s1, s2, s3_, s4, s5⟩ := hSw
    go_simp
    try with_reducible rfl
  (try simp only [Act.put, List.setIfInBounds_toArray, List.set_cons_zero, List.set_cons_succ])
  refine take_dst (i := 13) (v := ?_) 134 rfl rfl (by kernel_rfl) (by kernel_rfl) (by kernel_rfl) (fun _ _ _ h => h) (Or.inl ⟨by rfl, ?_⟩) (by assumption) ?_
  rotate_left
  · intro w hSw
    obtain ⟨s1, s2, s3_, s4, s5⟩ := hSw
    go_simp
    try with_reducible rfl
  (try simp only [Act.put, List.setIfInBounds_toArray, List.set_cons_zero, List.set_cons_succ])
  refine take_dst (i := 14) (v := ?_) 135 rfl rfl (by kernel_rfl) (by kernel_rfl) (by kernel_rfl) (fun _ _ _ h => h) (Or.inl ⟨by rfl, ?_⟩) (by assumption) ?_
  rotate_left
  · intro w hSw
    obtain ⟨s1, s2, s3_, s4, s5⟩ := hSw
    go_simp
    try with_reducible rfl
  (try simp only [Act.put, List.setIfInBounds_toArray, List.set_cons_zero, List.set_cons_succ])
  refine take_dst (i := 15) (v := ?_) 136 rfl rfl (by kernel_rfl) (by kernel_rfl) (by kernel_rfl) (fun _ _ _ h => h) (Or.inl ⟨by rfl, ?_⟩) (by assumption) ?_
  rotate_left
  · intro w hSw
    obtain ⟨s1, s2, s3_, s4, s5⟩ := hSw
    go_simp
    try with_reducible rfl
  (try simp only [Act.put, List.setIfInBounds_toArray, List.set_cons_zero, List.set_cons_succ])
  refine take_dst (i := 16) (v := ?_) 137 rfl rfl (by kernel_rfl) (by kernel_rfl) (by kernel_rfl) (fun _ _ _ h => h) (Or.inl ⟨by rfl, ?_⟩) (by assumption) ?_
  rotate_left
  · intro w hSw
    obtain ⟨s1, s2, s3_, s4, s5⟩ := hSw
    go_simp
    try with_reducible rfl
  (try simp only [Act.put, List.setIfInBounds_toArray, List.set_cons_zero, List.set_cons_succ])
  refine wpAnyH_ready (rs := [8]) (by kernel_rfl) (by simp) ?_
  refine AllReadyH.cons rfl (fun K hK => ?_) AllReadyH.nil
  go_simp
  have hcall := hp_Put w0 s3 x y z HX9.out w3.drew H.out.at_
  refine hcall.mono ?_
  clear hcall
  rintro e w4 ⟨rfl, hH⟩
  have HA := Aside0.mk (putM_all s3 x y z)
  obtain ⟨⟨F, rb, hd4, hF⟩, hk4⟩ := H.out.half hH HA.out.1 HA.out.2.1
  have HH4 := Aside0.mk hH
  have HD4 := Aside0.mk hd4
  have HF4 := Aside0.mk hF
  have HK4 := Aside0.mk hk4
  clear hH hd4 hF hk4
  go_simp
  refine hK.out _ _ (by have h9 := HSS.out w4 (fun k hk => (HK4.out k hk).trans (HK3.out k hk)); exact ⟨h9.1, h9.2.1, h9.2.2.2.1, h9.2.2.2.2.1, h9.2.2.2.2.2.1⟩) (fun hHeld => ?_)
  (try simp only [Act.put, List.setIfInBounds_toArray, List.set_cons_zero, List.set_cons_succ])
  clear hK K
  refine wpAnyH_ready (rs := [17]) (by kernel_rfl) (by simp) ?_
  refine AllReadyH.cons rfl (fun K hK => ?_) AllReadyH.nil
  go_simp
  have hcall := rf_Put w0 F d rb s3 H.out.like HN.out x y z HX9.out w4 HD4.out
  refine hcall.mono ?_
  clear hcall
  rintro e w5 ⟨rfl, hp⟩
  obtain ⟨s2, d2, hB, g1, g2, g3, g4⟩ := H.out.turn HH4.out HA.out.1 HA.out.2.2.1 HF4.out HK4.out hp
  have hk5 : ∀ k, P k ∨ (W.heap.size ≤ k ∧ k < w3.heap.size) → w5.heap[k]? = w3.heap[k]? := fun k hk => (g4 k hk).trans (HK3.out k hk)
  have HK5 := Aside0.mk hk5
  have HAP := Aside0.mk (ActPost.of HBW.out HO.out hB (g1.trans HA.out.2.2.2) HHB.out g2 g3 hk5)
  clear hp hB g1 g2 g3 g4 hk5
  go_simp
  refine hK.out _ _ (by have h9 := HSS.out w5 HK5.out; exact ⟨h9.1, h9.2.1, h9.2.2.2.1, h9.2.2.2.2.1, h9.2.2.2.2.2.1⟩) (fun hHeld => ?_)
  (try simp only [Act.put, List.setIfInBounds_toArray, List.set_cons_zero, List.set_cons_succ])
  clear hK K
  refine take_dst (i := 18) (v := ?_) 139 rfl rfl (by kernel_rfl) (by kernel_rfl) (by kernel_rfl) (fun _ _ _ h => h) (Or.inl ⟨by rfl, ?_⟩) (by assumption) ?_
  rotate_left
  · intro w hSw
    obtain ⟨s1, s2, s3_, s4, s5⟩ := hSw
    go_simp
    try with_reducible rfl
  (try simp only [Act.put, List.setIfInBounds_toArray, List.set_cons_zero, List.set_cons_succ])
  refine take_dst (i := 19) (v := ?_) 4 rfl rfl (by kernel_rfl) (by kernel_rfl) (by kernel_rfl) (fun _ _ _ h => h) (Or.inl ⟨by rfl, ?_⟩) (by assumption) ?_
  rotate_left
  · intro w hSw
    obtain ⟨s1, s2, s3_, s4, s5⟩ := hSw
    go_simp
    try with_reducible rfl
  (try simp only [Act.put, List.setIfInBounds_toArray, List.set_cons_zero, List.set_cons_succ])
  refine wpAnyH_done (by kernel_rfl) ?_ _
  go_wp2_with fail
  go_ret
  exact ⟨rfl, HAP.out⟩
end Go.Proofs.YtkjagcamikkjkaaGreat.P

end

section
namespace Go.Proofs.YtkjagcamikkjkaaGreat.P
open Go.RowKit Go.Proofs.YtkjagcamikkjkaaGreatW.PrintWords Go.Proofs.YtkjagcamikkjkaaGreatW.PrintLast Go.Proofs.YtkjagcamikkjkaaGreatW.PrintMore
attribute [local go_sem] max2_int min2_int max_two min_two max_three min_three max_four min_four
set_option linter.unusedVariables false
set_option linter.unusedSimpArgs false
theorem ActPost.step {w0 : World} {P : Nat → Prop} {s : HS} {d : DS} {W w' w2 : World} (h : ActPost w0 P s d W w') (hb : Below w'.heap.size w' w2) : ActPost w0 P s d W w2 := by
  obtain ⟨s', d', h1, h2, h3, h4, h5⟩ := h
  exact ⟨s', d', h1.step hb, h2, h3, h4, fun k hk => (hb.block k (h1.at_.fr_lt k (h1.own k hk))).trans (h5 k hk)⟩
set_option maxHeartbeats 3200000 in
set_option maxRecDepth 100000 in
theorem act_6 (w0 : World) (P : Nat → Prop) (s : HS) (d : DS) (W : World) (h : Both w0 P s d W) (hn9 : d.obs.length < 4398046511104) (A : Option Addr) (c : Nat) (roots : List Int) (hC : Kd.C (Kd.int .i64) w0 A roots.length roots) (hc : roots.length ≤ c) (hrk : ∀ y ∈ roots, I64 y) (hrl : roots.length < 17592186044416) (x y z : Int) (hx : I64 x) (hy : I64 y) (hz : I64 z) :
    Calls Tryz.prog 7 #[.agg #[.pointer (some ⟨s.hb, 0, none⟩), .pointer (some ⟨d.db, 0, none⟩)], .agg #[.int .i64 6, .int .i64 x, .int .i64 y, .int .i64 z, .slice A roots.length c]] W fun e w' => e = .returned (.bool true) ∧ ActPost w0 P s d W w' := by
  have H := Aside0.mk h
  have HN := Aside0.mk hn9
  have HC := Aside0.mk hC
  have HCC := Aside0.mk hc
  have HRK := Aside0.mk hrk
  have HRL := Aside0.mk hrl
  have HX9 := Aside0.mk hx
  have HY9 := Aside0.mk hy
  have HZ9 := Aside0.mk hz
  clear h hn9 hC hc hrk hrl hx hy hz
  go_enter Tryz.func7, Tryz.ntmps7
  go_wp2_with (first | ((with_reducible refine gate_dst (N := 2) rfl ?_); refine rw_box rfl 35 rfl (cs := #[.pointer (some ⟨s.hb, 0, none⟩), .pointer (some ⟨d.db, 0, none⟩)]) rfl (Rws.nil W) ?_; intro b2 w1 hX; have HX := Aside0.mk hX; clear hX) | ((with_reducible refine gate_dst (N := 3) rfl ?_); refine rw_box rfl 44 rfl (cs := #[.int .i64 6, .int .i64 x, .int .i64 y, .int .i64 z, .slice A roots.length c]) rfl HX.out ?_; intro b3 w2 hX; replace HX := Aside0.mk hX; clear hX; have f4 := blk_cell (HX.out.mem List.mem_cons_self) 4; simp only [List.getElem?_toArray, List.getElem?_cons_zero, List.getElem?_cons_succ] at f4))
  refine (slices_Clone_int_int.calls A c roots roots w2 (Kd.C_below HC.out (below_step H.out.at_.below HX.out.below)) HCC.out (by unfold slices_Clone_int_int.f; rw [if_pos HRL.out])).mono ?_
  rintro e w3 ⟨v3, rfl, hR, hb⟩
  have HW2 := Aside0.mk HX.out.below.size
  replace HX := Aside0.mk (HX.out.step hb)
  obtain ⟨A3, c3, e3, hc3, hC3⟩ := Kd.R_reads hR
  subst e3
  have HR3 := Aside0.mk hC3
  have HD3 := Aside0.mk hc3
  have HROW := Aside0.mk (Kd.R_lower hR HW2.out)
  clear f4 hb hR hC3 hc3
  have HO := Aside0.mk H.out
  have HBW := Aside0.mk HX.out.below
  obtain ⟨s3, hB3, hhb⟩ := H.out.freeze HBW.out
  replace H := Aside0.mk hB3
  rw [← hhb] at HX ⊢
  have HSS := Aside0.mk (show ∀ W' : World, (∀ k, P k ∨ (W.heap.size ≤ k ∧ k < w3.heap.size) → W'.heap[k]? = w3.heap[k]?) → W'.cell? ⟨b2, 0, none⟩ = some (.pointer (some ⟨s3.hb, 0, none⟩)) ∧ W'.cell? ⟨b2, 1, none⟩ = some (.pointer (some ⟨d.db, 0, none⟩)) ∧ W'.cell? ⟨b3, 0, none⟩ = some (.int .i64 6) ∧ W'.cell? ⟨b3, 1, none⟩ = some (.int .i64 x) ∧ W'.cell? ⟨b3, 2, none⟩ = some (.int .i64 y) ∧ W'.cell? ⟨b3, 3, none⟩ = some (.int .i64 z) ∧ W'.cell? ⟨b3, 4, none⟩ = some (.slice A roots.length c) from fun W' hW => by
    have h3 := HX.out.lies _ List.mem_cons_self
    have h2 := HX.out.lies _ (List.mem_cons_of_mem _ List.mem_cons_self)
    have g3 := (hW b3 (.inr ⟨h3.2, blk_lt h3.1⟩)).trans h3.1
    have g2 := (hW b2 (.inr ⟨h2.2, blk_lt h2.1⟩)).trans h2.1
    exact ⟨blk_cell g2 0, blk_cell g2 1, blk_cell g3 0, blk_cell g3 1, blk_cell g3 2, blk_cell g3 3, blk_cell g3 4⟩)
  have HHB := Aside0.mk hhb
  obtain ⟨q0, q1, q2, q3, q4, q5, q6⟩ := HSS.out w3 (fun _ _ => rfl)
  clear hB3 hhb HX
  go_wp2_with fail
  refine (hp_CollectS w0 s3 H.out.like.sum H.out.good (by have := HN.out; have := H.out.like.last; omega) A3 c3 roots w3 H.out.at_ HR3.out HRK.out HRL.out).mono ?_
  rintro e w4 (⟨hbad, rfl, hH⟩ | ⟨met, hbad, hre, rfl, hH⟩)
  · have HBD := Aside0.mk hbad
    clear hbad
    obtain ⟨⟨F, rb, hd4, hF⟩, hk4⟩ := H.out.half hH rfl rfl
    have HH4 := Aside0.mk hH
    have HD4 := Aside0.mk hd4
    have HF4 := Aside0.mk hF
    have HK4 := Aside0.mk hk4
    have HC4 := Aside0.mk (Kd.C_below HC.out hH.below)
    clear hH hd4 hF q0 q1 q2 q3 q4 q5 q6
    obtain ⟨q0, q1, q2, q3, q4, q5, q6⟩ := HSS.out w4 hk4
    clear hk4
    go_wp2_with fail
    refine (rf_Collect w0 F d rb s3 H.out.like HN.out H.out.at_.dom (by rw [← H.out.like.l]; exact H.out.good) (by rw [← H.out.like.l]; exact H.out.sane) A c roots w4 HC4.out HRK.out HRL.out HD4.out).mono ?_
    rintro e w5 (⟨_, rfl, hp⟩ | ⟨met2, hnb, _⟩)
    rotate_left
    · exact absurd HBD.out hnb
    obtain ⟨s2, d2, hB, g1, g2, g3, g4⟩ := H.out.turn HH4.out rfl rfl HF4.out HK4.out hp
    have HAP := Aside0.mk (ActPost.of HBW.out HO.out hB (g1.trans rfl) HHB.out g2 g3 g4)
    have HC5 := Aside0.mk (Kd.C_below HC.out hB.at_.below)
    have HR5 := Aside0.mk (C_mid (w := w3) (W := w5) HROW.out (fun k k1 k2 => g4 k (.inr ⟨k1, k2⟩)))
    clear q0 q1 q2 q3 q4 q5 q6
    obtain ⟨q0, q1, q2, q3, q4, q5, q6⟩ := HSS.out w5 g4
    clear hp hB g1 g2 g3 g4
    go_wp2_with fail
    refine (ct_EqualSelf A3 c3 A c roots w5 HR5.out HD3.out HC5.out HCC.out).mono ?_
    rintro e w6 ⟨rfl, hb⟩
    have HB6 := Aside0.mk hb
    clear hb q0 q1 q2 q3 q4 q5 q6
    go_wp2_with fail
    go_ret
    exact ⟨rfl, HAP.out.step HB6.out⟩
  · have HBD := Aside0.mk hbad
    have HRE := Aside0.mk hre
    clear hbad hre
    obtain ⟨⟨F, rb, hd4, hF⟩, hk4⟩ := H.out.half hH (colS_all s3 met).1 (colS_all s3 met).2.1
    have HH4 := Aside0.mk hH
    have HD4 := Aside0.mk hd4
    have HF4 := Aside0.mk hF
    have HK4 := Aside0.mk hk4
    have HC4 := Aside0.mk (Kd.C_below HC.out hH.below)
    clear hH hd4 hF q0 q1 q2 q3 q4 q5 q6
    obtain ⟨q0, q1, q2, q3, q4, q5, q6⟩ := HSS.out w4 hk4
    clear hk4
    go_wp2_with fail
    refine (rf_Collect w0 F d rb s3 H.out.like HN.out H.out.at_.dom (by rw [← H.out.like.l]; exact H.out.good) (by rw [← H.out.like.l]; exact H.out.sane) A c roots w4 HC4.out HRK.out HRL.out HD4.out).mono ?_
    rintro e w5 (⟨hb2, _⟩ | ⟨met2, _, hre2, rfl, hp⟩)
    · exact absurd hb2 HBD.out
    rw [colS_same (fun x => (HRE.out.same hre2 x).symm)] at hp
    rw [goC_same (fun x => (HRE.out.same hre2 x).symm)]
    clear hre2
    obtain ⟨gu, hgu⟩ : ∃ gu, gu = (goC met s3 0 (liveL s3)).1 := ⟨_, rfl⟩
    rw [← hgu]
    clear hgu
    obtain ⟨s2, d2, hB, g1, g2, g3, g4⟩ := H.out.turn HH4.out (colS_all s3 met).1 (colS_all s3 met).2.2.1 HF4.out HK4.out hp
    have HAP := Aside0.mk (ActPost.of HBW.out HO.out hB (g1.trans (colS_all s3 met).2.2.2) HHB.out g2 g3 g4)
    have HC5 := Aside0.mk (Kd.C_below HC.out hB.at_.below)
    have HR5 := Aside0.mk (C_mid (w := w3) (W := w5) HROW.out (fun k k1 k2 => g4 k (.inr ⟨k1, k2⟩)))
    clear q0 q1 q2 q3 q4 q5 q6
    obtain ⟨q0, q1, q2, q3, q4, q5, q6⟩ := HSS.out w5 g4
    clear hp hB g1 g2 g3 g4
    go_wp2_with fail
    refine (ct_EqualSelf A3 c3 A c roots w5 HR5.out HD3.out HC5.out HCC.out).mono ?_
    rintro e w6 ⟨rfl, hb⟩
    have HB6 := Aside0.mk hb
    clear hb q0 q1 q2 q3 q4 q5 q6
    go_wp2_with fail
    go_ret
    exact ⟨rfl, HAP.out.step HB6.out⟩
end Go.Proofs.YtkjagcamikkjkaaGreat.P

end

section
namespace Go.Proofs.YtkjagcamikkjkaaGreat.P
open Go.RowKit Go.Proofs.YtkjagcamikkjkaaGreatW.PrintWords Go.Proofs.YtkjagcamikkjkaaGreatW.PrintLast Go.Proofs.YtkjagcamikkjkaaGreatW.PrintMore
attribute [local go_sem] max2_int min2_int max_two min_two max_three min_three max_four min_four
set_option linter.unusedVariables false
set_option linter.unusedSimpArgs false
section
variable {ops : Array Oper} {rest : List Oper} {o : Oper} {a : Act} {Q : Exit → Act → World → Prop}
theorem int_put (hgd : o.guard = none) {p x : Operand} (ho : o.op = .store 3 p x) (hN : o.dst = none) {w0 W : World} {base g n cap : Nat} {ok : Nat → Prop} {xs : List Int} {b : Int} (i : Nat) (HO : Kd.R (Kd.int .i64) 3 W base ok (.slice (some ⟨g, 0, none⟩) n cap) xs) (hi : i < n) (HB : Below base w0 W) (haddr : a.eval p = .pointer (some ⟨g, i, none⟩)) (hx : a.eval x = .int .i64 b)
    (h : ∀ w1, Kd.R (Kd.int .i64) 3 w1 base ok (.slice (some ⟨g, 0, none⟩) n cap) (xs.set i b) → Below base w0 w1 → W.grownBy w1 (some g) → wpList Tryz.prog ops Q rest a w1) : wpList Tryz.prog ops Q (o :: rest) a W := by
  obtain ⟨c, hcl, _, hcc⟩ := Kd.R_getA HO 0 (i : Int) (by omega) (by omega)
  obtain ⟨q, rfl⟩ := List.length_eq_one_iff.1 (hcl.trans rfl)
  refine Kd.R_store (Kd.int .i64) base hN hgd 3 p x ho 3 (i : Int) 0 xs b (.int .i64 b) [.int .i64 b] [q] ok (fun _ => False) haddr (by show i = i * 1 + 0; omega) hx rfl (by kernel_rfl) (by intro q hq; rw [List.mem_singleton.1 hq]; rfl) HO (by omega) (by omega) rfl (fun j u hj => by have := hcc j u hj; rw [add0] at this; exact this) (by show 0 + 1 ≤ 1; omega) rfl (fun _ hk => hk.elim) HB ?_
  intro w1 h1 h2 h3
  exact h w1 (by rw [Int.toNat_natCast] at h1; exact h1) h2 h3
end
def ReachAns (s : HS) (roots ls : List Int) (n : Int) : Prop := (BadRoots s roots ∧ n = 141 ∧ ls = []) ∨ (¬ BadRoots s roots ∧ n = 0 ∧ ∃ met, Reached s roots met ∧ ls = reachL s met)
theorem ReachAns.one {s : HS} {roots ls ls2 : List Int} {n n2 : Int} (h : ReachAns s roots ls n) (h2 : ReachAns s roots ls2 n2) : ls2 = ls ∧ n2 = n := by
  rcases h with ⟨hb, rfl, rfl⟩ | ⟨hb, rfl, met, hm, rfl⟩
  · rcases h2 with ⟨_, rfl, rfl⟩ | ⟨hb2, _⟩
    · exact ⟨rfl, rfl⟩
    · exact absurd hb hb2
  · rcases h2 with ⟨hb2, _⟩ | ⟨_, rfl, met2, hm2, rfl⟩
    · exact absurd hb2 hb
    · exact ⟨reachL_same (fun x => hm2.same hm x), rfl⟩
theorem ReachAns.few {s : HS} {roots ls : List Int} {n : Int} (h : ReachAns s roots ls n) (hs : SumOK s) (hu : s.used ≤ 4096) : ls.length ≤ 4096 := by
  rcases h with ⟨_, _, rfl⟩ | ⟨_, _, met, _, rfl⟩
  · exact Nat.zero_le _
  · exact Nat.le_trans (List.length_filter_le _ _) (live_few hs hu)
theorem hp_ReachZ (w0 : World) (s : HS) (hs : SumOK s) (hg : Good s.l) (hlast : s.last < 4611686018427387904) (A : Option Addr) (c : Nat) (roots : List Int) (W : World) (h : HeapAt w0 s W) (hC : (Kd.int .i64).C W A roots.length roots) (hrk : ∀ y ∈ roots, I64 y) (hrl : roots.length < 17592186044416) :
    Calls Tryz.prog 24 #[.pointer (some ⟨s.hb, 0, none⟩), .slice A roots.length c] W fun e w' => ∃ (v : Value) (ls : List Int) (n : Int), e = .returned (.tuple #[v, .int .i64 n]) ∧ Kd.R (Kd.int .i64) 3 w' W.heap.size (fun _ => True) v ls ∧ ReachAns s roots ls n ∧ Below W.heap.size W w' :=
  (hp_ReachS w0 s hs hg hlast A c roots W h hC hrk hrl).mono fun e w' ⟨hb, h2⟩ => by
    rcases h2 with ⟨hbad, rfl⟩ | ⟨met, v, hbad, hre, rfl, hR⟩
    · exact ⟨_, [], 141, rfl, Kd.R_nil _ _ _ _ _, .inl ⟨hbad, rfl, rfl⟩, hb⟩
    · exact ⟨v, _, 0, rfl, hR, .inr ⟨hbad, rfl, met, hre, rfl⟩, hb⟩
theorem rf_ReachZ (w0 : World) (F : Nat → Prop) (d : DS) (rb : Nat → Nat) (s : HS) (hs : Like s d) (hn9 : d.obs.length < 4398046511104) (hob : ∀ x o, s.m x = some o → ObjOK s.l s.last x o) (hg : Good d.l) (hsn : Sane d.l) (A : Option Addr) (c : Nat) (roots : List Int) (W : World) (hC : Kd.C (Kd.int .i64) W A roots.length roots) (hrk : ∀ y ∈ roots, I64 y) (hrl : roots.length < 17592186044416) (h : DIn w0 F d rb W) : Calls Tryz.prog 25 #[.pointer (some ⟨d.db, 0, none⟩), .slice A roots.length c] W fun e w' => ∃ (v : Value) (ls : List Int) (n : Int), e = .returned (.tuple #[v, .int .i64 n]) ∧ Kd.R (Kd.int .i64) 3 w' W.heap.size (fun _ => True) v ls ∧ ReachAns s roots ls n ∧ Below W.heap.size W w' :=
  (rf_Reach w0 F d rb s hs hn9 hob hg hsn A c roots W hC hrk hrl h).mono fun e w' ⟨hb, h2⟩ => by
    rcases h2 with ⟨hbad, rfl⟩ | ⟨met, v, hbad, hre, rfl, hR⟩
    · exact ⟨_, [], 141, rfl, Kd.R_nil _ _ _ _ _, .inl ⟨hbad, rfl, rfl⟩, hb⟩
    · exact ⟨v, _, 0, rfl, hR, .inr ⟨hbad, rfl, met, hre, rfl⟩, hb⟩
set_option maxHeartbeats 3200000 in
set_option maxRecDepth 100000 in
theorem act_5 (w0 : World) (P : Nat → Prop) (s : HS) (d : DS) (W : World) (h : Both w0 P s d W) (hn9 : d.obs.length < 4398046511104) (A : Option Addr) (c : Nat) (roots : List Int) (hC : Kd.C (Kd.int .i64) w0 A roots.length roots) (hc : roots.length ≤ c) (hrk : ∀ y ∈ roots, I64 y) (hrl : roots.length < 17592186044416) (x y z : Int) (hx : I64 x) (hy : I64 y) (hz : I64 z) :
    Calls Tryz.prog 7 #[.agg #[.pointer (some ⟨s.hb, 0, none⟩), .pointer (some ⟨d.db, 0, none⟩)], .agg #[.int .i64 5, .int .i64 x, .int .i64 y, .int .i64 z, .slice A roots.length c]] W fun e w' => e = .returned (.bool true) ∧ ActPost w0 P s d W w' := by
  have H := Aside0.mk h
  have HN := Aside0.mk hn9
  have HC := Aside0.mk hC
  have HCC := Aside0.mk hc
  have HRK := Aside0.mk hrk
  have HRL := Aside0.mk hrl
  have HX9 := Aside0.mk hx
  have HY9 := Aside0.mk hy
  have HZ9 := Aside0.mk hz
  clear h hn9 hC hc hrk hrl hx hy hz
  go_enter Tryz.func7, Tryz.ntmps7
  go_wp2_with (first | ((with_reducible refine gate_dst (N := 2) rfl ?_); refine rw_box rfl 35 rfl (cs := #[.pointer (some ⟨s.hb, 0, none⟩), .pointer (some ⟨d.db, 0, none⟩)]) rfl (Rws.nil W) ?_; intro b2 w1 hX; have HX := Aside0.mk hX; clear hX) | ((with_reducible refine gate_dst (N := 3) rfl ?_); refine rw_box rfl 44 rfl (cs := #[.int .i64 5, .int .i64 x, .int .i64 y, .int .i64 z, .slice A roots.length c]) rfl HX.out ?_; intro b3 w2 hX; replace HX := Aside0.mk hX; clear hX; have f4 := blk_cell (HX.out.mem List.mem_cons_self) 4; simp only [List.getElem?_toArray, List.getElem?_cons_zero, List.getElem?_cons_succ] at f4))
  refine (slices_Clone_int_int.calls A c roots roots w2 (Kd.C_below HC.out (below_step H.out.at_.below HX.out.below)) HCC.out (by unfold slices_Clone_int_int.f; rw [if_pos HRL.out])).mono ?_
  rintro e w3 ⟨v3, rfl, hR, hb⟩
  have HW2 := Aside0.mk HX.out.below.size
  replace HX := Aside0.mk (HX.out.step hb)
  obtain ⟨A3, c3, e3, hc3, hC3⟩ := Kd.R_reads hR
  subst e3
  have HR3 := Aside0.mk hC3
  have HD3 := Aside0.mk hc3
  have HROW := Aside0.mk (Kd.R_lower hR HW2.out)
  clear f4 hb hR hC3 hc3
  have HO := Aside0.mk H.out
  have HBW := Aside0.mk HX.out.below
  obtain ⟨s3, hB3, hhb⟩ := H.out.freeze HBW.out
  replace H := Aside0.mk hB3
  rw [← hhb] at HX ⊢
  have HSS := Aside0.mk (show ∀ W' : World, (∀ k, P k ∨ (W.heap.size ≤ k ∧ k < w3.heap.size) → W'.heap[k]? = w3.heap[k]?) → W'.cell? ⟨b2, 0, none⟩ = some (.pointer (some ⟨s3.hb, 0, none⟩)) ∧ W'.cell? ⟨b2, 1, none⟩ = some (.pointer (some ⟨d.db, 0, none⟩)) ∧ W'.cell? ⟨b3, 0, none⟩ = some (.int .i64 5) ∧ W'.cell? ⟨b3, 1, none⟩ = some (.int .i64 x) ∧ W'.cell? ⟨b3, 2, none⟩ = some (.int .i64 y) ∧ W'.cell? ⟨b3, 3, none⟩ = some (.int .i64 z) ∧ W'.cell? ⟨b3, 4, none⟩ = some (.slice A roots.length c) from fun W' hW => by
    have h3 := HX.out.lies _ List.mem_cons_self
    have h2 := HX.out.lies _ (List.mem_cons_of_mem _ List.mem_cons_self)
    have g3 := (hW b3 (.inr ⟨h3.2, blk_lt h3.1⟩)).trans h3.1
    have g2 := (hW b2 (.inr ⟨h2.2, blk_lt h2.1⟩)).trans h2.1
    exact ⟨blk_cell g2 0, blk_cell g2 1, blk_cell g3 0, blk_cell g3 1, blk_cell g3 2, blk_cell g3 3, blk_cell g3 4⟩)
  have HHB := Aside0.mk hhb
  obtain ⟨q0, q1, q2, q3, q4, q5, q6⟩ := HSS.out w3 (fun _ _ => rfl)
  clear hB3 hhb HX
  go_wp2_with fail
  refine (hp_ReachZ w0 s3 H.out.like.sum H.out.good (by have := HN.out; have := H.out.like.last; omega) A3 c3 roots w3 H.out.at_ HR3.out HRK.out HRL.out).mono ?_
  rintro e w4 ⟨v, ls, n, rfl, hR, hA, hb⟩
  have HB4 := Aside0.mk hb
  have HXR := Aside0.mk hR
  have HAN := Aside0.mk hA
  obtain ⟨Av, cv, ev⟩ := Kd.R_slice hR
  subst ev
  have hcells := HSS.out w4 (fun k hk => hb.block k (H.out.at_.fr_lt k (H.out.own k hk)))
  clear hR hA hb q0 q1 q2 q3 q4 q5 q6
  obtain ⟨q0, q1, q2, q3, q4, q5, q6⟩ := hcells
  obtain ⟨F, rb, hd4, _⟩ := (H.out.step HB4.out).doc
  have HD4 := Aside0.mk hd4
  clear hd4
  go_wp2_with fail
  refine (rf_ReachZ w0 F d rb s3 H.out.like HN.out H.out.at_.dom (by rw [← H.out.like.l]; exact H.out.good) (by rw [← H.out.like.l]; exact H.out.sane) A c roots w4 (Kd.C_below HC.out (below_step H.out.at_.below HB4.out)) HRK.out HRL.out HD4.out).mono ?_
  rintro e w5 ⟨v2, ls2, n2, rfl, hR2, hA2, hb⟩
  obtain ⟨rfl, rfl⟩ := HAN.out.one hA2
  have HLF := Aside0.mk (hA2.few H.out.like.sum H.out.like.used)
  have HB5 := Aside0.mk (below_step HB4.out hb)
  replace HXR := Aside0.mk (Kd.R_below HXR.out hb)
  obtain ⟨A6, c6, e6, hc6, hC6⟩ := Kd.R_reads hR2
  subst e6
  have HV6 := Aside0.mk hC6
  have HD6 := Aside0.mk hc6
  clear hR2 hA2 hb hc6 hC6 q0 q1 q2 q3 q4 q5 q6 HAN
  go_wp2_with fail
  refine (ct_EqualSelf Av cv A6 c6 ls2 w5 (Kd.R_reads' HXR.out).2.2 (Kd.R_reads' HXR.out).2.1 HV6.out HD6.out).mono ?_
  rintro e w6 ⟨rfl, hb⟩
  replace HB5 := Aside0.mk (below_step HB5.out hb)
  replace HXR := Aside0.mk (Kd.R_below HXR.out hb)
  clear hb
  obtain ⟨N, hN⟩ : ∃ N, N = ls2.length := ⟨_, rfl⟩
  rw [← hN] at HXR HLF ⊢
  clear hN
  go_wp2_with fail
  go_loopw [188] (fun v188 wr => ∃ (i : Nat) (zs : List Int), v188 = .int .i64 (i : Int) ∧ i ≤ N ∧ Aside0 (Below w3.heap.size w3 wr) ∧ Aside0 (Kd.R (Kd.int .i64) 3 wr w3.heap.size (fun _ => True) (.slice Av N cv) zs)) (fun v188 _ => ((N : Int) - intOf v188).toNat)
  case atStart => exact ⟨0, _, rfl, Nat.zero_le _, HB5, HXR⟩
  case round =>
    clear HB5 HXR
    obtain ⟨i, zs, rfl, hi, HB5, HXR⟩ := hrel
    by_cases c1 : i < N
    · have c1b : decide ((i : Int) < (N : Int)) = true := decide_eq_true (by omega)
      have c1c : decide (i < N) = true := decide_eq_true c1
      have p5 : (0 ≤ (i : Int)) = True := eq_true (by omega)
      have p6 : ((i : Int) < (N : Int)) = True := eq_true (by omega)
      have hnz : N = zs.length := (Kd.R_reads' HXR.out).1
      have HNM := Aside0.mk (show N ≤ 9223372036854775807 by have := HLF.out; omega)
      obtain ⟨ad, e1, _⟩ := Kd.at_int (Kd.R_reads' HXR.out).2.2 (i : Int) (by omega) (by omega)
      subst e1
      obtain ⟨g, rfl⟩ := Kd.R_head HXR.out
      have HI := Aside0.mk c1
      have HW := Aside0.mk (wrap_h c1 HNM.out)
      clear c1 hnz
      go_wp2_with ((with_reducible refine gate_store (t := 3) (p := 193) rfl ?_); refine int_put rfl rfl rfl (w0 := w3) i HXR.out HI.out HB5.out rfl rfl ?_; intro w9 h1 h2 h3; replace HXR := Aside0.mk h1; replace HB5 := Aside0.mk h2; clear h1 h2 h3)
      go_roundw
      case rel => exact ⟨i + 1, _, (by rw [HW.out]), HI.out, HB5, HXR⟩
      case measure => exact meas_h HI.out HW.out
    · have c1b : decide ((i : Int) < (N : Int)) = false := decide_eq_false (by omega)
      have c1c : decide (i < N) = false := decide_eq_false c1
      clear c1 hi
      obtain ⟨q0, q1, q2, q3, q4, q5, q6⟩ := HSS.out wr (fun k hk => HB5.out.block k (H.out.at_.fr_lt k (H.out.own k hk)))
      go_wp2_with fail
      refine (ct_EqualSelf A3 c3 A c roots wr (Kd.C_below HR3.out HB5.out) HD3.out (Kd.C_below HC.out (below_step H.out.at_.below HB5.out)) HCC.out).mono ?_
      rintro e w7 ⟨rfl, hb⟩
      replace HB5 := Aside0.mk (below_step HB5.out hb)
      clear hb q0 q1 q2 q3 q4 q5 q6
      go_wp2_with fail
      go_ret
      exact ⟨rfl, ActPost.of HBW.out HO.out (H.out.step HB5.out) rfl HHB.out rfl (Nat.le_succ _) (fun k hk => HB5.out.block k (H.out.at_.fr_lt k (H.out.own k hk)))⟩
end Go.Proofs.YtkjagcamikkjkaaGreat.P

end

section
namespace Go.Proofs.YtkjagcamikkjkaaGreat.P
open Go.RowKit Go.Proofs.YtkjagcamikkjkaaGreatW.PrintWords Go.Proofs.YtkjagcamikkjkaaGreatW.PrintLast Go.Proofs.YtkjagcamikkjkaaGreatW.PrintMore
attribute [local go_sem] max2_int min2_int max_two min_two max_three min_three max_four min_four
set_option linter.unusedVariables false
set_option linter.unusedSimpArgs false
theorem C_blk {W : World} {g : Nat} {t : TypeId} {xs : List Int} (h : W.heap[g]? = some (.cells (xs.map (Value.int .i64)).toArray t (0, 0))) (hl : xs.length ≤ 9223372036854775807) : Kd.C (Kd.int .i64) W (some ⟨g, 0, none⟩) xs.length xs :=
  ⟨rfl, hl, fun _ => ⟨_, rfl, fun j p hj => ⟨[.int .i64 p], rfl, rfl, fun i u hi => by
    obtain ⟨rfl, rfl⟩ : i = 0 ∧ Value.int .i64 p = u := by
      cases i with
      | zero => exact ⟨rfl, Option.some.inj hi⟩
      | succ i => cases hi
    rw [add0]
    show W.cell? ⟨g, j * 1 + 0, none⟩ = some (.int .i64 p)
    rw [Nat.mul_one, Nat.add_zero, blk_cell h j]
    simp [hj]⟩⟩⟩
set_option maxHeartbeats 3200000 in
set_option maxRecDepth 100000 in
theorem act_7 (w0 : World) (P : Nat → Prop) (s : HS) (d : DS) (W : World) (h : Both w0 P s d W) (hn9 : d.obs.length < 4398046511104) (A : Option Addr) (c : Nat) (roots : List Int) (hC : Kd.C (Kd.int .i64) w0 A roots.length roots) (hc : roots.length ≤ c) (hrk : ∀ y ∈ roots, I64 y) (hrl : roots.length < 17592186044416) (x y z : Int) (hx : I64 x) (hy : I64 y) (hz : I64 z) (kd : Int) (k0 : (kd == 0) = false) (k1 : (kd == 1) = false) (k2 : (kd == 2) = false) (k3 : (kd == 3) = false) (k4 : (kd == 4) = false) (k5 : (kd == 5) = false) (k6 : (kd == 6) = false) :
    Calls Tryz.prog 7 #[.agg #[.pointer (some ⟨s.hb, 0, none⟩), .pointer (some ⟨d.db, 0, none⟩)], .agg #[.int .i64 kd, .int .i64 x, .int .i64 y, .int .i64 z, .slice A roots.length c]] W fun e w' => e = .returned (.bool true) ∧ ActPost w0 P s d W w' := by
  have H := Aside0.mk h
  have HN := Aside0.mk hn9
  have HC := Aside0.mk hC
  have HCC := Aside0.mk hc
  have HRK := Aside0.mk hrk
  have HRL := Aside0.mk hrl
  have HX9 := Aside0.mk hx
  have HY9 := Aside0.mk hy
  have HZ9 := Aside0.mk hz
  clear h hn9 hC hc hrk hrl hx hy hz
  go_enter Tryz.func7, Tryz.ntmps7
  go_wp2_with (first | ((with_reducible refine gate_dst (N := 2) rfl ?_); refine rw_box rfl 35 rfl (cs := #[.pointer (some ⟨s.hb, 0, none⟩), .pointer (some ⟨d.db, 0, none⟩)]) rfl (Rws.nil W) ?_; intro b2 w1 hX; have HX := Aside0.mk hX; clear hX) | ((with_reducible refine gate_dst (N := 3) rfl ?_); refine rw_box rfl 44 rfl (cs := #[.int .i64 kd, .int .i64 x, .int .i64 y, .int .i64 z, .slice A roots.length c]) rfl HX.out ?_; intro b3 w2 hX; replace HX := Aside0.mk hX; clear hX; have f4 := blk_cell (HX.out.mem List.mem_cons_self) 4; simp only [List.getElem?_toArray, List.getElem?_cons_zero, List.getElem?_cons_succ] at f4))
  refine (slices_Clone_int_int.calls A c roots roots w2 (Kd.C_below HC.out (below_step H.out.at_.below HX.out.below)) HCC.out (by unfold slices_Clone_int_int.f; rw [if_pos HRL.out])).mono ?_
  rintro e w3 ⟨v3, rfl, hR, hb⟩
  have HW2 := Aside0.mk HX.out.below.size
  replace HX := Aside0.mk (HX.out.step hb)
  obtain ⟨A3, c3, e3, hc3, hC3⟩ := Kd.R_reads hR
  subst e3
  have HR3 := Aside0.mk hC3
  have HD3 := Aside0.mk hc3
  have HROW := Aside0.mk (Kd.R_lower hR HW2.out)
  clear f4 hb hR hC3 hc3
  have HO := Aside0.mk H.out
  have HBW := Aside0.mk HX.out.below
  obtain ⟨s3, hB3, hhb⟩ := H.out.freeze HBW.out
  replace H := Aside0.mk hB3
  rw [← hhb] at HX ⊢
  have HSS := Aside0.mk (show ∀ W' : World, (∀ k, P k ∨ (W.heap.size ≤ k ∧ k < w3.heap.size) → W'.heap[k]? = w3.heap[k]?) → W'.cell? ⟨b2, 0, none⟩ = some (.pointer (some ⟨s3.hb, 0, none⟩)) ∧ W'.cell? ⟨b2, 1, none⟩ = some (.pointer (some ⟨d.db, 0, none⟩)) ∧ W'.cell? ⟨b3, 0, none⟩ = some (.int .i64 kd) ∧ W'.cell? ⟨b3, 1, none⟩ = some (.int .i64 x) ∧ W'.cell? ⟨b3, 2, none⟩ = some (.int .i64 y) ∧ W'.cell? ⟨b3, 3, none⟩ = some (.int .i64 z) ∧ W'.cell? ⟨b3, 4, none⟩ = some (.slice A roots.length c) from fun W' hW => by
    have h3 := HX.out.lies _ List.mem_cons_self
    have h2 := HX.out.lies _ (List.mem_cons_of_mem _ List.mem_cons_self)
    have g3 := (hW b3 (.inr ⟨h3.2, blk_lt h3.1⟩)).trans h3.1
    have g2 := (hW b2 (.inr ⟨h2.2, blk_lt h2.1⟩)).trans h2.1
    exact ⟨blk_cell g2 0, blk_cell g2 1, blk_cell g3 0, blk_cell g3 1, blk_cell g3 2, blk_cell g3 3, blk_cell g3 4⟩)
  have HHB := Aside0.mk hhb
  obtain ⟨q0, q1, q2, q3, q4, q5, q6⟩ := HSS.out w3 (fun _ _ => rfl)
  clear hB3 hhb HX
  obtain ⟨F, rb, hd4, _⟩ := H.out.doc
  have HN1 := Aside0.mk (show ∀ y ∈ ([0, -1, IntKind.i64.wrap ((d.obs.length : Int) + 1), x] : List Int), I64 y by
    intro y9 hy9
    have h1 := HN.out
    have h2 := HX9.out
    simp only [List.mem_cons, List.not_mem_nil, or_false] at hy9
    have h3 : IntKind.i64.wrap ((d.obs.length : Int) + 1) = (d.obs.length : Int) + 1 := wrap_c (by omega) (by omega)
    rw [h3] at hy9
    unfold I64 at h2 ⊢
    rcases hy9 with rfl | rfl | rfl | rfl <;> omega)
  obtain ⟨Ao, co, eo⟩ := hd4.ovs
  have HDO := Aside0.mk (show ∀ W' : World, Below w3.heap.size w3 W' → W'.cell? ⟨d.db, 2, none⟩ = some (.slice Ao d.obs.length co) from fun W' hW => by rw [← eo]; exact (hd4.step hW).cells.2.2)
  obtain ⟨nn, hnn⟩ : ∃ nn, nn = d.obs.length := ⟨_, rfl⟩
  rw [← hnn] at HDO HN1
  have HSB := Aside0.mk (show ∀ W' : World, Below w3.heap.size w3 W' → W'.cell? ⟨b2, 0, none⟩ = some (.pointer (some ⟨s3.hb, 0, none⟩)) ∧ W'.cell? ⟨b2, 1, none⟩ = some (.pointer (some ⟨d.db, 0, none⟩)) ∧ W'.cell? ⟨b3, 1, none⟩ = some (.int .i64 x) ∧ W'.cell? ⟨d.db, 2, none⟩ = some (.slice Ao nn co) from fun W' hW => by
    have h9 := HSS.out W' (fun k hk => hW.block k (H.out.at_.fr_lt k (H.out.own k hk)))
    exact ⟨h9.1, h9.2.1, h9.2.2.2.1, HDO.out W' hW⟩)
  have HD3 := Aside0.mk hd4
  clear hd4 eo hnn
  go_wp2_with fail
  (try simp only [Act.put, List.setIfInBounds_toArray, List.set_cons_zero, List.set_cons_succ])
  refine wp_region_held_drew (S := fun w' => w'.cell? ⟨b2, 0, none⟩ = some (.pointer (some ⟨s3.hb, 0, none⟩)) ∧ w'.cell? ⟨b2, 1, none⟩ = some (.pointer (some ⟨d.db, 0, none⟩)) ∧ w'.cell? ⟨b3, 1, none⟩ = some (.int .i64 x) ∧ w'.cell? ⟨d.db, 2, none⟩ = some (.slice Ao nn co)) (by kernel_rfl) ?_ (fun hHeld => ?_)
  · exact HSB.out _ (pw_below_drewN (Below.refl w3.heap.size w3) 1)
  have HBD := Aside0.mk (show Below w3.heap.size w3 w3.drew from pw_below_drewN (Below.refl w3.heap.size w3) 1)
  generalize w3.drew = wd at HBD hHeld ⊢
  clear q0 q1 q2 q3 q4 q5 q6
  refine take_dst (i := 0) (v := ?_) 238 rfl rfl (by kernel_rfl) (by kernel_rfl) (by kernel_rfl) (fun _ _ _ h => h) (Or.inl ⟨by rfl, ?_⟩) (by assumption) ?_
  rotate_left
  · intro w hSw
    obtain ⟨s1, s2, s3_, s4⟩ := hSw
    go_simp
    try with_reducible rfl
  (try simp only [Act.put, List.setIfInBounds_toArray, List.set_cons_zero, List.set_cons_succ])
  refine take_dst (i := 1) (v := ?_) 239 rfl rfl (by kernel_rfl) (by kernel_rfl) (by kernel_rfl) (fun _ _ _ h => h) (Or.inl ⟨by rfl, ?_⟩) (by assumption) ?_
  rotate_left
  · intro w hSw
    obtain ⟨s1, s2, s3_, s4⟩ := hSw
    go_simp
    try with_reducible rfl
  (try simp only [Act.put, List.setIfInBounds_toArray, List.set_cons_zero, List.set_cons_succ])
  refine take_dst (i := 2) (v := ?_) 240 rfl rfl (by kernel_rfl) (by kernel_rfl) (by kernel_rfl) (fun _ _ _ h => h) (Or.inl ⟨by rfl, ?_⟩) (by assumption) ?_
  rotate_left
  · intro w hSw
    obtain ⟨s1, s2, s3_, s4⟩ := hSw
    go_simp
    try with_reducible rfl
  (try simp only [Act.put, List.setIfInBounds_toArray, List.set_cons_zero, List.set_cons_succ])
  refine take_dst (i := 4) (v := ?_) 242 rfl rfl (by kernel_rfl) (by kernel_rfl) (by kernel_rfl) (fun _ _ _ h => h) (Or.inl ⟨by rfl, ?_⟩) (by assumption) ?_
  rotate_left
  · intro w hSw
    obtain ⟨s1, s2, s3_, s4⟩ := hSw
    go_simp
    try with_reducible rfl
  (try simp only [Act.put, List.setIfInBounds_toArray, List.set_cons_zero, List.set_cons_succ])
  refine take_dst (i := 5) (v := ?_) 243 rfl rfl (by kernel_rfl) (by kernel_rfl) (by kernel_rfl) (fun _ _ _ h => h) (Or.inl ⟨by rfl, ?_⟩) (by assumption) ?_
  rotate_left
  · intro w hSw
    obtain ⟨s1, s2, s3_, s4⟩ := hSw
    go_simp
    try with_reducible rfl
  (try simp only [Act.put, List.setIfInBounds_toArray, List.set_cons_zero, List.set_cons_succ])
  refine take_dst (i := 6) (v := ?_) 244 rfl rfl (by kernel_rfl) (by kernel_rfl) (by kernel_rfl) (fun _ _ _ h => h) (Or.inl ⟨by rfl, ?_⟩) (by assumption) ?_
  rotate_left
  · intro w hSw
    obtain ⟨s1, s2, s3_, s4⟩ := hSw
    go_simp
    try with_reducible rfl
  (try simp only [Act.put, List.setIfInBounds_toArray, List.set_cons_zero, List.set_cons_succ])
  refine take_dst (i := 7) (v := ?_) 245 rfl rfl (by kernel_rfl) (by kernel_rfl) (by kernel_rfl) (fun _ _ _ h => h) (Or.inl ⟨by rfl, ?_⟩) (by assumption) ?_
  rotate_left
  · intro w hSw
    obtain ⟨s1, s2, s3_, s4⟩ := hSw
    go_simp
    try with_reducible rfl
  (try simp only [Act.put, List.setIfInBounds_toArray, List.set_cons_zero, List.set_cons_succ])
  refine take_dst (i := 8) (v := ?_) 246 rfl rfl (by kernel_rfl) (by kernel_rfl) (by kernel_rfl) (fun _ _ _ h => h) (Or.inl ⟨by rfl, ?_⟩) (by assumption) ?_
  rotate_left
  · intro w hSw
    obtain ⟨s1, s2, s3_, s4⟩ := hSw
    go_simp
    try with_reducible rfl
  (try simp only [Act.put, List.setIfInBounds_toArray, List.set_cons_zero, List.set_cons_succ])
  refine take_dst (i := 9) (v := ?_) 247 rfl rfl (by kernel_rfl) (by kernel_rfl) (by kernel_rfl) (fun _ _ _ h => h) (Or.inl ⟨by rfl, ?_⟩) (by assumption) ?_
  rotate_left
  · intro w hSw
    obtain ⟨s1, s2, s3_, s4⟩ := hSw
    go_simp
    try with_reducible rfl
  (try simp only [Act.put, List.setIfInBounds_toArray, List.set_cons_zero, List.set_cons_succ])
  refine take_dst (i := 10) (v := ?_) 248 rfl rfl (by kernel_rfl) (by kernel_rfl) (by kernel_rfl) (fun _ _ _ h => h) (Or.inl ⟨by rfl, ?_⟩) (by assumption) ?_
  rotate_left
  · intro w hSw
    obtain ⟨s1, s2, s3_, s4⟩ := hSw
    go_simp
    try with_reducible rfl
  (try simp only [Act.put, List.setIfInBounds_toArray, List.set_cons_zero, List.set_cons_succ])
  refine take_dst (i := 11) (v := ?_) 249 rfl rfl (by kernel_rfl) (by kernel_rfl) (by kernel_rfl) (fun _ _ _ h => h) (Or.inl ⟨by rfl, ?_⟩) (by assumption) ?_
  rotate_left
  · intro w hSw
    obtain ⟨s1, s2, s3_, s4⟩ := hSw
    go_simp
    try with_reducible rfl
  (try simp only [Act.put, List.setIfInBounds_toArray, List.set_cons_zero, List.set_cons_succ])
  refine take_dst (i := 12) (v := ?_) 250 rfl rfl (by kernel_rfl) (by kernel_rfl) (by kernel_rfl) (fun _ _ _ h => h) (Or.inl ⟨by rfl, ?_⟩) (by assumption) ?_
  rotate_left
  · intro w hSw
    obtain ⟨s1, s2, s3_, s4⟩ := hSw
    go_simp
    try with_reducible rfl
  (try simp only [Act.put, List.setIfInBounds_toArray, List.set_cons_zero, List.set_cons_succ])
  refine wpAnyH_ready (rs := [3, 13]) (by kernel_rfl) (by simp) ?_
  refine AllReadyH.cons rfl (fun K hK => ?_) (AllReadyH.cons rfl (fun K hK => ?_) AllReadyH.nil)
  · go_simp
    refine (rf_Live w0 F d rb s3 H.out.like HN.out _ (HD3.out.step HBD.out)).mono ?_
    rintro e w4 ⟨v, rfl, hV, hb⟩
    have HB4 := Aside0.mk (below_step HBD.out hb)
    have HV := Aside0.mk (Kd.R_lower hV HBD.out.size)
    clear hV hb
    go_simp
    refine hK.out _ _ (HSB.out _ HB4.out) (fun hHeld => ?_)
    (try simp only [Act.put, List.setIfInBounds_toArray, List.set_cons_zero, List.set_cons_succ])
    clear hK K
    refine wpAnyH_ready (rs := [13]) (by kernel_rfl) (by simp) ?_
    refine AllReadyH.cons rfl (fun K hK => ?_) AllReadyH.nil
    go_simp
    have hb9 : Below w4.heap.size w4 (w4.alloc (.cells #[.int .i64 0, .int .i64 (-1), .int .i64 (IntKind.i64.wrap ((nn : Int) + 1)), .int .i64 x] 3)) := below_alloc (Below.refl _ _) _
    have hg9 := blk_new w4 (.cells #[.int .i64 0, .int .i64 (-1), .int .i64 (IntKind.i64.wrap ((nn : Int) + 1)), .int .i64 x] 3)
    refine hK.out _ _ (HSB.out _ (below_step HB4.out hb9)) (fun hHeld => ?_)
    have HB5 := Aside0.mk (below_step HB4.out hb9)
    replace HV := Aside0.mk (Kd.R_below HV.out hb9)
    have HG := Aside0.mk (C_blk (xs := [0, -1, IntKind.i64.wrap ((nn : Int) + 1), x]) hg9 (by simp))
    clear hK K hb9 hg9
    generalize w4.heap.size = g4 at HG ⊢
    generalize w4.alloc (.cells #[.int .i64 0, .int .i64 (-1), .int .i64 (IntKind.i64.wrap ((nn : Int) + 1)), .int .i64 x] 3) = w5 at HV HB5 HG hHeld ⊢
    (try simp only [Act.put, List.setIfInBounds_toArray, List.set_cons_zero, List.set_cons_succ])
    refine wpAnyH_ready (rs := [14]) (by kernel_rfl) (by simp) ?_
    refine AllReadyH.cons rfl (fun K hK => ?_) AllReadyH.nil
    refine Kd.R_append_rows_step (Kd.int .i64) (w0 := w3) w3.heap.size (by rfl) _ _ 42 3 (.int .i64 0) 8 rfl Tryz.underlying42 (by kernel_rfl) rfl (by decide) (by decide) v (liveL s3) [0, -1, IntKind.i64.wrap ((nn : Int) + 1), x] (some ⟨g4, 0, none⟩) 4 4 (fun _ => True) (fun _ => False) rfl rfl HV.out HG.out (fun _ _ h => h) (fun _ hk => hk.elim) (fun _ _ => trivial) HB5.out HB5.out.size (by have := live_few H.out.like.sum H.out.like.used; omega) ?_
    intro v6 w6 hR6 hb6 _ _
    have HB6 := Aside0.mk hb6
    refine hK.out _ _ (HSB.out _ HB6.out) (fun hHeld => ?_)
    obtain ⟨refs, hrefs⟩ : ∃ refs, refs = liveL s3 ++ [0, -1, IntKind.i64.wrap ((nn : Int) + 1), x] := ⟨_, rfl⟩
    rw [← hrefs] at hR6
    have HRF := Aside0.mk hrefs
    obtain ⟨A6, c6, e6, hc6, hC6⟩ := Kd.R_reads hR6
    subst e6
    have HV6 := Aside0.mk hC6
    clear hK K hR6 hb6 hrefs hc6 hC6 HV HG
    (try simp only [Act.put, List.setIfInBounds_toArray, List.set_cons_zero, List.set_cons_succ])
    refine wpAnyH_ready (rs := [15]) (by kernel_rfl) (by simp) ?_
    refine AllReadyH.cons rfl (fun K hK => ?_) AllReadyH.nil
    go_simp
    refine (look_calls w0 _ s3 d w6 (H.out.step HB6.out) HN.out A6 c6 refs HV6.out (fun y9 hy9 => by
      rw [HRF.out] at hy9
      rcases List.mem_append.1 hy9 with q | q
      · obtain ⟨o9, ho9⟩ := Option.isSome_iff_exists.1 ((liveL_mem H.out.like.sum.1 y9).1 q)
        have h1 := H.out.like.sum.1 y9 o9 ho9
        have h2 := H.out.like.last
        have h3 := HN.out
        unfold I64
        omega
      · exact HN1.out y9 q) (by
      rw [HRF.out, List.length_append]
      have := live_few H.out.like.sum H.out.like.used
      simp only [List.length_cons, List.length_nil]
      omega)).mono ?_
    rintro e w7 ⟨rfl, hb⟩
    have HB7 := Aside0.mk (below_step HB6.out hb)
    clear hb
    go_simp
    refine hK.out _ _ (HSB.out _ HB7.out) (fun hHeld => ?_)
    (try simp only [Act.put, List.setIfInBounds_toArray, List.set_cons_zero, List.set_cons_succ])
    clear hK K
    refine take_dst (i := 16) (v := ?_) 4 rfl rfl (by kernel_rfl) (by kernel_rfl) (by kernel_rfl) (fun _ _ _ h => h) (Or.inl ⟨by rfl, ?_⟩) (by assumption) ?_
    rotate_left
    · intro w hSw
      obtain ⟨s1, s2, s3_, s4⟩ := hSw
      go_simp
      try with_reducible rfl
    (try simp only [Act.put, List.setIfInBounds_toArray, List.set_cons_zero, List.set_cons_succ])
    refine wpAnyH_done (by kernel_rfl) ?_ _
    go_wp2_with fail
    go_ret
    exact ⟨rfl, ActPost.of HBW.out HO.out (H.out.step HB7.out) rfl HHB.out rfl (Nat.le_succ _) (fun k hk => HB7.out.block k (H.out.at_.fr_lt k (H.out.own k hk)))⟩
  · go_simp
    have hb9 : Below wd.heap.size wd (wd.alloc (.cells #[.int .i64 0, .int .i64 (-1), .int .i64 (IntKind.i64.wrap ((nn : Int) + 1)), .int .i64 x] 3)) := below_alloc (Below.refl _ _) _
    have hg9 := blk_new wd (.cells #[.int .i64 0, .int .i64 (-1), .int .i64 (IntKind.i64.wrap ((nn : Int) + 1)), .int .i64 x] 3)
    refine hK.out _ _ (HSB.out _ (below_step HBD.out hb9)) (fun hHeld => ?_)
    have HB4 := Aside0.mk (below_step HBD.out hb9)
    have HG := Aside0.mk (C_blk (xs := [0, -1, IntKind.i64.wrap ((nn : Int) + 1), x]) hg9 (by simp))
    clear hK K hb9 hg9
    generalize wd.heap.size = g4 at HG ⊢
    generalize wd.alloc (.cells #[.int .i64 0, .int .i64 (-1), .int .i64 (IntKind.i64.wrap ((nn : Int) + 1)), .int .i64 x] 3) = w4 at HB4 HG hHeld ⊢
    (try simp only [Act.put, List.setIfInBounds_toArray, List.set_cons_zero, List.set_cons_succ])
    refine wpAnyH_ready (rs := [3]) (by kernel_rfl) (by simp) ?_
    refine AllReadyH.cons rfl (fun K hK => ?_) AllReadyH.nil
    go_simp
    refine (rf_Live w0 F d rb s3 H.out.like HN.out _ (HD3.out.step HB4.out)).mono ?_
    rintro e w5 ⟨v, rfl, hV, hb⟩
    have HB5 := Aside0.mk (below_step HB4.out hb)
    have HV := Aside0.mk (Kd.R_lower hV HB4.out.size)
    replace HG := Aside0.mk (Kd.C_below HG.out hb)
    clear hV hb
    go_simp
    refine hK.out _ _ (HSB.out _ HB5.out) (fun hHeld => ?_)
    (try simp only [Act.put, List.setIfInBounds_toArray, List.set_cons_zero, List.set_cons_succ])
    clear hK K
    refine wpAnyH_ready (rs := [14]) (by kernel_rfl) (by simp) ?_
    refine AllReadyH.cons rfl (fun K hK => ?_) AllReadyH.nil
    refine Kd.R_append_rows_step (Kd.int .i64) (w0 := w3) w3.heap.size (by rfl) _ _ 42 3 (.int .i64 0) 8 rfl Tryz.underlying42 (by kernel_rfl) rfl (by decide) (by decide) v (liveL s3) [0, -1, IntKind.i64.wrap ((nn : Int) + 1), x] (some ⟨g4, 0, none⟩) 4 4 (fun _ => True) (fun _ => False) rfl rfl HV.out HG.out (fun _ _ h => h) (fun _ hk => hk.elim) (fun _ _ => trivial) HB5.out HB5.out.size (by have := live_few H.out.like.sum H.out.like.used; omega) ?_
    intro v6 w6 hR6 hb6 _ _
    have HB6 := Aside0.mk hb6
    refine hK.out _ _ (HSB.out _ HB6.out) (fun hHeld => ?_)
    obtain ⟨refs, hrefs⟩ : ∃ refs, refs = liveL s3 ++ [0, -1, IntKind.i64.wrap ((nn : Int) + 1), x] := ⟨_, rfl⟩
    rw [← hrefs] at hR6
    have HRF := Aside0.mk hrefs
    obtain ⟨A6, c6, e6, hc6, hC6⟩ := Kd.R_reads hR6
    subst e6
    have HV6 := Aside0.mk hC6
    clear hK K hR6 hb6 hrefs hc6 hC6 HV HG
    (try simp only [Act.put, List.setIfInBounds_toArray, List.set_cons_zero, List.set_cons_succ])
    refine wpAnyH_ready (rs := [15]) (by kernel_rfl) (by simp) ?_
    refine AllReadyH.cons rfl (fun K hK => ?_) AllReadyH.nil
    go_simp
    refine (look_calls w0 _ s3 d w6 (H.out.step HB6.out) HN.out A6 c6 refs HV6.out (fun y9 hy9 => by
      rw [HRF.out] at hy9
      rcases List.mem_append.1 hy9 with q | q
      · obtain ⟨o9, ho9⟩ := Option.isSome_iff_exists.1 ((liveL_mem H.out.like.sum.1 y9).1 q)
        have h1 := H.out.like.sum.1 y9 o9 ho9
        have h2 := H.out.like.last
        have h3 := HN.out
        unfold I64
        omega
      · exact HN1.out y9 q) (by
      rw [HRF.out, List.length_append]
      have := live_few H.out.like.sum H.out.like.used
      simp only [List.length_cons, List.length_nil]
      omega)).mono ?_
    rintro e w7 ⟨rfl, hb⟩
    have HB7 := Aside0.mk (below_step HB6.out hb)
    clear hb
    go_simp
    refine hK.out _ _ (HSB.out _ HB7.out) (fun hHeld => ?_)
    (try simp only [Act.put, List.setIfInBounds_toArray, List.set_cons_zero, List.set_cons_succ])
    clear hK K
    refine take_dst (i := 16) (v := ?_) 4 rfl rfl (by kernel_rfl) (by kernel_rfl) (by kernel_rfl) (fun _ _ _ h => h) (Or.inl ⟨by rfl, ?_⟩) (by assumption) ?_
    rotate_left
    · intro w hSw
      obtain ⟨s1, s2, s3_, s4⟩ := hSw
      go_simp
      try with_reducible rfl
    (try simp only [Act.put, List.setIfInBounds_toArray, List.set_cons_zero, List.set_cons_succ])
    refine wpAnyH_done (by kernel_rfl) ?_ _
    go_wp2_with fail
    go_ret
    exact ⟨rfl, ActPost.of HBW.out HO.out (H.out.step HB7.out) rfl HHB.out rfl (Nat.le_succ _) (fun k hk => HB7.out.block k (H.out.at_.fr_lt k (H.out.own k hk)))⟩
end Go.Proofs.YtkjagcamikkjkaaGreat.P

end

section
namespace Go.Proofs.YtkjagcamikkjkaaGreat.P
open Go.RowKit Go.Proofs.YtkjagcamikkjkaaGreatW.PrintWords Go.Proofs.YtkjagcamikkjkaaGreatW.PrintLast Go.Proofs.YtkjagcamikkjkaaGreatW.PrintMore
attribute [local go_sem] max2_int min2_int max_two min_two max_three min_three max_four min_four
set_option linter.unusedVariables false
set_option linter.unusedSimpArgs false
theorem act_calls (w0 : World) (P : Nat → Prop) (s : HS) (d : DS) (W : World) (h : Both w0 P s d W) (hn9 : d.obs.length < 4398046511104) (A : Option Addr) (c : Nat) (roots : List Int) (hC : Kd.C (Kd.int .i64) w0 A roots.length roots) (hc : roots.length ≤ c) (hrk : ∀ y ∈ roots, I64 y) (hrl : roots.length < 17592186044416) (kd x y z : Int) (hx : I64 x) (hy : I64 y) (hz : I64 z) :
    Calls Tryz.prog 7 #[.agg #[.pointer (some ⟨s.hb, 0, none⟩), .pointer (some ⟨d.db, 0, none⟩)], .agg #[.int .i64 kd, .int .i64 x, .int .i64 y, .int .i64 z, .slice A roots.length c]] W fun e w' => e = .returned (.bool true) ∧ ActPost w0 P s d W w' := by
  by_cases k0 : kd = 0
  · subst k0
    exact act_0 w0 P s d W h hn9 A c roots hC hc hrk hrl x y z hx hy hz
  by_cases k1 : kd = 1
  · subst k1
    exact act_1 w0 P s d W h hn9 A c roots hC hc hrk hrl x y z hx hy hz
  by_cases k2 : kd = 2
  · subst k2
    exact act_2 w0 P s d W h hn9 A c roots hC hc hrk hrl x y z hx hy hz
  by_cases k3 : kd = 3
  · subst k3
    exact act_3 w0 P s d W h hn9 A c roots hC hc hrk hrl x y z hx hy hz
  by_cases k4 : kd = 4
  · subst k4
    exact act_4 w0 P s d W h hn9 A c roots hC hc hrk hrl x y z hx hy hz
  by_cases k5 : kd = 5
  · subst k5
    exact act_5 w0 P s d W h hn9 A c roots hC hc hrk hrl x y z hx hy hz
  by_cases k6 : kd = 6
  · subst k6
    exact act_6 w0 P s d W h hn9 A c roots hC hc hrk hrl x y z hx hy hz
  exact act_7 w0 P s d W h hn9 A c roots hC hc hrk hrl x y z hx hy hz kd (beq_eq_false_iff_ne.2 k0) (beq_eq_false_iff_ne.2 k1) (beq_eq_false_iff_ne.2 k2) (beq_eq_false_iff_ne.2 k3) (beq_eq_false_iff_ne.2 k4) (beq_eq_false_iff_ne.2 k5) (beq_eq_false_iff_ne.2 k6)
section
variable {ops : Array Oper} {rest : List Oper} {o : Oper} {a : Act} {Q : Exit → Act → World → Prop}
def SameLens (l ys : List S38) : Prop := ys.length = l.length ∧ ∀ i, (ys.getD i z38).f2.length = (l.getD i z38).f2.length
theorem SameLens.set {l ys : List S38} (h : SameLens l ys) (i : Nat) (x : S38) (hx : x.f2.length = (ys.getD i z38).f2.length) : SameLens l (ys.set i x) := by
  refine ⟨by rw [List.length_set]; exact h.1, fun j => ?_⟩
  rw [← h.2 j]
  by_cases hi : i < ys.length
  · rw [getD_set _ _ _ _ _ hi]
    by_cases e : j = i
    · rw [if_pos e, e]; exact hx
    · rw [if_neg e]
  · rw [List.set_eq_of_length_le (by omega)]
theorem name_put (hgd : o.guard = none) {p x : Operand} (ho : o.op = .store 9 p x) (hN : o.dst = none) {w0 W : World} {base n cap g : Nat} {ok : Nat → Prop} {l ys : List S38} {b : ByteArray} (i : Nat) (HO : Kd.S k38 38 W base ok (.slice (some ⟨g, 0, none⟩) n cap) ys) (hl : SameLens l ys) (hi : i < n) (HB : Below base w0 W) (haddr : a.eval p = .pointer (some ⟨g, i * 3, none⟩)) (hx : a.eval x = .string b)
    (h : ∀ w1 ys', Kd.S k38 38 w1 base ok (.slice (some ⟨g, 0, none⟩) n cap) ys' → SameLens l ys' → Below base w0 w1 → W.grownBy w1 (some g) → wpList Tryz.prog ops Q rest a w1) : wpList Tryz.prog ops Q (o :: rest) a W := by
  obtain ⟨oki, c, hcl, hM, hcc, hoki, hH⟩ := Kd.S_lend HO z38 (i : Int) (by omega) (by omega)
  rw [Int.toNat_natCast] at hM
  obtain ⟨v2, rfl, hv2⟩ := k38_openM hM
  refine Kd.H_store k38 base hN hgd 9 p x ho 38 (i : Int) 0 ys ⟨b, (ys.getD i z38).f1, (ys.getD i z38).f2⟩ (.string b) [.string b] [.string (ys.getD i z38).f0, .int .i64 (ys.getD i z38).f1, v2] ok oki oki haddr (by show i * 3 = (i : Int).toNat * 3 + 0; omega) hx rfl (by kernel_rfl) (by intro q hq; rw [List.mem_singleton.1 hq]; rfl) hH (by omega) (by omega) (by show 0 + 1 ≤ 3; omega) (k38_mkM W base oki (⟨b, (ys.getD i z38).f1, (ys.getD i z38).f2⟩ : S38) hv2) (fun _ hk => hk) HB ?_
  intro w1 h1 h2 h3
  rw [Int.toNat_natCast] at h1
  exact h w1 _ h1 (hl.set i _ rfl) h2 h3
theorem fields_cell {W : World} {base n cap g : Nat} {ok : Nat → Prop} {l ys : List S38} {i : Nat} (HO : Kd.S k38 38 W base ok (.slice (some ⟨g, 0, none⟩) n cap) ys) (hl : SameLens l ys) (hi : i < n) : ∃ (A2 : Option Addr) (c2 : Nat), W.cell? ⟨g, i * 3 + 2, none⟩ = some (.slice A2 (l.getD i z38).f2.length c2) ∧ ∀ k, k < (l.getD i z38).f2.length → ∃ g2, A2 = some ⟨g2, 0, none⟩ := by
  obtain ⟨oki, c, hcl, hM, hcc, hoki, hback⟩ := Kd.S_borrow HO z38 (i : Int) (by omega) (by omega)
  rw [Int.toNat_natCast] at hM
  obtain ⟨v2, rfl, hv2⟩ := k38_openM hM
  have h2 := hcc 2 v2 rfl
  rw [Int.toNat_natCast] at h2
  have h2 : W.cell? ((⟨g, 0, none⟩ : Addr).add (i * 3 + 2)) = some v2 := h2
  rw [add0] at h2
  obtain ⟨A2, c2, e⟩ := Kd.R_slice hv2
  subst e
  rw [hl.2 i] at h2
  refine ⟨A2, c2, h2, fun k hk => ?_⟩
  rcases A2 with _ | ad
  · have h9 := (Kd.R_reads' hv2).2.2
    rw [← hl.2 i] at hk
    obtain ⟨ad, e, _⟩ := h9.2.2 (by omega)
    cases e
  · obtain ⟨g2, rfl⟩ := Kd.R_head hv2
    exact ⟨g2, rfl⟩
theorem type_put (hgd : o.guard = none) {p x : Operand} (ho : o.op = .store 39 p x) (hN : o.dst = none) {w0 W : World} {base n cap g : Nat} {ok : Nat → Prop} {l ys : List S38} {b : Int} (i k : Nat) (HO : Kd.S k38 38 W base ok (.slice (some ⟨g, 0, none⟩) n cap) ys) (hl : SameLens l ys) (hi : i < n) (hk : k < (ys.getD i z38).f2.length) (HB : Below base w0 W) {A2 : Option Addr} {c2 : Nat} (hcell : W.cell? ⟨g, i * 3 + 2, none⟩ = some (.slice A2 (ys.getD i z38).f2.length c2)) {g2 : Nat} (hA2 : A2 = some ⟨g2, 0, none⟩) (haddr : a.eval p = .pointer (some ⟨g2, k * 2 + 1, none⟩)) (hx : a.eval x = .int .u8 b)
    (h : ∀ w1 ys' g9, Kd.S k38 38 w1 base ok (.slice (some ⟨g, 0, none⟩) n cap) ys' → SameLens l ys' → Below base w0 w1 → W.grownBy w1 (some g9) → ok g9 → base ≤ g9 → wpList Tryz.prog ops Q rest a w1) : wpList Tryz.prog ops Q (o :: rest) a W := by
  subst hA2
  obtain ⟨oki, c, hcl, hM, hcc, hoki, hback⟩ := Kd.S_borrow HO z38 (i : Int) (by omega) (by omega)
  rw [Int.toNat_natCast] at hM
  obtain ⟨v2, rfl, hv2⟩ := k38_openM hM
  have h2 := hcc 2 v2 rfl
  rw [Int.toNat_natCast] at h2
  have h2 : W.cell? ((⟨g, 0, none⟩ : Addr).add (i * 3 + 2)) = some v2 := h2
  rw [add0, hcell] at h2
  obtain rfl := Option.some.inj h2
  obtain ⟨q, hql, hqM, hqc⟩ := Kd.R_getA hv2 z41 (k : Int) (by omega) (by omega)
  rw [Int.toNat_natCast] at hqM
  obtain rfl := k41_openM hqM
  have hok2 : oki g2 := hv2.1 g2 rfl
  refine Kd.R_store k41 base hN hgd 39 p x ho 41 (k : Int) 1 (ys.getD i z38).f2 ⟨((ys.getD i z38).f2.getD k z41).f0, b⟩ (.int .u8 b) [.int .u8 b] [.string ((ys.getD i z38).f2.getD k z41).f0, .int .u8 ((ys.getD i z38).f2.getD k z41).f1] oki (fun _ => False) haddr (by show k * 2 + 1 = (k : Int).toNat * 2 + 1; omega) hx rfl (by kernel_rfl) (by intro q hq; rw [List.mem_singleton.1 hq]; rfl) hv2 (by omega) (by omega) rfl (fun j u hj => by have := hqc j u hj; rw [add0] at this; exact this) (by show 1 + 1 ≤ 2; omega) (k41_mkM W base (fun _ => False) (⟨((ys.getD i z38).f2.getD k z41).f0, b⟩ : S41)) (fun _ hk => hk.elim) HB ?_
  intro w1 e1 e2 e3
  rw [Int.toNat_natCast] at e1
  have hS := hback (x' := (⟨(ys.getD i z38).f0, (ys.getD i z38).f1, (ys.getD i z38).f2.set k ⟨((ys.getD i z38).f2.getD k z41).f0, b⟩⟩ : S38)) e3 (fun k hk => by cases hk; exact hok2) (k38_mkM w1 base oki (⟨(ys.getD i z38).f0, (ys.getD i z38).f1, (ys.getD i z38).f2.set k ⟨((ys.getD i z38).f2.getD k z41).f0, b⟩⟩ : S38) e1)
  rw [Int.toNat_natCast] at hS
  exact h w1 _ g2 hS (hl.set i _ (by simp)) e2 e3 (hoki g2 hok2).1 (Kd.R_base hv2 g2 rfl)
end
end Go.Proofs.YtkjagcamikkjkaaGreat.P

end

section
namespace Go.Proofs.YtkjagcamikkjkaaGreat.P
open Go.RowKit Go.Proofs.YtkjagcamikkjkaaGreatW.PrintWords Go.Proofs.YtkjagcamikkjkaaGreatW.PrintLast Go.Proofs.YtkjagcamikkjkaaGreatW.PrintMore
attribute [local go_sem] max2_int min2_int max_two min_two max_three min_three max_four min_four
set_option linter.unusedVariables false
set_option linter.unusedSimpArgs false
theorem classes_tells (l : List S38) (hs : Sane l) : ∀ (d i : Nat), l.length - i = d → i ≤ l.length → Ev (fun k => provisoplain_Classes.l0 k (l.take i) l (l.length : Int) (i : Int)) l
  | 0, i, hd, hi => by
    have e : l.take i = l := List.take_of_length_le (by omega)
    rw [e]
    exact Ev.step (f := fun _ => some l) (fun k => by simp only [provisoplain_Classes.l0]; rw [if_neg (by omega)]) (Ev.now _)
  | d + 1, i, hd, hi => by
    have hlt : i < l.length := by omega
    have ih := classes_tells l hs d (i + 1) (by omega) (by omega)
    have hsz := hs.size
    have ho := (hs.own (c := (i : Int)) (by omega) (by omega)).1
    unfold own at ho
    refine Ev.step (fun k => ?_) ih
    simp only [provisoplain_Classes.l0]
    rw [if_pos (by omega), if_pos (by omega), if_pos (by omega)]
    unfold api_Field.f
    rw [if_pos (by omega)]
    simp only [Option.bind_some]
    rw [if_pos (by rw [List.length_take]; omega), rd_class l i hlt, show wrap64 ((i : Int) + 1) = ((i + 1 : Nat) : Int) by unfold wrap64; omega, List.take_succ_eq_append_getElem hlt]
theorem impl_classes (l : List S38) (hs : Sane l) : Ev (fun k => provisoplain_Classes.f k l) l := by
  have := classes_tells l hs l.length 0 (by omega) (by omega)
  rw [List.take_zero] at this
  exact this
theorem rd_mem_a {l : List S44} {j : Nat} (h : j < l.length) : rd_T44 l (j : Int) ∈ l := by
  unfold rd_T44
  rw [Int.toNat_natCast, List.getD_eq_getElem?_getD, List.getElem?_eq_getElem h]
  exact List.getElem_mem h
theorem int_wf {n : Int} (h : (Lit.int .i64 n).wf = true) : I64 n := by
  simp [Lit.wf, IntKind.min, IntKind.max, IntKind.signed, IntKind.bits] at h
  exact h
theorem cell_keep {w W : World} (hb : Below w.heap.size w W) {p : Addr} {v : Value} (h : w.cell? p = some v) : W.cell? p = some v := by
  have hlt : p.block < w.heap.size := by
    rcases Nat.lt_or_ge p.block w.heap.size with q | q
    · exact q
    · unfold World.cell? at h
      rw [Array.getElem?_eq_none q] at h
      cases h
  unfold World.cell? at h ⊢
  rw [hb.block _ hlt]
  exact h
def provisolaw14_HeapLives.Facts (l0 : List S38) (room : Int) (acts : List S44) : Prop := Sane l0 ∧ acts.length * 56 ≤ 140737488351232 ∧ ∀ x ∈ acts, Ok44 x
set_option maxHeartbeats 3200000 in
set_option maxRecDepth 100000 in
theorem provisolaw14_HeapLives.calls (A0 : Option Addr) (c0 : Nat) (l0 : List S38) (room : Int) (A2 : Option Addr) (c2 : Nat) (acts : List S44) (w : World) (hr0 : Kd.C k38 w A0 l0.length l0) (hc0 : l0.length ≤ c0) (hr2 : Kd.C k44 w A2 acts.length acts) (hc2 : acts.length ≤ c2) (h : provisolaw14_HeapLives.Facts l0 room acts) :
    Calls Tryz.prog 3 #[.agg #[.slice A0 l0.length c0, .int .i64 room, .slice A2 acts.length c2]] w fun e w' => e = .returned (.bool true) ∧ Below w.heap.size w w' := by
  have HR := Aside0.mk hr0
  have HC := Aside0.mk hc0
  have HA := Aside0.mk hr2
  have HC2 := Aside0.mk hc2
  have HFA := Aside0.mk h
  obtain ⟨k, hk⟩ := impl_classes l0 h.1
  have HK := Aside0.mk (hk k (Nat.le_refl k))
  clear hr0 hc0 hr2 hc2 h hk
  go_enter Tryz.func3, Tryz.ntmps3
  go_wp2_with ((with_reducible refine gate_dst (N := 1) rfl ?_); refine rw_box rfl 25 rfl (cs := #[.slice A0 l0.length c0, .int .i64 room, .slice A2 acts.length c2]) rfl (Rws.nil w) ?_; intro b1 w1 hX; have HX := Aside0.mk hX; clear hX; have f0 := blk_cell (HX.out.mem List.mem_cons_self) 0; simp only [List.getElem?_toArray, List.getElem?_cons_zero, List.getElem?_cons_succ] at f0)
  have HB1 := Aside0.mk HX.out.below
  refine (provisoplain_Classes.calls k A0 c0 l0 l0 w1 (Kd.C_below HR.out HB1.out) HC.out HK.out).mono ?_
  rintro e w2 ⟨vg, rfl, hS, hb⟩
  have HB2 := Aside0.mk hb
  have HX2 := Aside0.mk (HX.out.step hb)
  obtain ⟨Av, cv, ev⟩ := Kd.S_slice hS
  subst ev
  have HG := Aside0.mk (Kd.S_mono (ok' := fun k => w1.heap.size ≤ k ∧ k < w2.heap.size) (Kd.S_bound hS) (fun k hk => ⟨hk.2.1, hk.2.2.1⟩))
  clear f0 hS hb
  have f0 := blk_cell (HX2.out.mem List.mem_cons_self) 0
  have f1 := blk_cell (HX2.out.mem List.mem_cons_self) 1
  simp only [List.getElem?_toArray, List.getElem?_cons_zero, List.getElem?_cons_succ] at f0 f1
  go_wp2_with fail
  refine (hp_NewZ Av cv l0 room w2 (Kd.S_reads' HG.out).2.2 (Kd.S_reads' HG.out).2.1 HFA.out.1).mono ?_
  rintro e w3 (⟨hne, rfl, hb⟩ | ⟨hz, hr0, hr1, hgd, hb, B, vc, rfl, hH⟩)
  · have HNE := Aside0.mk hne
    have HB3 := Aside0.mk (below_then HB1.out HB1.out.size (below_step HB2.out hb))
    have HX3 := Aside0.mk (HX2.out.step hb)
    clear hne hb f0 f1
    have f0 := blk_cell (HX3.out.mem List.mem_cons_self) 0
    have f1 := blk_cell (HX3.out.mem List.mem_cons_self) 1
    simp only [List.getElem?_toArray, List.getElem?_cons_zero, List.getElem?_cons_succ] at f0 f1
    go_wp2_with fail
    refine (rf_New A0 c0 l0 room w w3 HB3.out HR.out HC.out HFA.out.1).mono ?_
    rintro e w4 ⟨hb, ⟨_, rfl⟩ | ⟨hz, _⟩⟩
    rotate_left
    · exact absurd hz HNE.out
    replace HB3 := Aside0.mk (below_step HB3.out hb)
    obtain ⟨n, hn⟩ : ∃ n, n = newE l0 room := ⟨_, rfl⟩
    rw [← hn]
    clear hb hn f0 f1
    go_wp2_with fail
    go_ret
    exact ⟨rfl, HB3.out⟩
  · have HB3 := Aside0.mk (below_then HB1.out HB1.out.size (below_step HB2.out hH.below))
    have HX3 := Aside0.mk (HX2.out.step hH.below)
    have HZ := Aside0.mk hz
    have HGD := Aside0.mk hgd
    have HH := Aside0.mk hH
    clear hz hr0 hr1 hgd hH f0 f1
    have f0 := blk_cell (HX3.out.mem List.mem_cons_self) 0
    have f1 := blk_cell (HX3.out.mem List.mem_cons_self) 1
    simp only [List.getElem?_toArray, List.getElem?_cons_zero, List.getElem?_cons_succ] at f0 f1
    go_wp2_with fail
    refine (rf_New A0 c0 l0 room w w3 HB3.out HR.out HC.out HFA.out.1).mono ?_
    rintro e w4 ⟨hb4, ⟨hne, _⟩ | ⟨_, db, rfl, hD⟩⟩
    · exact absurd HZ.out hne
    have HD := Aside0.mk hD
    have HB4 := Aside0.mk hb4
    clear hD hb4 f0 f1
    go_wp2_with fail
    have hb9 : Below w4.heap.size w4 (w4.alloc (.cells #[.pointer (some ⟨hb, 0, none⟩), .pointer (some ⟨db, 0, none⟩)] 35)) := below_alloc (Below.refl _ _) _
    have hg9 := blk_new w4 (.cells #[.pointer (some ⟨hb, 0, none⟩), .pointer (some ⟨db, 0, none⟩)] 35)
    have HB5 := Aside0.mk hb9
    obtain ⟨g8, hg8⟩ : ∃ g8, g8 = w4.heap.size := ⟨_, rfl⟩
    have HG8 := Aside0.mk hg8
    rw [← hg8] at hg9 ⊢
    have HGB := Aside0.mk hg9
    clear hb9 hg9 hg8
    generalize w4.alloc (.cells #[.pointer (some ⟨hb, 0, none⟩), .pointer (some ⟨db, 0, none⟩)] 35) = w5 at HB5 HGB ⊢
    obtain ⟨n, hn⟩ : ∃ n, n = l0.length := ⟨_, rfl⟩
    rw [← hn] at HG ⊢
    have HN := Aside0.mk hn
    have HNS := Aside0.mk (show n ≤ 9223372036854775807 by rw [hn]; exact HFA.out.1.1)
    replace HB3 := Aside0.mk (show Below w.heap.size w w3 from HB3.out)
    have HB25 := Aside0.mk (show Below w2.heap.size w2 w5 from below_step (below_step HH.out.below HB4.out) HB5.out)
    clear hn
    go_loopw [48] (fun v48 wr => ∃ (i : Nat) (ys : List S38), v48 = .int .i64 (i : Int) ∧ i ≤ n ∧ Aside0 (Kd.S k38 38 wr w1.heap.size (fun k => w1.heap.size ≤ k ∧ k < w2.heap.size) (.slice Av n cv) ys) ∧ Aside0 (SameLens l0 ys) ∧ Aside0 (Below w1.heap.size w1 wr) ∧ Aside0 (w5.heap.size ≤ wr.heap.size ∧ ∀ k, w2.heap.size ≤ k → k < w5.heap.size → wr.heap[k]? = w5.heap[k]?)) (fun v48 _ => ((n : Int) - intOf v48).toNat)
    case atStart => exact ⟨0, l0, rfl, Nat.zero_le _, ⟨Kd.S_step HG.out (fun k hk hlt => HB25.out.block k hlt)⟩, ⟨rfl, fun _ => rfl⟩, ⟨below_then HB2.out HB2.out.size HB25.out⟩, ⟨Nat.le_refl _, fun _ _ _ => rfl⟩⟩
    case round =>
      clear HG
      obtain ⟨i, ys, rfl, hi, HG, HLS, HBL, HKP⟩ := hrel
      by_cases c1 : i < n
      · have c1b : decide ((i : Int) < (n : Int)) = true := decide_eq_true (by omega)
        have c1c : decide (i < n) = true := decide_eq_true c1
        have p5 : (0 ≤ (i : Int)) = True := eq_true (by omega)
        have p6 : ((i : Int) < (n : Int)) = True := eq_true (by omega)
        have HI := Aside0.mk c1
        have HW := Aside0.mk (wrap_h c1 HNS.out)
        obtain ⟨m, hm⟩ : ∃ m, m = (l0.getD i z38).f2.length := ⟨_, rfl⟩
        have HM := Aside0.mk hm
        have HMS := Aside0.mk (show m ≤ 9223372036854775807 by
          have h1 := HN.out
          have h2 : l0.getD i z38 ∈ l0 := by rw [List.getD_eq_getElem?_getD, List.getElem?_eq_getElem (by omega)]; exact List.getElem_mem _
          have h3 := (sane_long HFA.out.1).2 _ h2
          omega)
        have hyl := (Kd.S_reads' HG.out).1
        obtain ⟨ad, A6, c6, e1, hx0, hx1, hx2, hx3, hx4⟩ := at_T38 (Kd.S_reads' HG.out).2.2 (i : Int) (by omega) (by omega)
        subst e1
        obtain ⟨g, rfl⟩ := Kd.R_head (Kd.S_R HG.out)
        clear c1 hx0 hx1 hx2 hx3 hx4 hyl hm
        go_wp2_with ((with_reducible refine gate_store (t := 9) (p := 54) rfl ?_); refine name_put rfl rfl rfl (w0 := w1) i HG.out HLS.out HI.out HBL.out rfl rfl ?_; intro w9 ys9 h1 h2 h3 h4; replace HKP := Aside0.mk (show w5.heap.size ≤ w9.heap.size ∧ ∀ k, w2.heap.size ≤ k → k < w5.heap.size → w9.heap[k]? = w5.heap[k]? from ⟨Nat.le_trans HKP.out.1 h4.size, fun k k1 k2 => (h4.block k (Nat.lt_of_lt_of_le k2 HKP.out.1) (fun e => by have := (Kd.S_R HG.out).1 g rfl; have := Option.some.inj e; omega)).trans (HKP.out.2 k k1 k2)⟩); replace HG := Aside0.mk h1; replace HLS := Aside0.mk h2; replace HBL := Aside0.mk h3; clear h1 h2 h3 h4; obtain ⟨A7, c7, hcl, hcg⟩ := fields_cell HG.out HLS.out HI.out; rw [← HM.out] at hcl hcg; have HCG := Aside0.mk hcg; clear hcg)
        go_loopw [61] (fun v61 wr => ∃ (k : Nat) (ys : List S38), v61 = .int .i64 (k : Int) ∧ k ≤ m ∧ Aside0 (Kd.S k38 38 wr w1.heap.size (fun k => w1.heap.size ≤ k ∧ k < w2.heap.size) (.slice (some ⟨g, 0, none⟩) n cv) ys) ∧ Aside0 (SameLens l0 ys) ∧ Aside0 (Below w1.heap.size w1 wr) ∧ Aside0 (w5.heap.size ≤ wr.heap.size ∧ ∀ k, w2.heap.size ≤ k → k < w5.heap.size → wr.heap[k]? = w5.heap[k]?)) (fun v61 _ => ((m : Int) - intOf v61).toNat)
        case atStart => exact ⟨0, _, rfl, Nat.zero_le _, HG, HLS, HBL, HKP⟩
        case round =>
          clear HG HLS HBL HKP hcl HCG
          obtain ⟨k, ys, rfl, hk, HG, HLS, HBL, HKP⟩ := hrel
          by_cases c2 : k < m
          · have c2b : decide ((k : Int) < (m : Int)) = true := decide_eq_true (by omega)
            have c2c : decide (k < m) = true := decide_eq_true c2
            have p7 : (0 ≤ (k : Int)) = True := eq_true (by omega)
            have p8 : ((k : Int) < (m : Int)) = True := eq_true (by omega)
            have HKI := Aside0.mk c2
            have HKW := Aside0.mk (wrap_h c2 HMS.out)
            obtain ⟨A8, c8, hcl, hcg⟩ := fields_cell HG.out HLS.out HI.out
            rw [← HM.out] at hcl hcg
            obtain ⟨g2, rfl⟩ := hcg k c2
            have HCL := Aside0.mk hcl
            clear c2 hcg
            go_wp2_with ((with_reducible refine gate_store (t := 39) (p := 71) rfl ?_); refine type_put rfl rfl rfl (w0 := w1) i k HG.out HLS.out HI.out (by rw [HLS.out.2 i, ← HM.out]; exact HKI.out) HBL.out (by rw [HLS.out.2 i, ← HM.out]; exact HCL.out) rfl rfl rfl ?_; intro w9 ys9 g9 h1 h2 h3 h4 h5 h6; replace HKP := Aside0.mk (show w5.heap.size ≤ w9.heap.size ∧ ∀ k, w2.heap.size ≤ k → k < w5.heap.size → w9.heap[k]? = w5.heap[k]? from ⟨Nat.le_trans HKP.out.1 h4.size, fun k k1 k2 => (h4.block k (Nat.lt_of_lt_of_le k2 HKP.out.1) (fun e => by have := Option.some.inj e; omega)).trans (HKP.out.2 k k1 k2)⟩); replace HG := Aside0.mk h1; replace HLS := Aside0.mk h2; replace HBL := Aside0.mk h3; clear h1 h2 h3 h4 h5 h6 hcl)
            go_roundw
            case rel => exact ⟨k + 1, _, (by rw [HKW.out]), HKI.out, HG, HLS, HBL, HKP⟩
            case measure => exact meas_h HKI.out HKW.out
          · have c2b : decide ((k : Int) < (m : Int)) = false := decide_eq_false (by omega)
            have c2c : decide (k < m) = false := decide_eq_false c2
            clear c2 hk
            go_wp2_with fail
            go_roundw
            case rel => exact ⟨i + 1, _, (by rw [HW.out]), HI.out, HG, HLS, HBL, HKP⟩
            case measure => exact meas_h HI.out HW.out
      · have c1b : decide ((i : Int) < (n : Int)) = false := decide_eq_false (by omega)
        have c1c : decide (i < n) = false := decide_eq_false c1
        have HSP := Aside0.mk (show HeapAt w ⟨hb, B, vc, l0, room, 0, 0, fun _ => none, fun k => w3.heap.size ≤ k ∧ k < w5.heap.size, wr⟩ wr from HeapAt.move (s := ⟨hb, B, vc, l0, room, 0, 0, fun _ => none, fun _ => False, w2⟩) HH.out (fun k k1 k2 _ => by
          have h3 := Nat.lt_of_lt_of_le (Nat.lt_of_lt_of_le k2 HB4.out.size) HB5.out.size
          rw [HKP.out.2 k k1 h3, HB5.out.block k (Nat.lt_of_lt_of_le k2 HB4.out.size), HB4.out.block k k2]) (Nat.le_trans HB1.out.size HB2.out.size) (below_then HB1.out HB1.out.size HBL.out) _ (fun k q => ⟨Nat.lt_of_lt_of_le q.2 HKP.out.1, .inr q.1⟩))
        have HDP := Aside0.mk (HD.out.move (W1 := wr) (fun k k1 k2 => by
          have h3 := Nat.lt_of_lt_of_le k2 HB5.out.size
          have h4 : w2.heap.size ≤ k := Nat.le_trans HH.out.below.size k1
          rw [HKP.out.2 k h4 h3, HB5.out.block k k2]) (below_then HB1.out HB1.out.size HBL.out))
        have HBO := Aside0.mk (show Both w (fun k => k = g8) ⟨hb, B, vc, l0, room, 0, 0, fun _ => none, fun k => w3.heap.size ≤ k ∧ k < w5.heap.size, wr⟩ ⟨db, A0, c0, l0, room, .slice none 0 0, []⟩ wr from ⟨HSP.out, ⟨_, _, HDP.out, fun k q => ⟨⟨q.1, Nat.lt_of_lt_of_le q.2 HB5.out.size⟩, fun e => by have := HG8.out; have := q.2; omega⟩⟩, fun k q => by
          rw [q]
          exact ⟨by rw [HG8.out]; exact HB4.out.size, blk_lt HGB.out⟩, Like.start hb B vc l0 room _ wr db A0 c0, HGD.out, HFA.out.1⟩)
        have HP8 := Aside0.mk (show wr.heap[g8]? = some (.cells #[.pointer (some ⟨hb, 0, none⟩), .pointer (some ⟨db, 0, none⟩)] 35 (0, 0)) from (HKP.out.2 g8 (by rw [HG8.out]; exact Nat.le_trans HH.out.below.size HB4.out.size) (blk_lt HGB.out)).trans HGB.out)
        have HX6 := Aside0.mk (show wr.heap[b1]? = some (.cells #[.slice A0 l0.length c0, .int .i64 room, .slice A2 acts.length c2] 25 (0, 0)) from by
          have h1 := HX.out.mem List.mem_cons_self
          exact (HBL.out.block b1 (blk_lt h1)).trans h1)
        have f2 := blk_cell HX6.out 2
        simp only [List.getElem?_toArray, List.getElem?_cons_zero, List.getElem?_cons_succ] at f2
        obtain ⟨wq, rfl⟩ : ∃ wq, wq = wr := ⟨_, rfl⟩
        clear c1 hi HG HLS HBL HKP
        go_wp2_with fail
        obtain ⟨s0, hs0⟩ : ∃ s0 : HS, s0 = ⟨hb, B, vc, l0, room, 0, 0, fun _ => none, fun k => w3.heap.size ≤ k ∧ k < w5.heap.size, wq⟩ := ⟨_, rfl⟩
        rw [← hs0] at HBO
        have HS0 := Aside0.mk (show s0.hb = hb by rw [hs0])
        clear hs0
        go_loopw [77] (fun v77 wr => ∃ (j : Nat) (s : HS) (d : DS), v77 = .int .i64 (j : Int) ∧ j ≤ acts.length ∧ Aside0 (Both w (fun k => k = g8) s d wr) ∧ Aside0 (s.hb = hb) ∧ Aside0 (d.db = db) ∧ Aside0 (d.obs.length ≤ j) ∧ Aside0 (wr.heap[g8]? = some (.cells #[.pointer (some ⟨hb, 0, none⟩), .pointer (some ⟨db, 0, none⟩)] 35 (0, 0)))) (fun v77 _ => ((acts.length : Int) - intOf v77).toNat)
        case atStart => exact ⟨0, s0, _, rfl, Nat.zero_le _, HBO, HS0, ⟨rfl⟩, ⟨Nat.zero_le _⟩, HP8⟩
        case round =>
        clear HBO HS0 HP8 HX6 HSP HDP f2
        obtain ⟨j, s, d, rfl, hj, HBO, HSH, HDH, HDL, HP8⟩ := hrel
        by_cases c1 : j < acts.length
        · have c1b : decide ((j : Int) < (acts.length : Int)) = true := decide_eq_true (by omega)
          have c1c : decide (j < acts.length) = true := decide_eq_true c1
          have p5 : (0 ≤ (j : Int)) = True := eq_true (by omega)
          have p6 : ((j : Int) < (acts.length : Int)) = True := eq_true (by omega)
          have HJ := Aside0.mk c1
          have HW := Aside0.mk (wrap_h c1 (by have := HFA.out.2.1; omega))
          have HNO := Aside0.mk (show d.obs.length < 4398046511104 by have h1 := HDL.out; have h2 := HFA.out.2.1; omega)
          obtain ⟨x, hx⟩ : ∃ x, x = rd_T44 acts (j : Int) := ⟨_, rfl⟩
          obtain ⟨ad, A4, c4, e1, hx0, hx1, hx2, hx3, hx4, hx5, hx6⟩ := at_T44 HA.out (j : Int) (by omega) (by omega)
          cases e1
          rw [← hx, Int.toNat_natCast] at hx0 hx1 hx2 hx3 hx4
          rw [← hx] at hx5 hx6
          have HF5 := Aside0.mk hx5
          have HF6 := Aside0.mk hx6
          have HXO := Aside0.mk (HFA.out.2.2 x (by rw [hx]; exact rd_mem_a c1))
          replace hx0 := cell_keep HBO.out.at_.below hx0
          replace hx1 := cell_keep HBO.out.at_.below hx1
          replace hx2 := cell_keep HBO.out.at_.below hx2
          replace hx3 := cell_keep HBO.out.at_.below hx3
          replace hx4 := cell_keep HBO.out.at_.below hx4
          have hb9 : Below wr.heap.size wr (wr.alloc (.cells #[.int .i64 x.f0, .int .i64 x.f1, .int .i64 x.f2, .int .i64 x.f3, .slice A4 x.f4.length c4] 44)) := below_alloc (Below.refl _ _) _
          have hn9 := blk_new wr (.cells #[.int .i64 x.f0, .int .i64 x.f1, .int .i64 x.f2, .int .i64 x.f3, .slice A4 x.f4.length c4] 44)
          have h80 := blk_cell (blk_below HP8.out hb9) 0
          have h81 := blk_cell (blk_below HP8.out hb9) 1
          have m0 := blk_cell hn9 0
          have m1 := blk_cell hn9 1
          have m2 := blk_cell hn9 2
          have m3 := blk_cell hn9 3
          have m4 := blk_cell hn9 4
          simp only [List.getElem?_toArray, List.getElem?_cons_zero, List.getElem?_cons_succ] at h80 h81 m0 m1 m2 m3 m4
          have HB9 := Aside0.mk hb9
          clear c1 hx hx5 hx6 hj hb9 hn9
          go_wp2_with fail
          have hcall := act_calls w _ s d _ (HBO.out.step HB9.out) HNO.out A4 c4 x.f4 HF6.out HF5.out (fun y hy => int_wf (HXO.out.2.2.2.2.2.2 y hy)) (by have := HXO.out.2.2.2.2.2.1; omega) x.f0 x.f1 x.f2 x.f3 (int_wf HXO.out.2.1) (int_wf HXO.out.2.2.1) (int_wf HXO.out.2.2.2.1)
          rw [HSH.out, HDH.out] at hcall
          refine hcall.mono ?_
          clear hcall
          rintro e w7 ⟨rfl, s', d', z1, z2, z3, z4, z5⟩
          have HBO2 := Aside0.mk z1
          have HSH2 := Aside0.mk (z2.trans HSH.out)
          have HDH2 := Aside0.mk (z3.trans HDH.out)
          have HDL2 := Aside0.mk (show d'.obs.length ≤ j + 1 by have := HDL.out; omega)
          have HP82 := Aside0.mk ((z5 g8 rfl).trans (blk_below HP8.out HB9.out))
          clear z1 z2 z3 z4 z5 h80 h81 m0 m1 m2 m3 m4 hx0 hx1 hx2 hx3 hx4
          go_wp2_with fail
          go_roundw
          case rel => exact ⟨j + 1, s', d', (by rw [HW.out]), HJ.out, HBO2, HSH2, HDH2, HDL2, HP82⟩
          case measure => exact meas_h HJ.out HW.out
        · have c1b : decide ((j : Int) < (acts.length : Int)) = false := decide_eq_false (by omega)
          have c1c : decide (j < acts.length) = false := decide_eq_false c1
          have HSS := Aside0.mk (show ∀ W' : World, Below wr.heap.size wr W' → W'.cell? ⟨g8, 0, none⟩ = some (.pointer (some ⟨s.hb, 0, none⟩)) ∧ W'.cell? ⟨g8, 1, none⟩ = some (.pointer (some ⟨d.db, 0, none⟩)) from fun W' hW => by
            have h9 := blk_below HP8.out hW
            rw [HSH.out, HDH.out]
            exact ⟨blk_cell h9 0, blk_cell h9 1⟩)
          have HNO := Aside0.mk (show d.obs.length < 4398046511104 by have h1 := HDL.out; have h2 := HFA.out.2.1; omega)
          clear c1 hj
          go_wp2_with fail
          (try simp only [Act.put, List.setIfInBounds_toArray, List.set_cons_zero, List.set_cons_succ])
          refine wp_region_held_drew (S := fun w' => w'.cell? ⟨g8, 0, none⟩ = some (.pointer (some ⟨s.hb, 0, none⟩)) ∧ w'.cell? ⟨g8, 1, none⟩ = some (.pointer (some ⟨d.db, 0, none⟩))) (by kernel_rfl) ?_ (fun hHeld => ?_)
          · exact HSS.out _ (pw_below_drewN (Below.refl wr.heap.size wr) 1)
          have HBD := Aside0.mk (show Below wr.heap.size wr wr.drew from pw_below_drewN (Below.refl wr.heap.size wr) 1)
          generalize wr.drew = wd at HBD hHeld ⊢
          rw [← HDH.out]
          refine take_dst (i := 0) (v := ?_) 86 rfl rfl (by kernel_rfl) (by kernel_rfl) (by kernel_rfl) (fun _ _ _ h => h) (Or.inl ⟨by rfl, ?_⟩) (by assumption) ?_
          rotate_left
          · intro w hSw
            obtain ⟨s1, s2⟩ := hSw
            go_simp
            try with_reducible rfl
          (try simp only [Act.put, List.setIfInBounds_toArray, List.set_cons_zero, List.set_cons_succ])
          refine take_dst (i := 1) (v := ?_) 87 rfl rfl (by kernel_rfl) (by kernel_rfl) (by kernel_rfl) (fun _ _ _ h => h) (Or.inl ⟨by rfl, ?_⟩) (by assumption) ?_
          rotate_left
          · intro w hSw
            obtain ⟨s1, s2⟩ := hSw
            go_simp
            try with_reducible rfl
          (try simp only [Act.put, List.setIfInBounds_toArray, List.set_cons_zero, List.set_cons_succ])
          refine wpAnyH_ready (rs := [2]) (by kernel_rfl) (by simp) ?_
          refine AllReadyH.cons rfl (fun K hK => ?_) AllReadyH.nil
          go_simp
          obtain ⟨F, rb, hd4, _⟩ := (HBO.out.step HBD.out).doc
          have HD4 := Aside0.mk hd4
          clear hd4
          refine (rf_Live w F d rb s HBO.out.like HNO.out wd HD4.out).mono ?_
          rintro e w7 ⟨v, rfl, hV, hb7⟩
          have HB7 := Aside0.mk (below_step HBD.out hb7)
          obtain ⟨A7, c7, e7, hc7, hC7⟩ := Kd.R_reads hV
          subst e7
          have HV7 := Aside0.mk hC7
          clear hV hb7 hc7 hC7
          go_simp
          refine hK.out _ _ (HSS.out _ HB7.out) (fun hHeld => ?_)
          (try simp only [Act.put, List.setIfInBounds_toArray, List.set_cons_zero, List.set_cons_succ])
          clear hK K
          refine wpAnyH_ready (rs := [3]) (by kernel_rfl) (by simp) ?_
          refine AllReadyH.cons rfl (fun K hK => ?_) AllReadyH.nil
          go_simp
          refine (look_calls w _ s d w7 (HBO.out.step HB7.out) HNO.out A7 c7 (liveL s) HV7.out (fun y9 hy9 => by
            obtain ⟨o9, ho9⟩ := Option.isSome_iff_exists.1 ((liveL_mem HBO.out.like.sum.1 y9).1 hy9)
            have h1 := HBO.out.like.sum.1 y9 o9 ho9
            have h2 := HBO.out.like.last
            have h3 := HNO.out
            unfold I64
            omega) (by have := live_few HBO.out.like.sum HBO.out.like.used; omega)).mono ?_
          rintro e w8 ⟨rfl, hb8⟩
          have HB8 := Aside0.mk (below_step HB7.out hb8)
          clear hb8
          go_simp
          refine hK.out _ _ (HSS.out _ HB8.out) (fun hHeld => ?_)
          (try simp only [Act.put, List.setIfInBounds_toArray, List.set_cons_zero, List.set_cons_succ])
          clear hK K
          refine take_dst (i := 4) (v := ?_) 2 rfl rfl (by kernel_rfl) (by kernel_rfl) (by kernel_rfl) (fun _ _ _ h => h) (Or.inl ⟨by rfl, ?_⟩) (by assumption) ?_
          rotate_left
          · intro w hSw
            obtain ⟨s1, s2⟩ := hSw
            go_simp
            try with_reducible rfl
          (try simp only [Act.put, List.setIfInBounds_toArray, List.set_cons_zero, List.set_cons_succ])
          refine wpAnyH_done (by kernel_rfl) ?_ _
          go_wp2_with fail
          go_ret
          exact ⟨rfl, below_step HBO.out.at_.below HB8.out⟩
end Go.Proofs.YtkjagcamikkjkaaGreat.P

end

section
namespace Go.Proofs.YtkjagcamikkjkaaGreat.P
open Go.RowKit Go.Proofs.YtkjagcamikkjkaaGreatW.PrintWords
def provisolaw14_HeapLives.Pure : Prop := ∀ (a0_0 : List (S38)) (a0_1 : Int) (a0_2 : List (S44)), (fun l : List (S38) => l.length ≤ 9223372036854775807 ∧ l.length * 48 ≤ 140737488351232 ∧ ∀ x ∈ l, Ok38 x) a0_0 → (fun n : Int => (Lit.int .i64 n).wf = true) a0_1 → (fun l : List (S44) => l.length ≤ 9223372036854775807 ∧ l.length * 56 ≤ 140737488351232 ∧ ∀ x ∈ l, Ok44 x) a0_2 → provisolaw14_HeapLives.Facts a0_0 a0_1 a0_2
end Go.Proofs.YtkjagcamikkjkaaGreat.P

end

section
namespace Go.Proofs.YtkjagcamikkjkaaGreat.Pure
open Go.RowKit Go.Proofs.YtkjagcamikkjkaaGreat.P Go.Proofs.YtkjagcamikkjkaaGreatW.PrintWords
theorem HeapLives : provisolaw14_HeapLives.Pure := fun _ _ _ h0 _ h2 => ⟨h0, h2.2.1, h2.2.2⟩
end Go.Proofs.YtkjagcamikkjkaaGreat.Pure

end

section
namespace Go.Proofs.YtkjagcamikkjkaaGreat.heapLives
open Go.ChangeShapes Go.WideShapes Go.ChangeAt Go.RowKit Go.Proofs.YtkjagcamikkjkaaGreatW.PrintWords Go.Proofs.YtkjagcamikkjkaaGreat.Sees Go.Proofs.YtkjagcamikkjkaaGreat.P
open Go.ChangeMaps (open_string shut_string)
set_option linter.unusedVariables false
set_option linter.unusedSimpArgs false
theorem own : ownKnob Tryz.prog.godebug = none := by kernel_rfl
theorem laidOut : laidOutB Tryz.prog = true := by kernel_rfl
set_option maxRecDepth 100000 in
theorem lifted (os : Os) (started : os.Started) (H : Type) (enc : TypeId × Value → H) :
    ReturnsInHanded {} Tryz.checked os 3 .any (Rows.heapLivesSpec.pre6 enc Tryz.prog Tryz.f3 Rows.heapLivesRow.domain false) (Rows.heapLivesSpec.post enc Tryz.prog Tryz.f3 false true false false) := by
  refine returnsInHanded_of_change_sized (C := Tryz.checked) own started (by kernel_rfl) Tryz.func3
    (ChangeSpec.witness6 (enc := enc) (C := Tryz.checked) false ⟨#[], #[.agg #[.slice none 0 0, .int .i64 0, .slice none 0 0]], []⟩ 8 (by kernel_rfl) (by kernel_rfl) (by kernel_rfl) (by kernel_rfl)) ?_
  intro W base args ds gs before hval0 hW hcnd hsz0 _
  have hsz : (DataW.weightsEach Tryz.prog (Tryz.f3.params.toList ++ Rows.heapLivesSpec.plain.varTypes Tryz.prog) (ds ++ gs)).all (· ≤ reachBytes) = true := hsz0
  have hval : ∀ (j : Nat) t v, Tryz.f3.params[j]? = some t → args[j]? = some v → Value.okWide Tryz.prog W .any base t v := hval0
  have hW' := hW
  obtain ⟨p, q, hA0, hV, rfl, hfz, hnd⟩ := hW
  have hA : DataW.TrodAll enc Tryz.prog W 0 (fun _ => true) true Tryz.f3.params.toList args.toList ds p := hA0
  rw [Tryz.params3] at hA hval hsz
  obtain ⟨v0, vs0, d0, ds0, p0, q0, hargs, rfl, rfl, h0, r0⟩ := trodAll_cons hA
  obtain ⟨rfl, rfl, rfl⟩ := trodAll_nil r0
  obtain rfl : args = #[v0] := by cases args; simp_all
  obtain ⟨rfl, rfl⟩ := trodVars_none hV
  have k0 := h0
  have lt0 : ∀ x ∈ p0, x.block < W.heap.size := by obtain ⟨m, hm⟩ := k0; exact DataW.trod_lt m _ _ _ hm
  obtain ⟨y0, hy0, oy0⟩ := see_arg (j := 0) (t := 25) (sees_struct (fun y => y) (fun y => y) (fun _ => rfl) Tryz.underlying25 (by kernel_rfl) (sees_more rfl (by kernel_rfl) (sees_slice (B := 48) Tryz.underlying22 (by kernel_rfl) (by kernel_rfl) sees38) (sees_more rfl (by kernel_rfl) (sees_int Tryz.underlying3) (sees_last rfl (by kernel_rfl) (sees_slice (B := 56) Tryz.underlying23 (by kernel_rfl) (by kernel_rfl) sees44))))) hsz rfl rfl h0
  obtain ⟨cs0, rfl, hcs0⟩ := okWide_struct Tryz.underlying25 (hval 0 25 v0 rfl rfl)
  obtain ⟨_, _, e0, ⟨AA0_0, CC0_0, rfl, HH0_0, RR0_0⟩, ⟨_, _, rfl, rfl, ⟨AA0_1, CC0_1, rfl, HH0_1, RR0_1⟩⟩⟩ := hy0
  obtain rfl : cs0 = #[.slice AA0_0 (y0.1).length CC0_0, .int .i64 (y0.2.1), .slice AA0_1 (y0.2.2).length CC0_1] := by have e_ := congrArg List.toArray e0; simpa [Value.cells] using e_
  clear hA0 hval0 hsz0 hsz
  have hk := Pure.HeapLives y0.1 y0.2.1 y0.2.2 oy0.1 oy0.2.1 oy0.2.2
  refine (provisolaw14_HeapLives.calls _ _ y0.1 (y0.2.1) _ _ y0.2.2 W RR0_0 HH0_0 RR0_1 HH0_1 hk).mono ?_
  rintro e W' ⟨rfl, bel0⟩
  have bel : Below W.heap.size W W' := bel0
  exact ⟨_, rfl, _, _, _, [], _, [], hW', trodAll_mk1 (shut_bool Tryz.underlying4 _), (trodAll_cons_mk (Below.trod laidOut (by kernel_rfl) (of_decide_eq_true (by kernel_rfl)) k0 bel lt0) trodAll_mk0), rfl, bel.frame _, fun h => by cases h⟩
theorem over : Rows.heapLivesRow.holds Tryz.pinned (OpenSpec.ofChange Rows.heapLivesSpec) :=
  OpenClaim.holds_of_wide 3 Tryz.f3 rfl rfl rfl rfl rfl rfl rfl ⟨rfl, rfl, rfl, rfl, rfl⟩ rfl rfl rfl rfl rfl (by kernel_rfl) Tryz.func3 (by kernel_rfl)
    (of_decide_eq_true (by kernel_rfl)) (by unfold Func.isWrapper; first | (rw [if_pos (by decide +kernel)]; kernel_rfl) | (rw [if_neg (by decide +kernel)]; exact ⟨rfl, rfl⟩))
    (fun os started H enc _ => lifted os started H enc)
theorem proved : Rows.HeapLivesSaid := over
end Go.Proofs.YtkjagcamikkjkaaGreat.heapLives
namespace Go.Proofs.YtkjagcamikkjkaaGreat
theorem heapLives_holds : Rows.HeapLivesSaid := heapLives.proved
end Go.Proofs.YtkjagcamikkjkaaGreat

end

