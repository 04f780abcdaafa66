/- Proved: the law StoreTorn holds for every input that the row lets in. No condition of ours. -/
import Derived.Test.YtfakdphkklclgaaBStoreTornd
import Derived.Test.YtfakdphkklclgaaRows
import Derived.ShutString
import Derived.ChangeOld
import Derived.Deep.CondSized
import Derived.Lib.SmallJoins
section
namespace Go.Proofs.Ytfakdphkklclgaa.P
open Go.RowKit Go.Proofs.YtfakdphkklclgaaW.PrintWords Go.Proofs.YtfakdphkklclgaaW.PrintLast Go.Proofs.YtfakdphkklclgaaW.PrintMore
attribute [local go_sem] max2_int min2_int max_two min_two max_three min_three max_four min_four
set_option linter.unusedVariables false
set_option linter.unusedSimpArgs false
section
open Go.ChangeMaps Go.MapKept
set_option linter.unusedVariables false
set_option maxHeartbeats 6400000 in
set_option maxRecDepth 100000 in
theorem laid_d {Z : Nat → Prop} {x : Value} {s : Sto} {w : World} (h : DAt Z x s w) (hi : s.img.length ≤ 1048576) (l : List S101) (A1 : Option Addr) (c1 : Nat) (hl : Kd.F k101 w Z A1 l.length l) (hc1 : l.length ≤ c1) (r : List Int) (Ar : Option Addr) (cr : Nat) (hr : Kd.C (Kd.int .u8) w Ar r.length r) (hcr : r.length ≤ cr) (hr1 : 2 ≤ r.length) (hr2 : r.length ≤ 5000) : Calls Try.prog 43 #[x, .slice A1 l.length c1, .slice Ar r.length cr] w fun e w' => DPost Z w (laidS s l r) e w' := by
  obtain ⟨A0, c0, B1, d1, rfl, g1, g2, g3, g4⟩ := h
  have HI := Aside0.mk (And.intro g1 (And.intro g2 (And.intro g3 g4)))
  have HL := Aside0.mk hl
  have HR := Aside0.mk hr
  clear g1 g2 g3 g4 hl hr
  have hw1 : wrap64 ((s.img.length : Int) + (r.length : Int)) = (s.img.length : Int) + (r.length : Int) := by unfold wrap64; omega
  have hw2 : wrap64 ((s.img.length : Int) + (r.length : Int) + 1) = (s.img.length : Int) + (r.length : Int) + 1 := by unfold wrap64; omega
  by_cases c9 : 1048576 < s.img.length + r.length + 1
  · have c9b : decide ((1048576 : Int) < (s.img.length : Int) + (r.length : Int) + 1) = true := decide_eq_true (by omega)
    go_enter Try.func43, Try.ntmps43
    go_wp2_with (first | ((with_reducible refine gate_dst (N := 3) rfl ?_); refine rw_box rfl 29 rfl (cs := #[.slice A0 s.img.length c0, .slice B1 s.L.length d1]) rfl (Rws.nil w) ?_; intro b3 w1 hX; have HM := Aside0.mk hX; clear hX) | ((with_reducible refine gate_dst (N := 6) rfl ?_); refine rw_allocS rfl 29 rfl (cs := #[.slice none 0 0, .slice none 0 0]) (by kernel_rfl) HM.out ?_; intro b6 w2 hg6 hM hb6; have HM2 := Aside0.mk hM; have hc30 := blk_cell (hM.mem (List.mem_cons_of_mem _ List.mem_cons_self)) 0; have hc31 := blk_cell (hM.mem (List.mem_cons_of_mem _ List.mem_cons_self)) 1; clear hg6 hM hb6) | ((with_reducible refine gate_dst (N := 20) rfl ?_); refine rw_load rfl 29 rfl rfl HM2.out (List.mem_cons_of_mem _ List.mem_cons_self) _ Try.underlying29 rfl (by kernel_rfl) ?_) | (refine rw_storeS rfl 29 rfl rfl (cs' := #[.slice A0 s.img.length c0, .slice B1 s.L.length d1]) rfl [] HM2.out (by kernel_rfl) rfl (by show _ = _; simp [Value.oneCell']) ?_; intro w3 hM hk3; have HM3 := Aside0.mk hM; clear hM hk3))
    unfold laidS
    rw [if_pos c9]
    refine bodyPost_ret (results_ctt rfl _ _ b6 29 #[.slice A0 s.img.length c0, .slice B1 s.L.length d1] (0, 0) _ rfl (HM3.out.mem List.mem_cons_self) Try.underlying29 rfl (by kernel_rfl)) rfl ?_
    have hb := HM3.out.below
    exact ⟨_, _, rfl, ⟨A0, c0, B1, d1, rfl, HI.out.1, HI.out.2.1, Kd.F_mono (Kd.F_below HI.out.2.2.1 hb) (fun k q => .inl q), Kd.F_mono (Kd.F_below HI.out.2.2.2 hb) (fun k q => .inl q)⟩, DWr.nil _ _, hb⟩
  · have c9b : decide ((1048576 : Int) < (s.img.length : Int) + (r.length : Int) + 1) = false := decide_eq_false (by omega)
    have HCF := Aside0.mk c9
    have hcr1 : (cr = 1) = False := eq_false (by omega)
    obtain ⟨ad, e9, _⟩ := HR.out.2.2 (by omega)
    subst e9
    go_enter Try.func43, Try.ntmps43
    go_wp2_with (first | ((with_reducible refine gate_dst (N := 3) rfl ?_); refine rw_box rfl 29 rfl (cs := #[.slice A0 s.img.length c0, .slice B1 s.L.length d1]) rfl (Rws.nil w) ?_; intro b3 w1 hX; have HM := Aside0.mk hX; clear hX) | ((with_reducible refine gate_dst (N := 6) rfl ?_); refine rw_allocS rfl 29 rfl (cs := #[.slice none 0 0, .slice none 0 0]) (by kernel_rfl) HM.out ?_; intro b6 w2 hg6 hM hb6; have HM2 := Aside0.mk hM; have hc30 := blk_cell (hM.mem (List.mem_cons_of_mem _ List.mem_cons_self)) 0; have hc31 := blk_cell (hM.mem (List.mem_cons_of_mem _ List.mem_cons_self)) 1; clear hg6 hM hb6) | ((with_reducible refine gate_builtin (b := .append) (xs := #[.tmp 21, .tmp 23]) rfl ?_); at_builtin; refine halt_at ?_))
    unfold Halt_
    have hlb : b3 < w2.heap.size ∧ b6 < w2.heap.size := ⟨blk_lt (HM2.out.mem (List.mem_cons_of_mem _ List.mem_cons_self)), blk_lt (HM2.out.mem List.mem_cons_self)⟩
    have HB2 := Aside0.mk (Below.refl w2.heap.size w2)
    have hwz := HM2.out.below.size
    clear hc30 hc31
    have ht := one_own2 w2 0 w2.heap.size HB2.out.size
    have hb := below_alloc (Below.refl w2.heap.size w2) (.cells #[.int .u8 0] 5)
    generalize (w2.alloc (.cells #[.int .u8 0] 5)) = w3 at ht hb ⊢
    have HR3 := Aside0.mk ht
    have HB3 := Aside0.mk (below_step HB2.out hb)
    have HD3 := Aside0.mk hb
    clear ht hb
    have hCd : Kd.C (Kd.int .u8) w3 (some (ad.add 1)) (r.length - 1) (r.drop 1) := by
      have h9 := Kd.C_drop (m := 1) (Kd.C_below HR.out (HM2.out.below.trans (HB3.out.mono hwz))) (by omega) hcr
      rw [if_neg (by omega), List.length_drop] at h9
      exact h9
    have HCD := Aside0.mk hCd
    clear hCd
    refine Kd.R_append_rows (Kd.int .u8) (w0 := w3) w2.heap.size rfl (.tmp 21) (.tmp 23) 23 5 (.int .u8 0) 1 rfl Try.underlying23 info5 rfl (by decide) (by omega) (.slice (some ⟨w2.heap.size, 0, none⟩) 1 1) ([(0 : Int)]) (r.drop 1) (some (ad.add 1)) (r.length - 1) (cr - 1) (fun _ => True) (fun _ => False) rfl rfl HR3.out HCD.out (fun _ _ h => h) (fun _ h => h.elim) (fun _ _ => trivial) (Below.refl _ _) (by have := HB3.out.size; omega) (by simp; omega) ?_
    intro v4 w4 ho hb hg hat
    obtain ⟨A4, c4, e4⟩ := Kd.R_slice ho
    have hl4 : ([(0 : Int)] ++ r.drop 1).length = r.length := by simp; try omega
    rw [hl4] at e4
    subst e4
    have HR4 := Aside0.mk ho
    have HB4 := Aside0.mk (HB3.out.trans hb)
    clear ho hb hg hat
    go_wp2_with ((with_reducible refine gate_builtin (b := .append) (xs := #[.tmp 25, .tmp 26]) rfl ?_); at_builtin; refine halt_at ?_)
    unfold Halt_
    have ht := one_own2 w4 0 w2.heap.size HB4.out.size
    have hb := below_alloc (Below.refl w4.heap.size w4) (.cells #[.int .u8 0] 5)
    generalize (w4.alloc (.cells #[.int .u8 0] 5)) = w5 at ht hb ⊢
    have HR5 := Aside0.mk ht
    have HB5 := Aside0.mk (below_step HB4.out hb)
    have HD5 := Aside0.mk hb
    clear ht hb
    refine Kd.R_append_rows (Kd.int .u8) (w0 := w5) w2.heap.size rfl (.tmp 25) (.tmp 26) 23 5 (.int .u8 0) 1 rfl Try.underlying23 info5 rfl (by decide) (by omega) (.slice A4 r.length c4) ([(0 : Int)] ++ r.drop 1) ([(0 : Int)]) (some ⟨w4.heap.size, 0, none⟩) (1) (1) (fun _ => True) (fun _ => False) rfl rfl (Kd.R_below HR4.out HD5.out) (Kd.R_reads' HR5.out).2.2 (fun _ _ h => h) (fun _ h => h.elim) (fun _ _ => trivial) (Below.refl _ _) (by have := HB5.out.size; omega) (by rw [hl4]; omega) ?_
    intro v6 w6 ho hb hg hat
    obtain ⟨A6, c6, e6⟩ := Kd.R_slice ho
    have hl6 : ([(0 : Int)] ++ r.drop 1 ++ [(0 : Int)]).length = r.length + 1 := by simp; try omega
    rw [hl6] at e6
    subst e6
    have HR6 := Aside0.mk ho
    have HB6 := Aside0.mk (HB5.out.trans hb)
    clear ho hb hg hat
    have HM6 := Aside0.mk (HM2.out.old (fun p hp => blk_lt (HM2.out.lies p hp).1) HB6.out hwz)
    have hc30 := blk_cell (HM6.out.mem (List.mem_cons_of_mem _ List.mem_cons_self)) 0
    have hc30b := blk_cell (blk_below (HM6.out.mem (List.mem_cons_of_mem _ List.mem_cons_self)) (below_alloc (Below.refl w6.heap.size w6) (.cells #[] 5))) 0
    go_wp2_with ((with_reducible refine gate_builtin (b := .append) (xs := #[.tmp 31, .tmp 33]) rfl ?_); at_builtin; refine halt_at ?_)
    unfold Halt_
    clear hc30b
    have HQ6 := Aside0.mk (Below.refl w6.heap.size w6)
    have HM6W := Aside0.mk HM6.out.below
    have ht := nil_own w6 w6.heap.size HQ6.out.size
    have hb := below_alloc (Below.refl w6.heap.size w6) (.cells #[] 5)
    generalize (w6.alloc (.cells #[] 5)) = w7 at ht hb ⊢
    have HR7 := Aside0.mk ht
    have HQ7 := Aside0.mk (below_step HQ6.out hb)
    have HD7 := Aside0.mk hb
    clear ht hb
    refine Kd.R_append_rows (Kd.int .u8) (w0 := w7) w6.heap.size rfl (.tmp 31) (.tmp 33) 23 5 (.int .u8 0) 1 rfl Try.underlying23 info5 rfl (by decide) (by omega) (.slice (some ⟨w6.heap.size, 0, none⟩) 0 0) (([] : List Int)) (s.img) (A0) (s.img.length) (c0) (fun _ => True) (fun _ => False) rfl rfl HR7.out (Kd.C_below (Kd.F_now HI.out.2.2.1) (HM6W.out.trans (HQ7.out.mono HM6W.out.size))) (fun _ _ h => h) (fun _ h => h.elim) (fun _ _ => trivial) (Below.refl _ _) (by have := HQ7.out.size; omega) (by simp; omega) ?_
    intro v8 w8 ho hb hg hat
    obtain ⟨A8, c8, e8⟩ := Kd.R_slice ho
    have hl8 : (([] : List Int) ++ s.img).length = s.img.length := by simp; try omega
    rw [hl8] at e8
    subst e8
    have HR8 := Aside0.mk ho
    have HQ8 := Aside0.mk (HQ7.out.trans hb)
    clear ho hb hg hat
    go_wp2_with ((with_reducible refine gate_builtin (b := .append) (xs := #[.tmp 35, .tmp 36]) rfl ?_); at_builtin; refine halt_at ?_)
    unfold Halt_
    refine Kd.R_append_rows (Kd.int .u8) (w0 := w8) w6.heap.size rfl (.tmp 35) (.tmp 36) 23 5 (.int .u8 0) 1 rfl Try.underlying23 info5 rfl (by decide) (by omega) (.slice A8 s.img.length c8) (([] : List Int) ++ s.img) (r) (some ad) (r.length) (cr) (fun _ => True) (fun _ => False) rfl rfl HR8.out (Kd.C_below HR.out (HM6W.out.trans (HQ8.out.mono HM6W.out.size))) (fun _ _ h => h) (fun _ h => h.elim) (fun _ _ => trivial) (Below.refl _ _) (by have := HQ8.out.size; omega) (by rw [hl8]; omega) ?_
    intro v9 w9 ho hb hg hat
    obtain ⟨A9, c9, e9⟩ := Kd.R_slice ho
    have hl9 : (([] : List Int) ++ s.img ++ r).length = s.img.length + r.length := by simp; try omega
    rw [hl9] at e9
    subst e9
    have HR9 := Aside0.mk ho
    have HQ9 := Aside0.mk (HQ8.out.trans hb)
    clear ho hb hg hat
    have HB9 := Aside0.mk (HB6.out.trans (HQ9.out.mono HB6.out.size))
    replace HR9 := Aside0.mk (show Kd.R (Kd.int .u8) 5 w9 w2.heap.size (fun _ => True) (.slice A9 (s.img.length + r.length) c9) (s.img ++ r) from Kd.R_lower HR9.out HB6.out.size)
    replace HR6 := Aside0.mk (Kd.R_below HR6.out HQ9.out)
    have HM9 := Aside0.mk (HM2.out.old (fun p hp => blk_lt (HM2.out.lies p hp).1) HB9.out hwz)
    clear hc30
    go_wp2_with fail
    have hpos : 0 < r.length := by omega
    have HL9 := Aside0.mk (show b6 < w2.heap.size ∧ w2.heap.size ≤ w9.heap.size from ⟨hlb.2, HB9.out.size⟩)
    have HZ9 := Aside0.mk hwz
    have HK9 := Aside0.mk (Kept.refl w9 (fun k => k = b6))
    have HSS := Aside0.mk (show ∀ W' : World, Below w.heap.size w W' → W'.cell? ad = some (.int .u8 (rd r 0)) from fun W' hW => by
      have h9 := Kd.foot_int (Kd.C_below HR.out hW) 0 (by decide) (by omega)
      simpa [Addr.add] using h9)
    (try simp only [Act.put, List.setIfInBounds_toArray, List.set_cons_zero, List.set_cons_succ])
    refine wp_region_held_drew (S := fun w' => w'.cell? ad = some (.int .u8 (rd r 0))) (by kernel_rfl) ?_ (fun hHeld => ?_)
    · exact HSS.out _ (pw_below_drewN HM9.out.below 1)
    have HM10 := Aside0.mk (HM9.out.drewN 1)
    have HK10 := Aside0.mk (HK9.out.drewN 1)
    replace HM10 := Aside0.mk (show Rws w _ w9.drew from HM10.out)
    replace HK10 := Aside0.mk (show Kept w9 w9.drew (fun k => k = b6) from HK10.out)
    generalize w9.drew = w10 at HM10 HK10 hHeld ⊢
    refine take_dst (i := 0) (v := ?_) 38 rfl rfl (by kernel_rfl) (by kernel_rfl) (by kernel_rfl) (fun _ _ _ h => h) (Or.inl ⟨by rfl, ?_⟩) (by assumption) ?_
    rotate_left
    · intro w hSw
      obtain q1 := hSw
      go_simp
      try with_reducible rfl
    (try simp only [Act.put, List.setIfInBounds_toArray, List.set_cons_zero, List.set_cons_succ])
    refine take_dst (i := 1) (v := ?_) 39 rfl rfl (by kernel_rfl) (by kernel_rfl) (by kernel_rfl) (fun _ _ _ h => h) (Or.inl ⟨by rfl, ?_⟩) (by assumption) ?_
    rotate_left
    · intro w hSw
      obtain q1 := hSw
      go_simp
      try with_reducible rfl
    (try simp only [Act.put, List.setIfInBounds_toArray, List.set_cons_zero, List.set_cons_succ])
    refine take_dst (i := 2) (v := ?_) 40 rfl rfl (by kernel_rfl) (by kernel_rfl) (by kernel_rfl) (fun _ _ _ h => h) (Or.inl ⟨by rfl, ?_⟩) (by assumption) ?_
    rotate_left
    · intro w hSw
      obtain q1 := hSw
      go_simp
      try with_reducible rfl
    (try simp only [Act.put, List.setIfInBounds_toArray, List.set_cons_zero, List.set_cons_succ])
    refine take_dst (i := 3) (v := ?_) 41 rfl rfl (by kernel_rfl) (by kernel_rfl) (by kernel_rfl) (fun _ _ _ h => h) (Or.inl ⟨by rfl, ?_⟩) (by assumption) ?_
    rotate_left
    · intro w hSw
      obtain q1 := hSw
      go_simp
      try with_reducible rfl
    (try simp only [Act.put, List.setIfInBounds_toArray, List.set_cons_zero, List.set_cons_succ])
    refine take_dst (i := 4) (v := ?_) 42 rfl rfl (by kernel_rfl) (by kernel_rfl) (by kernel_rfl) (fun _ _ _ h => h) (Or.inl ⟨by rfl, ?_⟩) (by assumption) ?_
    rotate_left
    · intro w hSw
      obtain q1 := hSw
      go_simp
      try with_reducible rfl
    (try simp only [Act.put, List.setIfInBounds_toArray, List.set_cons_zero, List.set_cons_succ])
    refine take_dst (i := 5) (v := ?_) 43 rfl rfl (by kernel_rfl) (by kernel_rfl) (by kernel_rfl) (fun _ _ _ h => h) (Or.inl ⟨by rfl, ?_⟩) (by assumption) ?_
    rotate_left
    · intro w hSw
      obtain q1 := hSw
      go_simp
      try with_reducible rfl
    (try simp only [Act.put, List.setIfInBounds_toArray, List.set_cons_zero, List.set_cons_succ])
    refine take_dst (i := 6) (v := ?_) 44 rfl rfl (by kernel_rfl) (by kernel_rfl) (by kernel_rfl) (fun _ _ _ h => h) (Or.inl ⟨by rfl, ?_⟩) (by assumption) ?_
    rotate_left
    · intro w hSw
      obtain q1 := hSw
      go_simp
      try with_reducible rfl
    (try simp only [Act.put, List.setIfInBounds_toArray, List.set_cons_zero, List.set_cons_succ])
    refine take_dst (i := 7) (v := ?_) 45 rfl rfl (by kernel_rfl) (by kernel_rfl) (by kernel_rfl) (fun _ _ _ h => h) (Or.inl ⟨by rfl, ?_⟩) (by assumption) ?_
    rotate_left
    · intro w hSw
      obtain q1 := hSw
      go_simp
      try with_reducible rfl
    (try simp only [Act.put, List.setIfInBounds_toArray, List.set_cons_zero, List.set_cons_succ])
    refine take_dst (i := 8) (v := ?_) 46 rfl rfl (by kernel_rfl) (by kernel_rfl) (by kernel_rfl) (fun _ _ _ h => h) (Or.inl ⟨by rfl, ?_⟩) (by assumption) ?_
    rotate_left
    · intro w hSw
      obtain q1 := hSw
      go_simp
      try with_reducible rfl
    (try simp only [Act.put, List.setIfInBounds_toArray, List.set_cons_zero, List.set_cons_succ])
    refine take_dst (i := 9) (v := ?_) 47 rfl rfl (by kernel_rfl) (by kernel_rfl) (by kernel_rfl) (fun _ _ _ h => h) (Or.inl ⟨by rfl, ?_⟩) (by assumption) ?_
    rotate_left
    · intro w hSw
      obtain q1 := hSw
      go_simp
      try with_reducible rfl
    (try simp only [Act.put, List.setIfInBounds_toArray, List.set_cons_zero, List.set_cons_succ])
    refine wpAnyH_ready (rs := [10, 13]) (by kernel_rfl) (by simp) ?_
    refine AllReadyH.cons rfl (fun K hK => ?_) (AllReadyH.cons rfl (fun K hK => ?_) (AllReadyH.nil))
    · go_simp
      have hb := below_alloc (Below.refl w10.heap.size w10) (.cells #[.int .u8 (rd r 0)] 5)
      have hk := blk_new w10 (.cells #[.int .u8 (rd r 0)] 5)
      refine hK.out _ _ (HSS.out _ (below_step HM10.out.below hb)) (fun hHeld => ?_)
      (try simp only [Act.put, List.setIfInBounds_toArray, List.set_cons_zero, List.set_cons_succ])
      clear hK K
      obtain ⟨gk, hgk⟩ : ∃ gk, gk = w10.heap.size := ⟨_, rfl⟩
      rw [← hgk] at hk ⊢
      generalize (w10.alloc (.cells #[.int .u8 (rd r 0)] 5)) = w11 at hb hk hHeld ⊢
      have HM11 := Aside0.mk (HM10.out.step hb)
      have HK11 := Aside0.mk (HK10.out.below hb)
      have HGK := Aside0.mk hk
      have HGE := Aside0.mk (show w9.heap.size ≤ gk by have := HK10.out.1; omega)
      clear hb hk hgk
      refine take_dst (i := 11) (v := ?_) 49 rfl rfl (by kernel_rfl) (by kernel_rfl) (by kernel_rfl) (fun _ _ _ h => h) (Or.inl ⟨by rfl, ?_⟩) (by assumption) ?_
      rotate_left
      · intro w hSw
        obtain q1 := hSw
        go_simp
        try with_reducible rfl
      (try simp only [Act.put, List.setIfInBounds_toArray, List.set_cons_zero, List.set_cons_succ])
      refine wpAnyH_ready (rs := [12, 13]) (by kernel_rfl) (by simp) ?_
      refine AllReadyH.cons rfl (fun K hK => ?_) (AllReadyH.cons rfl (fun K hK => ?_) (AllReadyH.nil))
      · go_simp
        have hb := below_alloc (Below.refl w11.heap.size w11) (.cells #[.int .i64 (s.img.length : Int), .slice A6 (r.length + 1) c6, .int .i64 (s.img.length : Int), .slice (some ⟨gk, 0, none⟩) 1 1] 52)
        have hk := blk_new w11 (.cells #[.int .i64 (s.img.length : Int), .slice A6 (r.length + 1) c6, .int .i64 (s.img.length : Int), .slice (some ⟨gk, 0, none⟩) 1 1] 52)
        refine hK.out _ _ (HSS.out _ (below_step HM11.out.below hb)) (fun hHeld => ?_)
        (try simp only [Act.put, List.setIfInBounds_toArray, List.set_cons_zero, List.set_cons_succ])
        clear hK K
        obtain ⟨gm, hgm⟩ : ∃ gm, gm = w11.heap.size := ⟨_, rfl⟩
        rw [← hgm] at hk ⊢
        generalize (w11.alloc (.cells #[.int .i64 (s.img.length : Int), .slice A6 (r.length + 1) c6, .int .i64 (s.img.length : Int), .slice (some ⟨gk, 0, none⟩) 1 1] 52)) = w12 at hb hk hHeld ⊢
        have HM12 := Aside0.mk (HM11.out.step hb)
        have HK12 := Aside0.mk (HK11.out.below hb)
        replace HGK := Aside0.mk (blk_below HGK.out hb)
        have HGM := Aside0.mk hk
        have HGE2 := Aside0.mk (show w9.heap.size ≤ gm by have := HK11.out.1; omega)
        clear hb hk hgm
        refine wpAnyH_ready (rs := [13]) (by kernel_rfl) (by simp) ?_
        refine AllReadyH.cons rfl (fun K hK => ?_) (AllReadyH.nil)
        refine rw_store_wp 29 rfl rfl (cs' := #[.slice A9 (s.img.length + r.length) c9, .slice A1 l.length c1]) rfl [] HM12.out (by kernel_rfl) rfl (by show _ = _; simp [Value.oneCell']) ?_
        intro w13 hM hkp
        refine hK.out _ _ (HSS.out _ hM.below) (fun hHeld => ?_)
        (try simp only [Act.put, List.setIfInBounds_toArray, List.set_cons_zero, List.set_cons_succ])
        clear hK K
        have HM13 := Aside0.mk hM
        have HK13 := Aside0.mk (show Kept w9 w13 (fun k => k = b6) from ⟨Nat.le_trans HK12.out.1 hkp.1, fun k hk hn => (hkp.2 k (Nat.lt_of_lt_of_le hk HK12.out.1) hn).trans (HK12.out.2 k hk hn)⟩)
        replace HGK := Aside0.mk ((hkp.2 gk (blk_lt HGK.out) (fun e => by have := HGE.out; have := HL9.out; omega)).trans HGK.out)
        replace HGM := Aside0.mk ((hkp.2 gm (blk_lt HGM.out) (fun e => by have := HGE2.out; have := HL9.out; omega)).trans HGM.out)
        clear hM hkp
        refine take_dst (i := 14) (v := ?_) 7 rfl rfl (by kernel_rfl) (by kernel_rfl) (by kernel_rfl) (fun _ _ _ h => h) (Or.inl ⟨by rfl, ?_⟩) (by assumption) ?_
        rotate_left
        · intro w hSw
          obtain q1 := hSw
          go_simp
          try with_reducible rfl
        (try simp only [Act.put, List.setIfInBounds_toArray, List.set_cons_zero, List.set_cons_succ])
        refine take_dst (i := 15) (v := ?_) 8 rfl rfl (by kernel_rfl) (by kernel_rfl) (by kernel_rfl) (fun _ _ _ h => h) (Or.inl ⟨by rfl, ?_⟩) (by assumption) ?_
        rotate_left
        · intro w hSw
          obtain q1 := hSw
          go_simp
          try with_reducible rfl
        (try simp only [Act.put, List.setIfInBounds_toArray, List.set_cons_zero, List.set_cons_succ])
        refine wpAnyH_done (by kernel_rfl) ?_ _
        go_wp2_with fail
        unfold laidS
        rw [if_neg HCF.out]
        refine bodyPost_ret (results_ctt rfl _ _ b6 29 #[.slice A9 (s.img.length + r.length) c9, .slice A1 l.length c1] (0, 0) _ rfl (HM13.out.mem List.mem_cons_self) Try.underlying29 rfl (by kernel_rfl)) rfl ?_
        exact laid_end HL.out hc1 HM13.out HK13.out HL9.out HGK.out HGM.out HGE.out HGE2.out HR6.out HR9.out HZ9.out
      · refine rw_store_wp 29 rfl rfl (cs' := #[.slice A9 (s.img.length + r.length) c9, .slice A1 l.length c1]) rfl [] HM11.out (by kernel_rfl) rfl (by show _ = _; simp [Value.oneCell']) ?_
        intro w12 hM hkp
        refine hK.out _ _ (HSS.out _ hM.below) (fun hHeld => ?_)
        (try simp only [Act.put, List.setIfInBounds_toArray, List.set_cons_zero, List.set_cons_succ])
        clear hK K
        have HM12 := Aside0.mk hM
        have HK12 := Aside0.mk (show Kept w9 w12 (fun k => k = b6) from ⟨Nat.le_trans HK11.out.1 hkp.1, fun k hk hn => (hkp.2 k (Nat.lt_of_lt_of_le hk HK11.out.1) hn).trans (HK11.out.2 k hk hn)⟩)
        replace HGK := Aside0.mk ((hkp.2 gk (blk_lt HGK.out) (fun e => by have := HGE.out; have := HL9.out; omega)).trans HGK.out)
        clear hM hkp
        refine wpAnyH_ready (rs := [12]) (by kernel_rfl) (by simp) ?_
        refine AllReadyH.cons rfl (fun K hK => ?_) (AllReadyH.nil)
        go_simp
        have hb := below_alloc (Below.refl w12.heap.size w12) (.cells #[.int .i64 (s.img.length : Int), .slice A6 (r.length + 1) c6, .int .i64 (s.img.length : Int), .slice (some ⟨gk, 0, none⟩) 1 1] 52)
        have hk := blk_new w12 (.cells #[.int .i64 (s.img.length : Int), .slice A6 (r.length + 1) c6, .int .i64 (s.img.length : Int), .slice (some ⟨gk, 0, none⟩) 1 1] 52)
        refine hK.out _ _ (HSS.out _ (below_step HM12.out.below hb)) (fun hHeld => ?_)
        (try simp only [Act.put, List.setIfInBounds_toArray, List.set_cons_zero, List.set_cons_succ])
        clear hK K
        obtain ⟨gm, hgm⟩ : ∃ gm, gm = w12.heap.size := ⟨_, rfl⟩
        rw [← hgm] at hk ⊢
        generalize (w12.alloc (.cells #[.int .i64 (s.img.length : Int), .slice A6 (r.length + 1) c6, .int .i64 (s.img.length : Int), .slice (some ⟨gk, 0, none⟩) 1 1] 52)) = w13 at hb hk hHeld ⊢
        have HM13 := Aside0.mk (HM12.out.step hb)
        have HK13 := Aside0.mk (HK12.out.below hb)
        replace HGK := Aside0.mk (blk_below HGK.out hb)
        have HGM := Aside0.mk hk
        have HGE2 := Aside0.mk (show w9.heap.size ≤ gm by have := HK12.out.1; omega)
        clear hb hk hgm
        refine take_dst (i := 14) (v := ?_) 7 rfl rfl (by kernel_rfl) (by kernel_rfl) (by kernel_rfl) (fun _ _ _ h => h) (Or.inl ⟨by rfl, ?_⟩) (by assumption) ?_
        rotate_left
        · intro w hSw
          obtain q1 := hSw
          go_simp
          try with_reducible rfl
        (try simp only [Act.put, List.setIfInBounds_toArray, List.set_cons_zero, List.set_cons_succ])
        refine take_dst (i := 15) (v := ?_) 8 rfl rfl (by kernel_rfl) (by kernel_rfl) (by kernel_rfl) (fun _ _ _ h => h) (Or.inl ⟨by rfl, ?_⟩) (by assumption) ?_
        rotate_left
        · intro w hSw
          obtain q1 := hSw
          go_simp
          try with_reducible rfl
        (try simp only [Act.put, List.setIfInBounds_toArray, List.set_cons_zero, List.set_cons_succ])
        refine wpAnyH_done (by kernel_rfl) ?_ _
        go_wp2_with fail
        unfold laidS
        rw [if_neg HCF.out]
        refine bodyPost_ret (results_ctt rfl _ _ b6 29 #[.slice A9 (s.img.length + r.length) c9, .slice A1 l.length c1] (0, 0) _ rfl (HM13.out.mem List.mem_cons_self) Try.underlying29 rfl (by kernel_rfl)) rfl ?_
        exact laid_end HL.out hc1 HM13.out HK13.out HL9.out HGK.out HGM.out HGE.out HGE2.out HR6.out HR9.out HZ9.out
    · refine rw_store_wp 29 rfl rfl (cs' := #[.slice A9 (s.img.length + r.length) c9, .slice A1 l.length c1]) rfl [] HM10.out (by kernel_rfl) rfl (by show _ = _; simp [Value.oneCell']) ?_
      intro w11 hM hkp
      refine hK.out _ _ (HSS.out _ hM.below) (fun hHeld => ?_)
      (try simp only [Act.put, List.setIfInBounds_toArray, List.set_cons_zero, List.set_cons_succ])
      clear hK K
      have HM11 := Aside0.mk hM
      have HK11 := Aside0.mk (show Kept w9 w11 (fun k => k = b6) from ⟨Nat.le_trans HK10.out.1 hkp.1, fun k hk hn => (hkp.2 k (Nat.lt_of_lt_of_le hk HK10.out.1) hn).trans (HK10.out.2 k hk hn)⟩)
      clear hM hkp
      refine wpAnyH_ready (rs := [10]) (by kernel_rfl) (by simp) ?_
      refine AllReadyH.cons rfl (fun K hK => ?_) (AllReadyH.nil)
      go_simp
      have hb := below_alloc (Below.refl w11.heap.size w11) (.cells #[.int .u8 (rd r 0)] 5)
      have hk := blk_new w11 (.cells #[.int .u8 (rd r 0)] 5)
      refine hK.out _ _ (HSS.out _ (below_step HM11.out.below hb)) (fun hHeld => ?_)
      (try simp only [Act.put, List.setIfInBounds_toArray, List.set_cons_zero, List.set_cons_succ])
      clear hK K
      obtain ⟨gk, hgk⟩ : ∃ gk, gk = w11.heap.size := ⟨_, rfl⟩
      rw [← hgk] at hk ⊢
      generalize (w11.alloc (.cells #[.int .u8 (rd r 0)] 5)) = w12 at hb hk hHeld ⊢
      have HM12 := Aside0.mk (HM11.out.step hb)
      have HK12 := Aside0.mk (HK11.out.below hb)
      have HGK := Aside0.mk hk
      have HGE := Aside0.mk (show w9.heap.size ≤ gk by have := HK11.out.1; omega)
      clear hb hk hgk
      refine take_dst (i := 11) (v := ?_) 49 rfl rfl (by kernel_rfl) (by kernel_rfl) (by kernel_rfl) (fun _ _ _ h => h) (Or.inl ⟨by rfl, ?_⟩) (by assumption) ?_
      rotate_left
      · intro w hSw
        obtain q1 := hSw
        go_simp
        try with_reducible rfl
      (try simp only [Act.put, List.setIfInBounds_toArray, List.set_cons_zero, List.set_cons_succ])
      refine wpAnyH_ready (rs := [12]) (by kernel_rfl) (by simp) ?_
      refine AllReadyH.cons rfl (fun K hK => ?_) (AllReadyH.nil)
      go_simp
      have hb := below_alloc (Below.refl w12.heap.size w12) (.cells #[.int .i64 (s.img.length : Int), .slice A6 (r.length + 1) c6, .int .i64 (s.img.length : Int), .slice (some ⟨gk, 0, none⟩) 1 1] 52)
      have hk := blk_new w12 (.cells #[.int .i64 (s.img.length : Int), .slice A6 (r.length + 1) c6, .int .i64 (s.img.length : Int), .slice (some ⟨gk, 0, none⟩) 1 1] 52)
      refine hK.out _ _ (HSS.out _ (below_step HM12.out.below hb)) (fun hHeld => ?_)
      (try simp only [Act.put, List.setIfInBounds_toArray, List.set_cons_zero, List.set_cons_succ])
      clear hK K
      obtain ⟨gm, hgm⟩ : ∃ gm, gm = w12.heap.size := ⟨_, rfl⟩
      rw [← hgm] at hk ⊢
      generalize (w12.alloc (.cells #[.int .i64 (s.img.length : Int), .slice A6 (r.length + 1) c6, .int .i64 (s.img.length : Int), .slice (some ⟨gk, 0, none⟩) 1 1] 52)) = w13 at hb hk hHeld ⊢
      have HM13 := Aside0.mk (HM12.out.step hb)
      have HK13 := Aside0.mk (HK12.out.below hb)
      replace HGK := Aside0.mk (blk_below HGK.out hb)
      have HGM := Aside0.mk hk
      have HGE2 := Aside0.mk (show w9.heap.size ≤ gm by have := HK12.out.1; omega)
      clear hb hk hgm
      refine take_dst (i := 14) (v := ?_) 7 rfl rfl (by kernel_rfl) (by kernel_rfl) (by kernel_rfl) (fun _ _ _ h => h) (Or.inl ⟨by rfl, ?_⟩) (by assumption) ?_
      rotate_left
      · intro w hSw
        obtain q1 := hSw
        go_simp
        try with_reducible rfl
      (try simp only [Act.put, List.setIfInBounds_toArray, List.set_cons_zero, List.set_cons_succ])
      refine take_dst (i := 15) (v := ?_) 8 rfl rfl (by kernel_rfl) (by kernel_rfl) (by kernel_rfl) (fun _ _ _ h => h) (Or.inl ⟨by rfl, ?_⟩) (by assumption) ?_
      rotate_left
      · intro w hSw
        obtain q1 := hSw
        go_simp
        try with_reducible rfl
      (try simp only [Act.put, List.setIfInBounds_toArray, List.set_cons_zero, List.set_cons_succ])
      refine wpAnyH_done (by kernel_rfl) ?_ _
      go_wp2_with fail
      unfold laidS
      rw [if_neg HCF.out]
      refine bodyPost_ret (results_ctt rfl _ _ b6 29 #[.slice A9 (s.img.length + r.length) c9, .slice A1 l.length c1] (0, 0) _ rfl (HM13.out.mem List.mem_cons_self) Try.underlying29 rfl (by kernel_rfl)) rfl ?_
      exact laid_end HL.out hc1 HM13.out HK13.out HL9.out HGK.out HGM.out HGE.out HGE2.out HR6.out HR9.out HZ9.out
end
end Go.Proofs.Ytfakdphkklclgaa.P

end

section
namespace Go.Proofs.Ytfakdphkklclgaa.P
open Go.RowKit Go.Proofs.YtfakdphkklclgaaW.PrintWords Go.Proofs.YtfakdphkklclgaaW.PrintLast Go.Proofs.YtfakdphkklclgaaW.PrintMore
attribute [local go_sem] max2_int min2_int max_two min_two max_three min_three max_four min_four
set_option linter.unusedVariables false
set_option linter.unusedSimpArgs false
section
open Go.ChangeMaps Go.MapKept
set_option linter.unusedVariables false
theorem Rws.grownT {w0 W W1 : World} {l : List (Nat × TypeId × Array Value)} {base : Nat} {ok : Nat → Prop} {v : Value} {xs : List Int} (h : Rws w0 l W) (hR : Kd.R (Kd.int .u8) 5 W base ok v xs) (hg : W.grownBy W1 v.ownBlock) (ht : ∀ p ∈ l, p.2.1 ≠ 5) (hb : Below w0.heap.size w0 W1) : Rws w0 l W1 :=
  ⟨fun p hp => ⟨(hg.block _ (blk_lt (h.lies p hp).1) (fun e => by
    obtain ⟨cs, h7⟩ := Kd.R_typed hR p.1 e.symm
    exact typ_nst (h.lies p hp).1 h7 (ht p hp) rfl)).trans (h.lies p hp).1, (h.lies p hp).2⟩, h.ne, hb⟩
set_option maxHeartbeats 12800000 in
set_option maxRecDepth 100000 in
theorem Put_d {Z : Nat → Prop} {xv : Value} {s : Sto} {w : World} (KF : Nat) (nm : ByteArray → Bool) (hK : StFacts KF nm) (hg : Good nm s) (h : DAt Z xv s w) (x : ByteArray) (b : List Int) (A : Option Addr) (c : Nat) (hr : Kd.C (Kd.int .u8) w A b.length b) (hc : b.length ≤ c) : Calls Try.prog 13 #[xv, .string x, .slice A b.length c] w fun e w' => DPost Z w (putS nm s x b) e w' := by
  have HX := Aside0.mk h
  obtain ⟨A0, c0, B1, d1, rfl, g1, g2, g3, g4⟩ := h
  have HI := Aside0.mk (And.intro g1 (And.intro g2 (And.intro g3 g4)))
  have HK := Aside0.mk hK
  have HG := Aside0.mk hg
  have HN := Aside0.mk (hK.rd.rname x)
  clear g1 g2 g3 g4 hK hg
  have HC := Aside0.mk hr
  clear hr
  by_cases c1 : nm x = false
  · rw [c1] at HN
    unfold putS
    rw [if_pos c1]
    go_enter Try.func13, Try.ntmps13
    go_wp2_with (first | ((with_reducible refine gate_dst (N := 3) rfl ?_); refine rw_box rfl 29 rfl (cs := #[.slice A0 s.img.length c0, .slice B1 s.L.length d1]) rfl (Rws.nil w) ?_; intro b3 w1 hX; have HM := Aside0.mk hX; clear hX) | ((with_reducible refine gate_dst (N := 6) rfl ?_); refine rw_allocS rfl 29 rfl (cs := #[.slice none 0 0, .slice none 0 0]) (by kernel_rfl) HM.out ?_; intro b6 w2 hg6 hM hb6; have HM2 := Aside0.mk hM; clear hg6 hM hb6 HM))
    refine (provisoref01_IsName.calls KF x _ _ HN.out).mono ?_
    rintro e w3 ⟨rfl, k1, rfl⟩
    have HM3 := Aside0.mk (HM2.out.drewN k1)
    have hc0 := blk_cell (HM3.out.mem (List.mem_cons_of_mem _ List.mem_cons_self)) 0
    have hc1 := blk_cell (HM3.out.mem (List.mem_cons_of_mem _ List.mem_cons_self)) 1
    go_wp2_with (first | ((with_reducible refine gate_dst (N := 14) rfl ?_); refine rw_load rfl 29 rfl rfl HM3.out (List.mem_cons_of_mem _ List.mem_cons_self) _ Try.underlying29 rfl (by kernel_rfl) ?_) | (refine rw_storeS rfl 29 rfl rfl (cs' := #[.slice A0 s.img.length c0, .slice B1 s.L.length d1]) rfl [] HM3.out (by kernel_rfl) rfl (by show _ = _; simp [Value.oneCell']) ?_; intro w9 hM hk3; have HM9 := Aside0.mk hM; clear hM hk3))
    refine bodyPost_ret (results_ctt rfl _ _ b6 29 #[.slice A0 s.img.length c0, .slice B1 s.L.length d1] (0, 0) _ rfl (HM9.out.mem List.mem_cons_self) Try.underlying29 rfl (by kernel_rfl)) rfl ?_
    exact ⟨_, _, rfl, (DAt.mono (DAt.step HX.out HM9.out.below) (fun k q => .inl q)), DWr.nil _ _, HM9.out.below⟩
  · rw [Bool.not_eq_false] at c1
    rw [c1] at HN
    unfold putS
    rw [if_neg (by rw [c1]; decide)]
    by_cases c2 : 4096 < b.length
    · have c2b : decide ((4096 : Int) < (b.length : Int)) = true := decide_eq_true (by omega)
      rw [if_pos c2]
      go_enter Try.func13, Try.ntmps13
      go_wp2_with (first | ((with_reducible refine gate_dst (N := 3) rfl ?_); refine rw_box rfl 29 rfl (cs := #[.slice A0 s.img.length c0, .slice B1 s.L.length d1]) rfl (Rws.nil w) ?_; intro b3 w1 hX; have HM := Aside0.mk hX; clear hX) | ((with_reducible refine gate_dst (N := 6) rfl ?_); refine rw_allocS rfl 29 rfl (cs := #[.slice none 0 0, .slice none 0 0]) (by kernel_rfl) HM.out ?_; intro b6 w2 hg6 hM hb6; have HM2 := Aside0.mk hM; clear hg6 hM hb6 HM))
      refine (provisoref01_IsName.calls KF x _ _ HN.out).mono ?_
      rintro e w3 ⟨rfl, k1, rfl⟩
      have HM3 := Aside0.mk (HM2.out.drewN k1)
      have hc0 := blk_cell (HM3.out.mem (List.mem_cons_of_mem _ List.mem_cons_self)) 0
      have hc1 := blk_cell (HM3.out.mem (List.mem_cons_of_mem _ List.mem_cons_self)) 1
      go_wp2_with (first | ((with_reducible refine gate_dst (N := 18) rfl ?_); refine rw_load rfl 29 rfl rfl HM3.out (List.mem_cons_of_mem _ List.mem_cons_self) _ Try.underlying29 rfl (by kernel_rfl) ?_) | (refine rw_storeS rfl 29 rfl rfl (cs' := #[.slice A0 s.img.length c0, .slice B1 s.L.length d1]) rfl [] HM3.out (by kernel_rfl) rfl (by show _ = _; simp [Value.oneCell']) ?_; intro w9 hM hk3; have HM9 := Aside0.mk hM; clear hM hk3))
      refine bodyPost_ret (results_ctt rfl _ _ b6 29 #[.slice A0 s.img.length c0, .slice B1 s.L.length d1] (0, 0) _ rfl (HM9.out.mem List.mem_cons_self) Try.underlying29 rfl (by kernel_rfl)) rfl ?_
      exact ⟨_, _, rfl, (DAt.mono (DAt.step HX.out HM9.out.below) (fun k q => .inl q)), DWr.nil _ _, HM9.out.below⟩
    · have c2b : decide ((4096 : Int) < (b.length : Int)) = false := decide_eq_false (by omega)
      rw [if_neg c2]
      have hlen := HG.out.len
      by_cases c3 : lkL s.L x = none
      · have c3b : (lkL s.L x).isSome = false := by rw [c3]; rfl
        by_cases c4 : 16 ≤ s.L.length
        · have c4b : ((s.L.length : Int) == 16) = true := by rw [beq_iff_eq]; omega
          rw [if_pos ⟨c3, c4⟩]
          go_enter Try.func13, Try.ntmps13
          go_wp2_with (first | ((with_reducible refine gate_dst (N := 3) rfl ?_); refine rw_box rfl 29 rfl (cs := #[.slice A0 s.img.length c0, .slice B1 s.L.length d1]) rfl (Rws.nil w) ?_; intro b3 w1 hX; have HM := Aside0.mk hX; clear hX) | ((with_reducible refine gate_dst (N := 6) rfl ?_); refine rw_allocS rfl 29 rfl (cs := #[.slice none 0 0, .slice none 0 0]) (by kernel_rfl) HM.out ?_; intro b6 w2 hg6 hM hb6; have HM2 := Aside0.mk hM; clear hg6 hM hb6 HM))
          refine (provisoref01_IsName.calls KF x _ _ HN.out).mono ?_
          rintro e w3 ⟨rfl, k1, rfl⟩
          have HM3 := Aside0.mk (HM2.out.drewN k1)
          have hc0 := blk_cell (HM3.out.mem (List.mem_cons_of_mem _ List.mem_cons_self)) 0
          have hc1 := blk_cell (HM3.out.mem (List.mem_cons_of_mem _ List.mem_cons_self)) 1
          go_wp2_with fail
          refine (provisoref21_place.calls KF B1 d1 s.L x _ _ _ (Kd.F_now (Kd.F_below HI.out.2.2.2 HM3.out.below)) HI.out.2.1 (HK.out.place s.L x (by have := HG.out.len; omega) HG.out.srt)).mono ?_
          rintro e w4 ⟨rfl, k2, rfl⟩
          have HM4 := Aside0.mk (HM2.out.drewN (k1 + k2))
          clear hc0 hc1
          have hc0 := blk_cell (HM4.out.mem (List.mem_cons_of_mem _ List.mem_cons_self)) 0
          have hc1 := blk_cell (HM4.out.mem (List.mem_cons_of_mem _ List.mem_cons_self)) 1
          go_wp2_with (first | ((with_reducible refine gate_dst (N := 34) rfl ?_); refine rw_load rfl 29 rfl rfl HM4.out (List.mem_cons_of_mem _ List.mem_cons_self) _ Try.underlying29 rfl (by kernel_rfl) ?_) | (refine rw_storeS rfl 29 rfl rfl (cs' := #[.slice A0 s.img.length c0, .slice B1 s.L.length d1]) rfl [] HM4.out (by kernel_rfl) rfl (by show _ = _; simp [Value.oneCell']) ?_; intro w9 hM hk3; have HM9 := Aside0.mk hM; clear hM hk3))
          refine bodyPost_ret (results_ctt rfl _ _ b6 29 #[.slice A0 s.img.length c0, .slice B1 s.L.length d1] (0, 0) _ rfl (HM9.out.mem List.mem_cons_self) Try.underlying29 rfl (by kernel_rfl)) rfl ?_
          exact ⟨_, _, rfl, (DAt.mono (DAt.step HX.out HM9.out.below) (fun k q => .inl q)), DWr.nil _ _, HM9.out.below⟩
        · have c4b : ((s.L.length : Int) == 16) = false := beq_eq_false_iff_ne.mpr (by omega)
          rw [if_neg (fun q => c4 q.2)]
          go_enter Try.func13, Try.ntmps13
          go_wp2_with (first | ((with_reducible refine gate_dst (N := 3) rfl ?_); refine rw_box rfl 29 rfl (cs := #[.slice A0 s.img.length c0, .slice B1 s.L.length d1]) rfl (Rws.nil w) ?_; intro b3 w1 hX; have HM := Aside0.mk hX; clear hX) | ((with_reducible refine gate_dst (N := 6) rfl ?_); refine rw_allocS rfl 29 rfl (cs := #[.slice none 0 0, .slice none 0 0]) (by kernel_rfl) HM.out ?_; intro b6 w2 hg6 hM hb6; have HM2 := Aside0.mk hM; clear hg6 hM hb6 HM))
          refine (provisoref01_IsName.calls KF x _ _ HN.out).mono ?_
          rintro e w3 ⟨rfl, k1, rfl⟩
          have HM3 := Aside0.mk (HM2.out.drewN k1)
          have hc0 := blk_cell (HM3.out.mem (List.mem_cons_of_mem _ List.mem_cons_self)) 0
          have hc1 := blk_cell (HM3.out.mem (List.mem_cons_of_mem _ List.mem_cons_self)) 1
          go_wp2_with fail
          refine (provisoref21_place.calls KF B1 d1 s.L x _ _ _ (Kd.F_now (Kd.F_below HI.out.2.2.2 HM3.out.below)) HI.out.2.1 (HK.out.place s.L x (by have := HG.out.len; omega) HG.out.srt)).mono ?_
          rintro e w4 ⟨rfl, k2, rfl⟩
          have HM4 := Aside0.mk (HM2.out.drewN (k1 + k2))
          clear hc0 hc1
          have hc0 := blk_cell (HM4.out.mem (List.mem_cons_of_mem _ List.mem_cons_self)) 0
          have hc1 := blk_cell (HM4.out.mem (List.mem_cons_of_mem _ List.mem_cons_self)) 1
          go_wp2_with fail
          have HMD := Aside0.mk (HM4.out.drewN 1)
          (try simp only [Act.put, List.setIfInBounds_toArray, List.set_cons_zero, List.set_cons_succ])
          refine wp_region_held_drew (S := fun w' => Rws w [(b3, 29, #[.slice A0 s.img.length c0, .slice B1 s.L.length d1])] w') (by kernel_rfl) ?_ (fun hHeld => ?_)
          · exact HMD.out.tail
          have HM10 := Aside0.mk (show Rws w _ (World.drew _) from HMD.out)
          clear HMD hc0 hc1
          generalize World.drew _ = w10 at HM10 hHeld ⊢
          refine take_dst (i := 0) (v := .agg #[.slice A0 s.img.length c0, .slice B1 s.L.length d1]) 35 rfl rfl (by kernel_rfl) (by kernel_rfl) (by kernel_rfl) (fun _ _ _ h => h) (rw_yields (by rfl) 29 rfl rfl (fun _ h => h) List.mem_cons_self _ Try.underlying29 rfl (by kernel_rfl)) (by assumption) ?_
          (try simp only [Act.put, List.setIfInBounds_toArray, List.set_cons_zero, List.set_cons_succ])
          refine take_dst (i := 1) (v := ?_) 36 rfl rfl (by kernel_rfl) (by kernel_rfl) (by kernel_rfl) (fun _ _ _ h => h) (Or.inl ⟨by rfl, ?_⟩) (by assumption) ?_
          rotate_left
          · intro w hSw
            go_simp
            try with_reducible rfl
          (try simp only [Act.put, List.setIfInBounds_toArray, List.set_cons_zero, List.set_cons_succ])
          refine take_dst (i := 2) (v := ?_) 37 rfl rfl (by kernel_rfl) (by kernel_rfl) (by kernel_rfl) (fun _ _ _ h => h) (Or.inl ⟨by rfl, ?_⟩) (by assumption) ?_
          rotate_left
          · intro w hSw
            have q0 := blk_cell (hSw.mem List.mem_cons_self) 0
            have q1 := blk_cell (hSw.mem List.mem_cons_self) 1
            go_simp
            try with_reducible rfl
          (try simp only [Act.put, List.setIfInBounds_toArray, List.set_cons_zero, List.set_cons_succ])
          refine take_dst (i := 3) (v := ?_) 38 rfl rfl (by kernel_rfl) (by kernel_rfl) (by kernel_rfl) (fun _ _ _ h => h) (Or.inl ⟨by rfl, ?_⟩) (by assumption) ?_
          rotate_left
          · intro w hSw
            go_simp
            try with_reducible rfl
          (try simp only [Act.put, List.setIfInBounds_toArray, List.set_cons_zero, List.set_cons_succ])
          refine take_dst (i := 5) (v := ?_) 40 rfl rfl (by kernel_rfl) (by kernel_rfl) (by kernel_rfl) (fun _ _ _ h => h) (Or.inl ⟨by rfl, ?_⟩) (by assumption) ?_
          rotate_left
          · intro w hSw
            go_simp
            try with_reducible rfl
          (try simp only [Act.put, List.setIfInBounds_toArray, List.set_cons_zero, List.set_cons_succ])
          refine take_dst (i := 8) (v := ?_) 43 rfl rfl (by kernel_rfl) (by kernel_rfl) (by kernel_rfl) (fun _ _ _ h => h) (Or.inl ⟨by rfl, ?_⟩) (by assumption) ?_
          rotate_left
          · intro w hSw
            go_simp
            try with_reducible rfl
          (try simp only [Act.put, List.setIfInBounds_toArray, List.set_cons_zero, List.set_cons_succ])
          refine take_dst (i := 9) (v := ?_) 44 rfl rfl (by kernel_rfl) (by kernel_rfl) (by kernel_rfl) (fun _ _ _ h => h) (Or.inl ⟨by rfl, ?_⟩) (by assumption) ?_
          rotate_left
          · intro w hSw
            go_simp
            try with_reducible rfl
          (try simp only [Act.put, List.setIfInBounds_toArray, List.set_cons_zero, List.set_cons_succ])
          refine wpAnyH_ready (rs := [4]) (by kernel_rfl) (by simp) ?_
          refine AllReadyH.cons rfl (fun K hK => ?_) (AllReadyH.nil)
          go_simp
          have hb := below_alloc (Below.refl w10.heap.size w10) (.cells #[] 5)
          have ho := nil_own w10 w10.heap.size (Nat.le_refl _)
          have HM11 := Aside0.mk (HM10.out.step hb)
          refine hK.out _ _ (HM10.out.step hb).tail (fun hHeld => ?_)
          (try simp only [Act.put, List.setIfInBounds_toArray, List.set_cons_zero, List.set_cons_succ])
          clear hK K
          obtain ⟨gk, hgk⟩ : ∃ gk, gk = w10.heap.size := ⟨_, rfl⟩
          rw [← hgk] at ho ⊢
          generalize (w10.alloc (.cells #[] 5)) = w11 at hb ho HM11 hHeld ⊢
          have HO := Aside0.mk ho
          have HB11 := Aside0.mk hb
          have HZK := Aside0.mk (show w.heap.size ≤ gk by have := HM10.out.below.size; omega)
          have HL6 := Aside0.mk (show w.heap.size ≤ b6 ∧ b6 < gk from ⟨(HM10.out.lies _ List.mem_cons_self).2, by have := blk_lt (HM10.out.mem List.mem_cons_self); omega⟩)
          have hgl : gk ≤ w11.heap.size := by have := hb.size; omega
          clear hb ho hgk
          refine wpAnyH_ready (rs := [6]) (by kernel_rfl) (by simp) ?_
          refine AllReadyH.cons rfl (fun K hK => ?_) (AllReadyH.nil)
          refine Kd.R_append_rows_step (Kd.int .u8) (w0 := w11) gk rfl (.tmp 39) (.tmp 40) 23 5 (.int .u8 0) 1 rfl Try.underlying23 info5 rfl (by decide) (by omega) (.slice (some ⟨gk, 0, none⟩) 0 0) ([] : List Int) b A b.length c (fun _ => True) (fun _ => False) rfl rfl HO.out (Kd.C_below HC.out HM11.out.below) (fun _ _ h => h) (fun _ h => h.elim) (fun _ _ => trivial) (Below.refl _ _) hgl (by simp; omega) ?_
          intro v12 w12 ho hb hg hat
          have HM12 := Aside0.mk (HM11.out.grownT HO.out hg (by intro p hp; rcases List.mem_cons.1 hp with rfl | hp; exact (show 29 ≠ 5 by decide); rw [List.mem_singleton.1 hp]; exact (show 29 ≠ 5 by decide)) (HM11.out.below.trans (hb.mono HZK.out)))
          obtain ⟨A12, c12, e12⟩ := Kd.R_slice ho
          rw [List.nil_append] at e12 ho
          subst e12
          have HO2 := Aside0.mk ho
          have HG12 := Aside0.mk (show gk ≤ w12.heap.size from Nat.le_trans hgl hb.size)
          have HB12 := Aside0.mk hb
          clear ho hb hg hat
          go_simp
          refine hK.out _ _ HM12.out.tail (fun hHeld => ?_)
          (try simp only [Act.put, List.setIfInBounds_toArray, List.set_cons_zero, List.set_cons_succ])
          clear hK K
          refine wpAnyH_ready (rs := [7]) (by kernel_rfl) (by simp) ?_
          refine AllReadyH.cons rfl (fun K hK => ?_) (AllReadyH.nil)
          go_simp
          refine (provisoref21_with.calls KF (fun k => Z k ∧ k < w.heap.size) B1 d1 s.L x (fun k => gk ≤ k) A12 c12 b (putL x b s.L) w12 (Kd.V_mk HI.out.2.1 (Kd.F_below (Kd.F_bound HI.out.2.2.2) HM12.out.below)) (Kd.V_mono (Kd.R_V (Kd.R_bound HO2.out)) (fun k q => q.2.1)) (HK.out.with_ s.L x b (by have := HG.out.len; omega) HG.out.srt)).mono ?_
          rintro e w13 ⟨v13, rfl, hN, hb⟩
          have hV := Kd.N_V (base' := 0) hN
          obtain ⟨A13, c13, e13⟩ := Kd.V_slice hV
          subst e13
          have HV := Aside0.mk (Kd.V_at hV).2
          have HM13 := Aside0.mk (HM12.out.step hb)
          have HS13 := Aside0.mk hb.size
          clear hN hb hV
          go_simp
          refine hK.out _ _ HM13.out.tail (fun hHeld => ?_)
          (try simp only [Act.put, List.setIfInBounds_toArray, List.set_cons_zero, List.set_cons_succ])
          clear hK K
          refine wpAnyH_ready (rs := [10]) (by kernel_rfl) (by simp) ?_
          refine AllReadyH.cons rfl (fun K hK => ?_) (AllReadyH.nil)
          go_simp
          refine (record_d 1 (.inl rfl) x (HK.out.siz x c1).2 b (by omega) A c w13 (Kd.C_below HC.out HM13.out.below)).mono ?_
          rintro e w14 ⟨v14, rfl, hR, hb⟩
          obtain ⟨A14, c14, e14⟩ := Kd.R_slice hR
          subst e14
          have HR14 := Aside0.mk hR
          have HM14 := Aside0.mk (HM13.out.step hb)
          have HS14 := Aside0.mk hb.size
          replace HV := Aside0.mk (And.intro HV.out.1 (Kd.F_below HV.out.2 hb))
          clear hR hb
          go_simp
          refine hK.out _ _ HM14.out.tail (fun hHeld => ?_)
          (try simp only [Act.put, List.setIfInBounds_toArray, List.set_cons_zero, List.set_cons_succ])
          clear hK K
          refine wpAnyH_ready (rs := [11]) (by kernel_rfl) (by simp) ?_
          refine AllReadyH.cons rfl (fun K hK => ?_) (AllReadyH.nil)
          go_simp
          have hrl : (recB 1 x b).length = x.size + 4 + b.length := by unfold recB; simp [bytes_len]; omega
          have hxs := HK.out.siz x c1
          refine (laid_d (Z := fun k => (Z k ∧ k < w.heap.size) ∨ gk ≤ k) (DAt.mono (DAt.step HX.out.bound HM14.out.below) (fun k q => .inl q)) HG.out.img (putL x b s.L) A13 c13 (Kd.F_mono HV.out.2 (fun k q => ?hz)) HV.out.1 (recB 1 x b) A14 c14 (Kd.R_reads' HR14.out).2.2 (Kd.R_reads' HR14.out).2.1 (by omega) (by omega)).mono ?_
          case hz =>
            rcases q with (q | q) | q
            · exact .inl q
            · exact .inr q
            · exact .inr (Nat.le_trans HG12.out q)
          rintro e w15 ⟨y, m, rfl, hy, hm, hb⟩
          have HY := Aside0.mk hy
          have HW := Aside0.mk hm
          have HB15 := Aside0.mk hb
          have HM15 := Aside0.mk (HM14.out.step hb)
          have HZ14 := Aside0.mk (show gk ≤ w14.heap.size from Nat.le_trans HG12.out (Nat.le_trans HS13.out HS14.out))
          obtain ⟨A15, c15, A16, c16, e15, _⟩ := hy
          subst e15
          clear hm hb hrl hxs
          go_simp
          refine hK.out _ _ HM15.out.tail (fun hHeld => ?_)
          (try simp only [Act.put, List.setIfInBounds_toArray, List.set_cons_zero, List.set_cons_succ])
          clear hK K
          refine take_dst (i := 12) (v := ?_) 47 rfl rfl (by kernel_rfl) (by kernel_rfl) (by kernel_rfl) (fun _ _ _ h => h) (Or.inl ⟨by rfl, ?_⟩) (by assumption) ?_
          rotate_left
          · intro w hSw
            go_simp
            try with_reducible rfl
          (try simp only [Act.put, List.setIfInBounds_toArray, List.set_cons_zero, List.set_cons_succ])
          refine take_dst (i := 13) (v := ?_) 48 rfl rfl (by kernel_rfl) (by kernel_rfl) (by kernel_rfl) (fun _ _ _ h => h) (Or.inl ⟨by rfl, ?_⟩) (by assumption) ?_
          rotate_left
          · intro w hSw
            go_simp
            try with_reducible rfl
          (try simp only [Act.put, List.setIfInBounds_toArray, List.set_cons_zero, List.set_cons_succ])
          refine take_dst (i := 14) (v := ?_) 49 rfl rfl (by kernel_rfl) (by kernel_rfl) (by kernel_rfl) (fun _ _ _ h => h) (Or.inl ⟨by rfl, ?_⟩) (by assumption) ?_
          rotate_left
          · intro w hSw
            go_simp
            try with_reducible rfl
          (try simp only [Act.put, List.setIfInBounds_toArray, List.set_cons_zero, List.set_cons_succ])
          refine wpAnyH_ready (rs := [15]) (by kernel_rfl) (by simp) ?_
          refine AllReadyH.cons rfl (fun K hK => ?_) (AllReadyH.nil)
          refine rw_store_wp 29 rfl rfl (cs' := #[.slice A15 (laidS s (putL x b s.L) (recB 1 x b)).1.img.length c15, .slice A16 (laidS s (putL x b s.L) (recB 1 x b)).1.L.length c16]) rfl [] HM15.out (by kernel_rfl) rfl (by show _ = _; simp [Value.oneCell']) ?_
          intro w16 hM hkp
          refine hK.out _ _ hM.tail (fun hHeld => ?_)
          (try simp only [Act.put, List.setIfInBounds_toArray, List.set_cons_zero, List.set_cons_succ])
          clear hK K
          have HM16 := Aside0.mk hM
          have HKP := Aside0.mk hkp
          clear hM hkp
          refine take_dst (i := 16) (v := ?_) 7 rfl rfl (by kernel_rfl) (by kernel_rfl) (by kernel_rfl) (fun _ _ _ h => h) (Or.inl ⟨by rfl, ?_⟩) (by assumption) ?_
          rotate_left
          · intro w hSw
            go_simp
            try with_reducible rfl
          (try simp only [Act.put, List.setIfInBounds_toArray, List.set_cons_zero, List.set_cons_succ])
          refine take_dst (i := 17) (v := ?_) 8 rfl rfl (by kernel_rfl) (by kernel_rfl) (by kernel_rfl) (fun _ _ _ h => h) (Or.inl ⟨by rfl, ?_⟩) (by assumption) ?_
          rotate_left
          · intro w hSw
            go_simp
            try with_reducible rfl
          (try simp only [Act.put, List.setIfInBounds_toArray, List.set_cons_zero, List.set_cons_succ])
          refine wpAnyH_done (by kernel_rfl) ?_ _
          go_wp2_with fail
          refine bodyPost_ret (results_ctt rfl _ _ b6 29 #[.slice A15 (laidS s (putL x b s.L) (recB 1 x b)).1.img.length c15, .slice A16 (laidS s (putL x b s.L) (recB 1 x b)).1.L.length c16] (0, 0) _ rfl (HM16.out.mem List.mem_cons_self) Try.underlying29 rfl (by kernel_rfl)) rfl ?_
          have hs15 : w14.heap.size ≤ w15.heap.size := HB15.out.size
          have hs16 : w15.heap.size ≤ w16.heap.size := HKP.out.1
          have hl6 := HL6.out
          have hzk := HZK.out
          have hz14 := HZ14.out
          refine ⟨_, _, rfl, (HY.out.bound.kept HKP.out (fun k q e => ?_)).mono (fun k q => ?_), (HW.out.kept HKP.out (fun k q e => ?_)).mono (fun k q => ⟨by omega, by omega⟩), HM16.out.below⟩
          · subst e
            rcases q.1 with (q1 | q1) | q1
            · omega
            · omega
            · omega
          · have q2 : k < w15.heap.size := q.2
            rcases q.1 with (q1 | q1) | q1
            · exact .inl q1.1
            · exact .inr ⟨by omega, by omega⟩
            · exact .inr ⟨by omega, by omega⟩
          · omega
      · have c3b : (lkL s.L x).isSome = true := by
          cases hq : lkL s.L x with
          | none => exact absurd hq c3
          | some y => rfl
        rw [if_neg (fun q => c3 q.1)]
        go_enter Try.func13, Try.ntmps13
        go_wp2_with (first | ((with_reducible refine gate_dst (N := 3) rfl ?_); refine rw_box rfl 29 rfl (cs := #[.slice A0 s.img.length c0, .slice B1 s.L.length d1]) rfl (Rws.nil w) ?_; intro b3 w1 hX; have HM := Aside0.mk hX; clear hX) | ((with_reducible refine gate_dst (N := 6) rfl ?_); refine rw_allocS rfl 29 rfl (cs := #[.slice none 0 0, .slice none 0 0]) (by kernel_rfl) HM.out ?_; intro b6 w2 hg6 hM hb6; have HM2 := Aside0.mk hM; clear hg6 hM hb6 HM))
        refine (provisoref01_IsName.calls KF x _ _ HN.out).mono ?_
        rintro e w3 ⟨rfl, k1, rfl⟩
        have HM3 := Aside0.mk (HM2.out.drewN k1)
        have hc0 := blk_cell (HM3.out.mem (List.mem_cons_of_mem _ List.mem_cons_self)) 0
        have hc1 := blk_cell (HM3.out.mem (List.mem_cons_of_mem _ List.mem_cons_self)) 1
        go_wp2_with fail
        refine (provisoref21_place.calls KF B1 d1 s.L x _ _ _ (Kd.F_now (Kd.F_below HI.out.2.2.2 HM3.out.below)) HI.out.2.1 (HK.out.place s.L x (by have := HG.out.len; omega) HG.out.srt)).mono ?_
        rintro e w4 ⟨rfl, k2, rfl⟩
        have HM4 := Aside0.mk (HM2.out.drewN (k1 + k2))
        clear hc0 hc1
        have hc0 := blk_cell (HM4.out.mem (List.mem_cons_of_mem _ List.mem_cons_self)) 0
        have hc1 := blk_cell (HM4.out.mem (List.mem_cons_of_mem _ List.mem_cons_self)) 1
        go_wp2_with fail
        have HMD := Aside0.mk (HM4.out.drewN 1)
        (try simp only [Act.put, List.setIfInBounds_toArray, List.set_cons_zero, List.set_cons_succ])
        refine wp_region_held_drew (S := fun w' => Rws w [(b3, 29, #[.slice A0 s.img.length c0, .slice B1 s.L.length d1])] w') (by kernel_rfl) ?_ (fun hHeld => ?_)
        · exact HMD.out.tail
        have HM10 := Aside0.mk (show Rws w _ (World.drew _) from HMD.out)
        clear HMD hc0 hc1
        generalize World.drew _ = w10 at HM10 hHeld ⊢
        refine take_dst (i := 0) (v := .agg #[.slice A0 s.img.length c0, .slice B1 s.L.length d1]) 35 rfl rfl (by kernel_rfl) (by kernel_rfl) (by kernel_rfl) (fun _ _ _ h => h) (rw_yields (by rfl) 29 rfl rfl (fun _ h => h) List.mem_cons_self _ Try.underlying29 rfl (by kernel_rfl)) (by assumption) ?_
        (try simp only [Act.put, List.setIfInBounds_toArray, List.set_cons_zero, List.set_cons_succ])
        refine take_dst (i := 1) (v := ?_) 36 rfl rfl (by kernel_rfl) (by kernel_rfl) (by kernel_rfl) (fun _ _ _ h => h) (Or.inl ⟨by rfl, ?_⟩) (by assumption) ?_
        rotate_left
        · intro w hSw
          go_simp
          try with_reducible rfl
        (try simp only [Act.put, List.setIfInBounds_toArray, List.set_cons_zero, List.set_cons_succ])
        refine take_dst (i := 2) (v := ?_) 37 rfl rfl (by kernel_rfl) (by kernel_rfl) (by kernel_rfl) (fun _ _ _ h => h) (Or.inl ⟨by rfl, ?_⟩) (by assumption) ?_
        rotate_left
        · intro w hSw
          have q0 := blk_cell (hSw.mem List.mem_cons_self) 0
          have q1 := blk_cell (hSw.mem List.mem_cons_self) 1
          go_simp
          try with_reducible rfl
        (try simp only [Act.put, List.setIfInBounds_toArray, List.set_cons_zero, List.set_cons_succ])
        refine take_dst (i := 3) (v := ?_) 38 rfl rfl (by kernel_rfl) (by kernel_rfl) (by kernel_rfl) (fun _ _ _ h => h) (Or.inl ⟨by rfl, ?_⟩) (by assumption) ?_
        rotate_left
        · intro w hSw
          go_simp
          try with_reducible rfl
        (try simp only [Act.put, List.setIfInBounds_toArray, List.set_cons_zero, List.set_cons_succ])
        refine take_dst (i := 5) (v := ?_) 40 rfl rfl (by kernel_rfl) (by kernel_rfl) (by kernel_rfl) (fun _ _ _ h => h) (Or.inl ⟨by rfl, ?_⟩) (by assumption) ?_
        rotate_left
        · intro w hSw
          go_simp
          try with_reducible rfl
        (try simp only [Act.put, List.setIfInBounds_toArray, List.set_cons_zero, List.set_cons_succ])
        refine take_dst (i := 8) (v := ?_) 43 rfl rfl (by kernel_rfl) (by kernel_rfl) (by kernel_rfl) (fun _ _ _ h => h) (Or.inl ⟨by rfl, ?_⟩) (by assumption) ?_
        rotate_left
        · intro w hSw
          go_simp
          try with_reducible rfl
        (try simp only [Act.put, List.setIfInBounds_toArray, List.set_cons_zero, List.set_cons_succ])
        refine take_dst (i := 9) (v := ?_) 44 rfl rfl (by kernel_rfl) (by kernel_rfl) (by kernel_rfl) (fun _ _ _ h => h) (Or.inl ⟨by rfl, ?_⟩) (by assumption) ?_
        rotate_left
        · intro w hSw
          go_simp
          try with_reducible rfl
        (try simp only [Act.put, List.setIfInBounds_toArray, List.set_cons_zero, List.set_cons_succ])
        refine wpAnyH_ready (rs := [4]) (by kernel_rfl) (by simp) ?_
        refine AllReadyH.cons rfl (fun K hK => ?_) (AllReadyH.nil)
        go_simp
        have hb := below_alloc (Below.refl w10.heap.size w10) (.cells #[] 5)
        have ho := nil_own w10 w10.heap.size (Nat.le_refl _)
        have HM11 := Aside0.mk (HM10.out.step hb)
        refine hK.out _ _ (HM10.out.step hb).tail (fun hHeld => ?_)
        (try simp only [Act.put, List.setIfInBounds_toArray, List.set_cons_zero, List.set_cons_succ])
        clear hK K
        obtain ⟨gk, hgk⟩ : ∃ gk, gk = w10.heap.size := ⟨_, rfl⟩
        rw [← hgk] at ho ⊢
        generalize (w10.alloc (.cells #[] 5)) = w11 at hb ho HM11 hHeld ⊢
        have HO := Aside0.mk ho
        have HB11 := Aside0.mk hb
        have HZK := Aside0.mk (show w.heap.size ≤ gk by have := HM10.out.below.size; omega)
        have HL6 := Aside0.mk (show w.heap.size ≤ b6 ∧ b6 < gk from ⟨(HM10.out.lies _ List.mem_cons_self).2, by have := blk_lt (HM10.out.mem List.mem_cons_self); omega⟩)
        have hgl : gk ≤ w11.heap.size := by have := hb.size; omega
        clear hb ho hgk
        refine wpAnyH_ready (rs := [6]) (by kernel_rfl) (by simp) ?_
        refine AllReadyH.cons rfl (fun K hK => ?_) (AllReadyH.nil)
        refine Kd.R_append_rows_step (Kd.int .u8) (w0 := w11) gk rfl (.tmp 39) (.tmp 40) 23 5 (.int .u8 0) 1 rfl Try.underlying23 info5 rfl (by decide) (by omega) (.slice (some ⟨gk, 0, none⟩) 0 0) ([] : List Int) b A b.length c (fun _ => True) (fun _ => False) rfl rfl HO.out (Kd.C_below HC.out HM11.out.below) (fun _ _ h => h) (fun _ h => h.elim) (fun _ _ => trivial) (Below.refl _ _) hgl (by simp; omega) ?_
        intro v12 w12 ho hb hg hat
        have HM12 := Aside0.mk (HM11.out.grownT HO.out hg (by intro p hp; rcases List.mem_cons.1 hp with rfl | hp; exact (show 29 ≠ 5 by decide); rw [List.mem_singleton.1 hp]; exact (show 29 ≠ 5 by decide)) (HM11.out.below.trans (hb.mono HZK.out)))
        obtain ⟨A12, c12, e12⟩ := Kd.R_slice ho
        rw [List.nil_append] at e12 ho
        subst e12
        have HO2 := Aside0.mk ho
        have HG12 := Aside0.mk (show gk ≤ w12.heap.size from Nat.le_trans hgl hb.size)
        have HB12 := Aside0.mk hb
        clear ho hb hg hat
        go_simp
        refine hK.out _ _ HM12.out.tail (fun hHeld => ?_)
        (try simp only [Act.put, List.setIfInBounds_toArray, List.set_cons_zero, List.set_cons_succ])
        clear hK K
        refine wpAnyH_ready (rs := [7]) (by kernel_rfl) (by simp) ?_
        refine AllReadyH.cons rfl (fun K hK => ?_) (AllReadyH.nil)
        go_simp
        refine (provisoref21_with.calls KF (fun k => Z k ∧ k < w.heap.size) B1 d1 s.L x (fun k => gk ≤ k) A12 c12 b (putL x b s.L) w12 (Kd.V_mk HI.out.2.1 (Kd.F_below (Kd.F_bound HI.out.2.2.2) HM12.out.below)) (Kd.V_mono (Kd.R_V (Kd.R_bound HO2.out)) (fun k q => q.2.1)) (HK.out.with_ s.L x b (by have := HG.out.len; omega) HG.out.srt)).mono ?_
        rintro e w13 ⟨v13, rfl, hN, hb⟩
        have hV := Kd.N_V (base' := 0) hN
        obtain ⟨A13, c13, e13⟩ := Kd.V_slice hV
        subst e13
        have HV := Aside0.mk (Kd.V_at hV).2
        have HM13 := Aside0.mk (HM12.out.step hb)
        have HS13 := Aside0.mk hb.size
        clear hN hb hV
        go_simp
        refine hK.out _ _ HM13.out.tail (fun hHeld => ?_)
        (try simp only [Act.put, List.setIfInBounds_toArray, List.set_cons_zero, List.set_cons_succ])
        clear hK K
        refine wpAnyH_ready (rs := [10]) (by kernel_rfl) (by simp) ?_
        refine AllReadyH.cons rfl (fun K hK => ?_) (AllReadyH.nil)
        go_simp
        refine (record_d 1 (.inl rfl) x (HK.out.siz x c1).2 b (by omega) A c w13 (Kd.C_below HC.out HM13.out.below)).mono ?_
        rintro e w14 ⟨v14, rfl, hR, hb⟩
        obtain ⟨A14, c14, e14⟩ := Kd.R_slice hR
        subst e14
        have HR14 := Aside0.mk hR
        have HM14 := Aside0.mk (HM13.out.step hb)
        have HS14 := Aside0.mk hb.size
        replace HV := Aside0.mk (And.intro HV.out.1 (Kd.F_below HV.out.2 hb))
        clear hR hb
        go_simp
        refine hK.out _ _ HM14.out.tail (fun hHeld => ?_)
        (try simp only [Act.put, List.setIfInBounds_toArray, List.set_cons_zero, List.set_cons_succ])
        clear hK K
        refine wpAnyH_ready (rs := [11]) (by kernel_rfl) (by simp) ?_
        refine AllReadyH.cons rfl (fun K hK => ?_) (AllReadyH.nil)
        go_simp
        have hrl : (recB 1 x b).length = x.size + 4 + b.length := by unfold recB; simp [bytes_len]; omega
        have hxs := HK.out.siz x c1
        refine (laid_d (Z := fun k => (Z k ∧ k < w.heap.size) ∨ gk ≤ k) (DAt.mono (DAt.step HX.out.bound HM14.out.below) (fun k q => .inl q)) HG.out.img (putL x b s.L) A13 c13 (Kd.F_mono HV.out.2 (fun k q => ?hz)) HV.out.1 (recB 1 x b) A14 c14 (Kd.R_reads' HR14.out).2.2 (Kd.R_reads' HR14.out).2.1 (by omega) (by omega)).mono ?_
        case hz =>
          rcases q with (q | q) | q
          · exact .inl q
          · exact .inr q
          · exact .inr (Nat.le_trans HG12.out q)
        rintro e w15 ⟨y, m, rfl, hy, hm, hb⟩
        have HY := Aside0.mk hy
        have HW := Aside0.mk hm
        have HB15 := Aside0.mk hb
        have HM15 := Aside0.mk (HM14.out.step hb)
        have HZ14 := Aside0.mk (show gk ≤ w14.heap.size from Nat.le_trans HG12.out (Nat.le_trans HS13.out HS14.out))
        obtain ⟨A15, c15, A16, c16, e15, _⟩ := hy
        subst e15
        clear hm hb hrl hxs
        go_simp
        refine hK.out _ _ HM15.out.tail (fun hHeld => ?_)
        (try simp only [Act.put, List.setIfInBounds_toArray, List.set_cons_zero, List.set_cons_succ])
        clear hK K
        refine take_dst (i := 12) (v := ?_) 47 rfl rfl (by kernel_rfl) (by kernel_rfl) (by kernel_rfl) (fun _ _ _ h => h) (Or.inl ⟨by rfl, ?_⟩) (by assumption) ?_
        rotate_left
        · intro w hSw
          go_simp
          try with_reducible rfl
        (try simp only [Act.put, List.setIfInBounds_toArray, List.set_cons_zero, List.set_cons_succ])
        refine take_dst (i := 13) (v := ?_) 48 rfl rfl (by kernel_rfl) (by kernel_rfl) (by kernel_rfl) (fun _ _ _ h => h) (Or.inl ⟨by rfl, ?_⟩) (by assumption) ?_
        rotate_left
        · intro w hSw
          go_simp
          try with_reducible rfl
        (try simp only [Act.put, List.setIfInBounds_toArray, List.set_cons_zero, List.set_cons_succ])
        refine take_dst (i := 14) (v := ?_) 49 rfl rfl (by kernel_rfl) (by kernel_rfl) (by kernel_rfl) (fun _ _ _ h => h) (Or.inl ⟨by rfl, ?_⟩) (by assumption) ?_
        rotate_left
        · intro w hSw
          go_simp
          try with_reducible rfl
        (try simp only [Act.put, List.setIfInBounds_toArray, List.set_cons_zero, List.set_cons_succ])
        refine wpAnyH_ready (rs := [15]) (by kernel_rfl) (by simp) ?_
        refine AllReadyH.cons rfl (fun K hK => ?_) (AllReadyH.nil)
        refine rw_store_wp 29 rfl rfl (cs' := #[.slice A15 (laidS s (putL x b s.L) (recB 1 x b)).1.img.length c15, .slice A16 (laidS s (putL x b s.L) (recB 1 x b)).1.L.length c16]) rfl [] HM15.out (by kernel_rfl) rfl (by show _ = _; simp [Value.oneCell']) ?_
        intro w16 hM hkp
        refine hK.out _ _ hM.tail (fun hHeld => ?_)
        (try simp only [Act.put, List.setIfInBounds_toArray, List.set_cons_zero, List.set_cons_succ])
        clear hK K
        have HM16 := Aside0.mk hM
        have HKP := Aside0.mk hkp
        clear hM hkp
        refine take_dst (i := 16) (v := ?_) 7 rfl rfl (by kernel_rfl) (by kernel_rfl) (by kernel_rfl) (fun _ _ _ h => h) (Or.inl ⟨by rfl, ?_⟩) (by assumption) ?_
        rotate_left
        · intro w hSw
          go_simp
          try with_reducible rfl
        (try simp only [Act.put, List.setIfInBounds_toArray, List.set_cons_zero, List.set_cons_succ])
        refine take_dst (i := 17) (v := ?_) 8 rfl rfl (by kernel_rfl) (by kernel_rfl) (by kernel_rfl) (fun _ _ _ h => h) (Or.inl ⟨by rfl, ?_⟩) (by assumption) ?_
        rotate_left
        · intro w hSw
          go_simp
          try with_reducible rfl
        (try simp only [Act.put, List.setIfInBounds_toArray, List.set_cons_zero, List.set_cons_succ])
        refine wpAnyH_done (by kernel_rfl) ?_ _
        go_wp2_with fail
        refine bodyPost_ret (results_ctt rfl _ _ b6 29 #[.slice A15 (laidS s (putL x b s.L) (recB 1 x b)).1.img.length c15, .slice A16 (laidS s (putL x b s.L) (recB 1 x b)).1.L.length c16] (0, 0) _ rfl (HM16.out.mem List.mem_cons_self) Try.underlying29 rfl (by kernel_rfl)) rfl ?_
        have hs15 : w14.heap.size ≤ w15.heap.size := HB15.out.size
        have hs16 : w15.heap.size ≤ w16.heap.size := HKP.out.1
        have hl6 := HL6.out
        have hzk := HZK.out
        have hz14 := HZ14.out
        refine ⟨_, _, rfl, (HY.out.bound.kept HKP.out (fun k q e => ?_)).mono (fun k q => ?_), (HW.out.kept HKP.out (fun k q e => ?_)).mono (fun k q => ⟨by omega, by omega⟩), HM16.out.below⟩
        · subst e
          rcases q.1 with (q1 | q1) | q1
          · omega
          · omega
          · omega
        · have q2 : k < w15.heap.size := q.2
          rcases q.1 with (q1 | q1) | q1
          · exact .inl q1.1
          · exact .inr ⟨by omega, by omega⟩
          · exact .inr ⟨by omega, by omega⟩
        · omega
end
end Go.Proofs.Ytfakdphkklclgaa.P

end

section
namespace Go.Proofs.Ytfakdphkklclgaa.P
open Go.RowKit Go.Proofs.YtfakdphkklclgaaW.PrintWords Go.Proofs.YtfakdphkklclgaaW.PrintLast Go.Proofs.YtfakdphkklclgaaW.PrintMore
attribute [local go_sem] max2_int min2_int max_two min_two max_three min_three max_four min_four
set_option linter.unusedVariables false
set_option linter.unusedSimpArgs false
section
open Go.ChangeMaps Go.MapKept
set_option linter.unusedVariables false
set_option maxHeartbeats 12800000 in
set_option maxRecDepth 100000 in
theorem Drop_d {Z : Nat → Prop} {xv : Value} {s : Sto} {w : World} (KF : Nat) (nm : ByteArray → Bool) (hK : StFacts KF nm) (hg : Good nm s) (h : DAt Z xv s w) (x : ByteArray) : Calls Try.prog 46 #[xv, .string x] w fun e w' => DPost Z w (dropS nm s x) e w' := by
  have HX := Aside0.mk h
  obtain ⟨A0, c0, B1, d1, rfl, g1, g2, g3, g4⟩ := h
  have HI := Aside0.mk (And.intro g1 (And.intro g2 (And.intro g3 g4)))
  have HK := Aside0.mk hK
  have HG := Aside0.mk hg
  have HN := Aside0.mk (hK.rd.rname x)
  clear g1 g2 g3 g4 hK hg
  by_cases c1 : nm x = false
  · rw [c1] at HN
    unfold dropS
    rw [if_pos c1]
    go_enter Try.func46, Try.ntmps46
    go_wp2_with (first | ((with_reducible refine gate_dst (N := 2) rfl ?_); refine rw_box rfl 29 rfl (cs := #[.slice A0 s.img.length c0, .slice B1 s.L.length d1]) rfl (Rws.nil w) ?_; intro b3 w1 hX; have HM := Aside0.mk hX; clear hX) | ((with_reducible refine gate_dst (N := 4) rfl ?_); refine rw_allocS rfl 29 rfl (cs := #[.slice none 0 0, .slice none 0 0]) (by kernel_rfl) HM.out ?_; intro b6 w2 hg6 hM hb6; have HM2 := Aside0.mk hM; clear hg6 hM hb6 HM))
    refine (provisoref01_IsName.calls KF x _ _ HN.out).mono ?_
    rintro e w3 ⟨rfl, k1, rfl⟩
    have HM3 := Aside0.mk (HM2.out.drewN k1)
    have hc0 := blk_cell (HM3.out.mem (List.mem_cons_of_mem _ List.mem_cons_self)) 0
    have hc1 := blk_cell (HM3.out.mem (List.mem_cons_of_mem _ List.mem_cons_self)) 1
    go_wp2_with (first | ((with_reducible refine gate_dst (N := 12) rfl ?_); refine rw_load rfl 29 rfl rfl HM3.out (List.mem_cons_of_mem _ List.mem_cons_self) _ Try.underlying29 rfl (by kernel_rfl) ?_) | (refine rw_storeS rfl 29 rfl rfl (cs' := #[.slice A0 s.img.length c0, .slice B1 s.L.length d1]) rfl [] HM3.out (by kernel_rfl) rfl (by show _ = _; simp [Value.oneCell']) ?_; intro w9 hM hk3; have HM9 := Aside0.mk hM; clear hM hk3))
    refine bodyPost_ret (results_ctt rfl _ _ b6 29 #[.slice A0 s.img.length c0, .slice B1 s.L.length d1] (0, 0) _ rfl (HM9.out.mem List.mem_cons_self) Try.underlying29 rfl (by kernel_rfl)) rfl ?_
    exact ⟨_, _, rfl, (DAt.mono (DAt.step HX.out HM9.out.below) (fun k q => .inl q)), DWr.nil _ _, HM9.out.below⟩
  · rw [Bool.not_eq_false] at c1
    rw [c1] at HN
    unfold dropS
    rw [if_neg (by rw [c1]; decide)]
    by_cases c3 : lkL s.L x = none
    · have c3b : (lkL s.L x).isSome = false := by rw [c3]; rfl
      rw [if_pos c3]
      go_enter Try.func46, Try.ntmps46
      go_wp2_with (first | ((with_reducible refine gate_dst (N := 2) rfl ?_); refine rw_box rfl 29 rfl (cs := #[.slice A0 s.img.length c0, .slice B1 s.L.length d1]) rfl (Rws.nil w) ?_; intro b3 w1 hX; have HM := Aside0.mk hX; clear hX) | ((with_reducible refine gate_dst (N := 4) rfl ?_); refine rw_allocS rfl 29 rfl (cs := #[.slice none 0 0, .slice none 0 0]) (by kernel_rfl) HM.out ?_; intro b6 w2 hg6 hM hb6; have HM2 := Aside0.mk hM; clear hg6 hM hb6 HM))
      refine (provisoref01_IsName.calls KF x _ _ HN.out).mono ?_
      rintro e w3 ⟨rfl, k1, rfl⟩
      have HM3 := Aside0.mk (HM2.out.drewN k1)
      have hc0 := blk_cell (HM3.out.mem (List.mem_cons_of_mem _ List.mem_cons_self)) 0
      have hc1 := blk_cell (HM3.out.mem (List.mem_cons_of_mem _ List.mem_cons_self)) 1
      go_wp2_with fail
      refine (provisoref21_place.calls KF B1 d1 s.L x _ _ _ (Kd.F_now (Kd.F_below HI.out.2.2.2 HM3.out.below)) HI.out.2.1 (HK.out.place s.L x (by have := HG.out.len; omega) HG.out.srt)).mono ?_
      rintro e w4 ⟨rfl, k2, rfl⟩
      have HM4 := Aside0.mk (HM2.out.drewN (k1 + k2))
      clear hc0 hc1
      have hc0 := blk_cell (HM4.out.mem (List.mem_cons_of_mem _ List.mem_cons_self)) 0
      have hc1 := blk_cell (HM4.out.mem (List.mem_cons_of_mem _ List.mem_cons_self)) 1
      go_wp2_with (first | ((with_reducible refine gate_dst (N := 22) rfl ?_); refine rw_load rfl 29 rfl rfl HM4.out (List.mem_cons_of_mem _ List.mem_cons_self) _ Try.underlying29 rfl (by kernel_rfl) ?_) | (refine rw_storeS rfl 29 rfl rfl (cs' := #[.slice A0 s.img.length c0, .slice B1 s.L.length d1]) rfl [] HM4.out (by kernel_rfl) rfl (by show _ = _; simp [Value.oneCell']) ?_; intro w9 hM hk3; have HM9 := Aside0.mk hM; clear hM hk3))
      refine bodyPost_ret (results_ctt rfl _ _ b6 29 #[.slice A0 s.img.length c0, .slice B1 s.L.length d1] (0, 0) _ rfl (HM9.out.mem List.mem_cons_self) Try.underlying29 rfl (by kernel_rfl)) rfl ?_
      exact ⟨_, _, rfl, (DAt.mono (DAt.step HX.out HM9.out.below) (fun k q => .inl q)), DWr.nil _ _, HM9.out.below⟩
    · have c3b : (lkL s.L x).isSome = true := by
        cases hq : lkL s.L x with
        | none => exact absurd hq c3
        | some y => rfl
      rw [if_neg c3]
      go_enter Try.func46, Try.ntmps46
      go_wp2_with (first | ((with_reducible refine gate_dst (N := 2) rfl ?_); refine rw_box rfl 29 rfl (cs := #[.slice A0 s.img.length c0, .slice B1 s.L.length d1]) rfl (Rws.nil w) ?_; intro b3 w1 hX; have HM := Aside0.mk hX; clear hX) | ((with_reducible refine gate_dst (N := 4) rfl ?_); refine rw_allocS rfl 29 rfl (cs := #[.slice none 0 0, .slice none 0 0]) (by kernel_rfl) HM.out ?_; intro b6 w2 hg6 hM hb6; have HM2 := Aside0.mk hM; clear hg6 hM hb6 HM))
      refine (provisoref01_IsName.calls KF x _ _ HN.out).mono ?_
      rintro e w3 ⟨rfl, k1, rfl⟩
      have HM3 := Aside0.mk (HM2.out.drewN k1)
      have hc0 := blk_cell (HM3.out.mem (List.mem_cons_of_mem _ List.mem_cons_self)) 0
      have hc1 := blk_cell (HM3.out.mem (List.mem_cons_of_mem _ List.mem_cons_self)) 1
      go_wp2_with fail
      refine (provisoref21_place.calls KF B1 d1 s.L x _ _ _ (Kd.F_now (Kd.F_below HI.out.2.2.2 HM3.out.below)) HI.out.2.1 (HK.out.place s.L x (by have := HG.out.len; omega) HG.out.srt)).mono ?_
      rintro e w4 ⟨rfl, k2, rfl⟩
      have HM4 := Aside0.mk (HM2.out.drewN (k1 + k2))
      clear hc0 hc1
      have hc0 := blk_cell (HM4.out.mem (List.mem_cons_of_mem _ List.mem_cons_self)) 0
      have hc1 := blk_cell (HM4.out.mem (List.mem_cons_of_mem _ List.mem_cons_self)) 1
      go_wp2_with fail
      have HMD := Aside0.mk (HM4.out.drewN 1)
      (try simp only [Act.put, List.setIfInBounds_toArray, List.set_cons_zero, List.set_cons_succ])
      refine wp_region_held_drew (S := fun w' => Rws w [(b3, 29, #[.slice A0 s.img.length c0, .slice B1 s.L.length d1])] w') (by kernel_rfl) ?_ (fun hHeld => ?_)
      · exact HMD.out.tail
      have HM10 := Aside0.mk (show Rws w _ (World.drew _) from HMD.out)
      clear HMD hc0 hc1
      generalize World.drew _ = w10 at HM10 hHeld ⊢
      have HL6 := Aside0.mk (show w.heap.size ≤ b6 ∧ b6 < w10.heap.size from ⟨(HM10.out.lies _ List.mem_cons_self).2, by have := blk_lt (HM10.out.mem List.mem_cons_self); omega⟩)
      refine take_dst (i := 0) (v := .agg #[.slice A0 s.img.length c0, .slice B1 s.L.length d1]) 23 rfl rfl (by kernel_rfl) (by kernel_rfl) (by kernel_rfl) (fun _ _ _ h => h) (rw_yields (by rfl) 29 rfl rfl (fun _ h => h) List.mem_cons_self _ Try.underlying29 rfl (by kernel_rfl)) (by assumption) ?_
      (try simp only [Act.put, List.setIfInBounds_toArray, List.set_cons_zero, List.set_cons_succ])
      refine take_dst (i := 1) (v := ?_) 24 rfl rfl (by kernel_rfl) (by kernel_rfl) (by kernel_rfl) (fun _ _ _ h => h) (Or.inl ⟨by rfl, ?_⟩) (by assumption) ?_
      rotate_left
      · intro w hSw
        go_simp
        try with_reducible rfl
      (try simp only [Act.put, List.setIfInBounds_toArray, List.set_cons_zero, List.set_cons_succ])
      refine take_dst (i := 2) (v := ?_) 25 rfl rfl (by kernel_rfl) (by kernel_rfl) (by kernel_rfl) (fun _ _ _ h => h) (Or.inl ⟨by rfl, ?_⟩) (by assumption) ?_
      rotate_left
      · intro w hSw
        have q0 := blk_cell (hSw.mem List.mem_cons_self) 0
        have q1 := blk_cell (hSw.mem List.mem_cons_self) 1
        go_simp
        try with_reducible rfl
      (try simp only [Act.put, List.setIfInBounds_toArray, List.set_cons_zero, List.set_cons_succ])
      refine take_dst (i := 3) (v := ?_) 26 rfl rfl (by kernel_rfl) (by kernel_rfl) (by kernel_rfl) (fun _ _ _ h => h) (Or.inl ⟨by rfl, ?_⟩) (by assumption) ?_
      rotate_left
      · intro w hSw
        go_simp
        try with_reducible rfl
      (try simp only [Act.put, List.setIfInBounds_toArray, List.set_cons_zero, List.set_cons_succ])
      refine take_dst (i := 5) (v := ?_) 28 rfl rfl (by kernel_rfl) (by kernel_rfl) (by kernel_rfl) (fun _ _ _ h => h) (Or.inl ⟨by rfl, ?_⟩) (by assumption) ?_
      rotate_left
      · intro w hSw
        go_simp
        try with_reducible rfl
      (try simp only [Act.put, List.setIfInBounds_toArray, List.set_cons_zero, List.set_cons_succ])
      refine wpAnyH_ready (rs := [4]) (by kernel_rfl) (by simp) ?_
      refine AllReadyH.cons rfl (fun K hK => ?_) (AllReadyH.nil)
      go_simp
      refine (provisoref21_without.calls KF (fun k => Z k ∧ k < w.heap.size) B1 d1 s.L x (cutL x s.L) w10 (Kd.V_mk HI.out.2.1 (Kd.F_below (Kd.F_bound HI.out.2.2.2) HM10.out.below)) (HK.out.wout s.L x (by have := HG.out.len; omega) HG.out.srt)).mono ?_
      rintro e w13 ⟨v13, rfl, hN, hb⟩
      have hV := Kd.N_V (base' := 0) hN
      obtain ⟨A13, c13, e13⟩ := Kd.V_slice hV
      subst e13
      have HV := Aside0.mk (Kd.V_at hV).2
      have HM13 := Aside0.mk (HM10.out.step hb)
      have HS13 := Aside0.mk hb.size
      clear hN hb hV
      go_simp
      refine hK.out _ _ HM13.out.tail (fun hHeld => ?_)
      (try simp only [Act.put, List.setIfInBounds_toArray, List.set_cons_zero, List.set_cons_succ])
      clear hK K
      refine wpAnyH_ready (rs := [6]) (by kernel_rfl) (by simp) ?_
      refine AllReadyH.cons rfl (fun K hK => ?_) (AllReadyH.nil)
      go_simp
      refine (record_d 2 (.inr rfl) x (HK.out.siz x c1).2 [] (by simp) none 0 w13 (Kd.C_nil _ _)).mono ?_
      rintro e w14 ⟨v14, rfl, hR, hb⟩
      obtain ⟨A14, c14, e14⟩ := Kd.R_slice hR
      subst e14
      have HR14 := Aside0.mk hR
      have HM14 := Aside0.mk (HM13.out.step hb)
      have HS14 := Aside0.mk hb.size
      replace HV := Aside0.mk (And.intro HV.out.1 (Kd.F_below HV.out.2 hb))
      clear hR hb
      go_simp
      refine hK.out _ _ HM14.out.tail (fun hHeld => ?_)
      (try simp only [Act.put, List.setIfInBounds_toArray, List.set_cons_zero, List.set_cons_succ])
      clear hK K
      refine wpAnyH_ready (rs := [7]) (by kernel_rfl) (by simp) ?_
      refine AllReadyH.cons rfl (fun K hK => ?_) (AllReadyH.nil)
      go_simp
      have hrl : (recB 2 x []).length = x.size + 2 := by unfold recB; simp [bytes_len]
      have hxs := HK.out.siz x c1
      refine (laid_d (Z := fun k => (Z k ∧ k < w.heap.size) ∨ w10.heap.size ≤ k) (DAt.mono (DAt.step HX.out.bound HM14.out.below) (fun k q => .inl q)) HG.out.img (cutL x s.L) A13 c13 HV.out.2 HV.out.1 (recB 2 x []) A14 c14 (Kd.R_reads' HR14.out).2.2 (Kd.R_reads' HR14.out).2.1 (by omega) (by omega)).mono ?_
      rintro e w15 ⟨y, m, rfl, hy, hm, hb⟩
      have HY := Aside0.mk hy
      have HW := Aside0.mk hm
      have HB15 := Aside0.mk hb
      have HM15 := Aside0.mk (HM14.out.step hb)
      have HZ14 := Aside0.mk (show w10.heap.size ≤ w14.heap.size from Nat.le_trans HS13.out HS14.out)
      obtain ⟨A15, c15, A16, c16, e15, _⟩ := hy
      subst e15
      clear hm hb hrl hxs
      go_simp
      refine hK.out _ _ HM15.out.tail (fun hHeld => ?_)
      (try simp only [Act.put, List.setIfInBounds_toArray, List.set_cons_zero, List.set_cons_succ])
      clear hK K
      refine take_dst (i := 8) (v := ?_) 31 rfl rfl (by kernel_rfl) (by kernel_rfl) (by kernel_rfl) (fun _ _ _ h => h) (Or.inl ⟨by rfl, ?_⟩) (by assumption) ?_
      rotate_left
      · intro w hSw
        go_simp
        try with_reducible rfl
      (try simp only [Act.put, List.setIfInBounds_toArray, List.set_cons_zero, List.set_cons_succ])
      refine take_dst (i := 9) (v := ?_) 32 rfl rfl (by kernel_rfl) (by kernel_rfl) (by kernel_rfl) (fun _ _ _ h => h) (Or.inl ⟨by rfl, ?_⟩) (by assumption) ?_
      rotate_left
      · intro w hSw
        go_simp
        try with_reducible rfl
      (try simp only [Act.put, List.setIfInBounds_toArray, List.set_cons_zero, List.set_cons_succ])
      refine take_dst (i := 10) (v := ?_) 33 rfl rfl (by kernel_rfl) (by kernel_rfl) (by kernel_rfl) (fun _ _ _ h => h) (Or.inl ⟨by rfl, ?_⟩) (by assumption) ?_
      rotate_left
      · intro w hSw
        go_simp
        try with_reducible rfl
      (try simp only [Act.put, List.setIfInBounds_toArray, List.set_cons_zero, List.set_cons_succ])
      refine wpAnyH_ready (rs := [11]) (by kernel_rfl) (by simp) ?_
      refine AllReadyH.cons rfl (fun K hK => ?_) (AllReadyH.nil)
      refine rw_store_wp 29 rfl rfl (cs' := #[.slice A15 (laidS s (cutL x s.L) (recB 2 x [])).1.img.length c15, .slice A16 (laidS s (cutL x s.L) (recB 2 x [])).1.L.length c16]) rfl [] HM15.out (by kernel_rfl) rfl (by show _ = _; simp [Value.oneCell']) ?_
      intro w16 hM hkp
      refine hK.out _ _ hM.tail (fun hHeld => ?_)
      (try simp only [Act.put, List.setIfInBounds_toArray, List.set_cons_zero, List.set_cons_succ])
      clear hK K
      have HM16 := Aside0.mk hM
      have HKP := Aside0.mk hkp
      clear hM hkp
      refine take_dst (i := 12) (v := ?_) 5 rfl rfl (by kernel_rfl) (by kernel_rfl) (by kernel_rfl) (fun _ _ _ h => h) (Or.inl ⟨by rfl, ?_⟩) (by assumption) ?_
      rotate_left
      · intro w hSw
        go_simp
        try with_reducible rfl
      (try simp only [Act.put, List.setIfInBounds_toArray, List.set_cons_zero, List.set_cons_succ])
      refine take_dst (i := 13) (v := ?_) 6 rfl rfl (by kernel_rfl) (by kernel_rfl) (by kernel_rfl) (fun _ _ _ h => h) (Or.inl ⟨by rfl, ?_⟩) (by assumption) ?_
      rotate_left
      · intro w hSw
        go_simp
        try with_reducible rfl
      (try simp only [Act.put, List.setIfInBounds_toArray, List.set_cons_zero, List.set_cons_succ])
      refine wpAnyH_done (by kernel_rfl) ?_ _
      go_wp2_with fail
      refine bodyPost_ret (results_ctt rfl _ _ b6 29 #[.slice A15 (laidS s (cutL x s.L) (recB 2 x [])).1.img.length c15, .slice A16 (laidS s (cutL x s.L) (recB 2 x [])).1.L.length c16] (0, 0) _ rfl (HM16.out.mem List.mem_cons_self) Try.underlying29 rfl (by kernel_rfl)) rfl ?_
      have hs15 : w14.heap.size ≤ w15.heap.size := HB15.out.size
      have hs16 : w15.heap.size ≤ w16.heap.size := HKP.out.1
      have hl6 := HL6.out
      have hz14 := HZ14.out
      refine ⟨_, _, rfl, (HY.out.bound.kept HKP.out (fun k q e => ?_)).mono (fun k q => ?_), (HW.out.kept HKP.out (fun k q e => ?_)).mono (fun k q => ⟨by omega, by omega⟩), HM16.out.below⟩
      · subst e
        rcases q.1 with (q1 | q1) | q1
        · omega
        · omega
        · omega
      · have q2 : k < w15.heap.size := q.2
        rcases q.1 with (q1 | q1) | q1
        · exact .inl q1.1
        · exact .inr ⟨by omega, by omega⟩
        · exact .inr ⟨by omega, by omega⟩
      · omega
end
end Go.Proofs.Ytfakdphkklclgaa.P

end

section
namespace Go.Proofs.Ytfakdphkklclgaa.P
open Go.RowKit Go.Proofs.YtfakdphkklclgaaW.PrintWords Go.Proofs.YtfakdphkklclgaaW.PrintLast Go.Proofs.YtfakdphkklclgaaW.PrintMore
attribute [local go_sem] max2_int min2_int max_two min_two max_three min_three max_four min_four
set_option linter.unusedVariables false
set_option linter.unusedSimpArgs false
section
open Go.ChangeMaps Go.MapKept
set_option linter.unusedVariables false
theorem Rws.first {w0 W : World} {p : Nat × TypeId × Array Value} {l : List (Nat × TypeId × Array Value)} (h : Rws w0 (p :: l) W) : Rws w0 [p] W := ⟨fun q hq => h.lies q (by rw [List.mem_singleton.1 hq]; exact List.mem_cons_self), by simp, h.below⟩
end
end Go.Proofs.Ytfakdphkklclgaa.P

end

section
namespace Go.Proofs.Ytfakdphkklclgaa.P
open Go.RowKit Go.Proofs.YtfakdphkklclgaaW.PrintWords Go.Proofs.YtfakdphkklclgaaW.PrintLast Go.Proofs.YtfakdphkklclgaaW.PrintMore
attribute [local go_sem] max2_int min2_int max_two min_two max_three min_three max_four min_four
set_option linter.unusedVariables false
set_option linter.unusedSimpArgs false
section
open Go.ChangeMaps Go.MapKept
set_option linter.unusedVariables false
theorem name_cell {W : World} {base gA n c : Nat} {ok : Nat → Prop} {L : List S101} (h : Kd.R Kd.string 9 W base ok (.slice (some ⟨gA, 0, none⟩) n c) (L.map (·.f0))) (i : Nat) (hi : i < L.length) : W.cell? ⟨gA, i, none⟩ = some (.string L[i].f0) := by
  have hmi : (L.map (fun k => k.f0)).length = L.length := List.length_map _
  have hrdi : rdOf ByteArray.empty (L.map (fun k => k.f0)) (i : Int) = L[i].f0 := by
    simp [rdOf, List.getD_eq_getElem?_getD, hi]
  have hcell := Kd.foot_string (Kd.R_reads' h).2.2 (i : Int) (by omega) (by rw [hmi]; omega)
  rw [Int.toNat_natCast, hrdi] at hcell
  rcases Nat.eq_zero_or_pos i with e | e
  · subst e; simpa [Addr.add] using hcell
  · simpa [Addr.add, Nat.pos_iff_ne_zero.1 e] using hcell
set_option maxHeartbeats 12800000 in
set_option maxRecDepth 100000 in
theorem alike_st {base g : Nat} {F Z : Nat → Prop} {xv : Value} {s : Sto} {w : World} (KF : Nat) (nm : ByteArray → Bool) (hK : StFacts KF nm) (hg : Good nm s) (h : SAt base F g s w) (hd : DAt Z xv s w) : Calls Try.prog 22 #[.pointer (some ⟨g, 0, none⟩), xv] w fun e w' => e = .returned (.bool true) ∧ Below w.heap.size w w' := by
  obtain ⟨A0, c0, B1, d1, rfl, g1, g2, g3, g4⟩ := hd
  have HI := Aside0.mk (And.intro g1 (And.intro g2 (And.intro g3 g4)))
  have HK := Aside0.mk hK
  have HG := Aside0.mk hg
  have HS := Aside0.mk h
  have hu101 := Try.underlying101
  clear g1 g2 g3 g4 hK hg h
  go_enter Try.func22, Try.ntmps22
  go_wp2_with (first | ((with_reducible refine gate_dst (N := 3) rfl ?_); refine rw_box rfl 29 rfl (cs := #[.slice A0 s.img.length c0, .slice B1 s.L.length d1]) rfl (Rws.nil w) ?_; intro b3 w1 hX; have HM := Aside0.mk hX; clear hX))
  refine (Names_st HG.out.srt HG.out.len (HS.out.step HM.out.below)).mono ?_
  rintro e w2 ⟨vn, rfl, hR, hb⟩
  obtain ⟨An, cn, en⟩ := Kd.R_slice hR
  rw [List.length_map] at en
  subst en
  have HR := Aside0.mk (Kd.R_bound hR)
  have HM2 := Aside0.mk (HM.out.step hb)
  have HZW := Aside0.mk (Nat.le_refl w2.heap.size)
  clear hR hb
  go_wp2_with fail
  have HMD := Aside0.mk (HM2.out.drewN 1)
  (try simp only [Act.put, List.setIfInBounds_toArray, List.set_cons_zero, List.set_cons_succ])
  refine wp_region_held_drew (S := fun w' => Rws w [(b3, 29, #[.slice A0 s.img.length c0, .slice B1 s.L.length d1])] w') (by kernel_rfl) ?_ (fun hHeld => ?_)
  · exact HMD.out
  have HMD2 := Aside0.mk (show Rws w [(b3, 29, #[.slice A0 s.img.length c0, .slice B1 s.L.length d1])] (World.drew _) from HMD.out)
  have HRD := Aside0.mk (show Kd.R Kd.string 9 (World.drew _) _ _ _ (s.L.map (·.f0)) from Kd.R_drewN HR.out 1)
  have HSD := Aside0.mk (HS.out.step HMD2.out.below)
  replace HZW := Aside0.mk (show w2.heap.size ≤ (World.drew _).heap.size from HZW.out)
  clear HMD
  generalize World.drew _ = wd at HMD2 HRD HSD HZW hHeld ⊢
  refine take_dst (i := 0) (v := ?_) 14 rfl rfl (by kernel_rfl) (by kernel_rfl) (by kernel_rfl) (fun _ _ _ h => h) (Or.inl ⟨by rfl, ?_⟩) (by assumption) ?_
  rotate_left
  · intro w hSw
    go_simp
    try with_reducible rfl
  (try simp only [Act.put, List.setIfInBounds_toArray, List.set_cons_zero, List.set_cons_succ])
  refine take_dst (i := 2) (v := ?_) 16 rfl rfl (by kernel_rfl) (by kernel_rfl) (by kernel_rfl) (fun _ _ _ h => h) (Or.inl ⟨by rfl, ?_⟩) (by assumption) ?_
  rotate_left
  · intro w hSw
    go_simp
    try with_reducible rfl
  (try simp only [Act.put, List.setIfInBounds_toArray, List.set_cons_zero, List.set_cons_succ])
  refine take_dst (i := 3) (v := ?_) 17 rfl rfl (by kernel_rfl) (by kernel_rfl) (by kernel_rfl) (fun _ _ _ h => h) (Or.inl ⟨by rfl, ?_⟩) (by assumption) ?_
  rotate_left
  · intro w hSw
    have q0 := blk_cell (hSw.mem List.mem_cons_self) 0
    have q1 := blk_cell (hSw.mem List.mem_cons_self) 1
    go_simp
    try with_reducible rfl
  (try simp only [Act.put, List.setIfInBounds_toArray, List.set_cons_zero, List.set_cons_succ])
  refine wpAnyH_ready (rs := [1]) (by kernel_rfl) (by simp) ?_
  refine AllReadyH.cons rfl (fun K hK => ?_) (AllReadyH.nil)
  go_simp
  refine (Image_st HG.out.img HSD.out).mono ?_
  rintro e w3 ⟨v, rfl, hR, hb⟩
  obtain ⟨Ai, ci, ei⟩ := Kd.R_slice hR
  subst ei
  have HRI := Aside0.mk hR
  have HM3 := Aside0.mk (HMD2.out.step hb)
  replace HRD := Aside0.mk (Kd.R_below HRD.out hb)
  replace HZW := Aside0.mk (show w2.heap.size ≤ w3.heap.size from Nat.le_trans HZW.out hb.size)
  clear hR hb
  go_simp
  refine hK.out _ _ HM3.out (fun hHeld => ?_)
  (try simp only [Act.put, List.setIfInBounds_toArray, List.set_cons_zero, List.set_cons_succ])
  clear hK K
  refine wpAnyH_ready (rs := [4]) (by kernel_rfl) (by simp) ?_
  refine AllReadyH.cons rfl (fun K hK => ?_) (AllReadyH.nil)
  go_simp
  refine (slices_Equal_byte_byte.calls KF Ai ci s.img A0 c0 s.img true w3 (Kd.R_reads' HRI.out).2.2 (Kd.R_reads' HRI.out).2.1 (Kd.F_now (Kd.F_below HI.out.2.2.1 HM3.out.below)) HI.out.1 (HK.out.rd.eq s.img (by have := HG.out.img; omega))).mono ?_
  rintro e w4 ⟨rfl, k4, rfl⟩
  have HM4 := Aside0.mk (HM3.out.drewN k4)
  replace HRD := Aside0.mk (Kd.R_drewN HRD.out k4)
  replace HZW := Aside0.mk (show w2.heap.size ≤ (w3.drewN k4).heap.size from HZW.out)
  generalize w3.drewN k4 = w4 at HM4 HRD HZW ⊢
  go_simp
  refine hK.out _ _ HM4.out (fun hHeld => ?_)
  (try simp only [Act.put, List.setIfInBounds_toArray, List.set_cons_zero, List.set_cons_succ])
  clear hK K
  refine take_dst (i := 5) (v := ?_) 19 rfl rfl (by kernel_rfl) (by kernel_rfl) (by kernel_rfl) (fun _ _ _ h => h) (Or.inl ⟨by rfl, ?_⟩) (by assumption) ?_
  rotate_left
  · intro w hSw
    go_simp
    try with_reducible rfl
  (try simp only [Act.put, List.setIfInBounds_toArray, List.set_cons_zero, List.set_cons_succ])
  refine take_dst (i := 6) (v := ?_) 20 rfl rfl (by kernel_rfl) (by kernel_rfl) (by kernel_rfl) (fun _ _ _ h => h) (Or.inl ⟨by rfl, ?_⟩) (by assumption) ?_
  rotate_left
  · intro w hSw
    go_simp
    try with_reducible rfl
  (try simp only [Act.put, List.setIfInBounds_toArray, List.set_cons_zero, List.set_cons_succ])
  refine take_dst (i := 7) (v := ?_) 21 rfl rfl (by kernel_rfl) (by kernel_rfl) (by kernel_rfl) (fun _ _ _ h => h) (Or.inl ⟨by rfl, ?_⟩) (by assumption) ?_
  rotate_left
  · intro w hSw
    go_simp
    try with_reducible rfl
  (try simp only [Act.put, List.setIfInBounds_toArray, List.set_cons_zero, List.set_cons_succ])
  refine take_dst (i := 8) (v := ?_) 22 rfl rfl (by kernel_rfl) (by kernel_rfl) (by kernel_rfl) (fun _ _ _ h => h) (Or.inl ⟨by rfl, ?_⟩) (by assumption) ?_
  rotate_left
  · intro w hSw
    go_simp
    try with_reducible rfl
  (try simp only [Act.put, List.setIfInBounds_toArray, List.set_cons_zero, List.set_cons_succ])
  refine take_dst (i := 9) (v := ?_) 23 rfl rfl (by kernel_rfl) (by kernel_rfl) (by kernel_rfl) (fun _ _ _ h => h) (Or.inl ⟨by rfl, ?_⟩) (by assumption) ?_
  rotate_left
  · intro w hSw
    go_simp
    try with_reducible rfl
  (try simp only [Act.put, List.setIfInBounds_toArray, List.set_cons_zero, List.set_cons_succ])
  refine take_dst (i := 10) (v := ?_) 24 rfl rfl (by kernel_rfl) (by kernel_rfl) (by kernel_rfl) (fun _ _ _ h => h) (Or.inl ⟨by rfl, ?_⟩) (by assumption) ?_
  rotate_left
  · intro w hSw
    have q0 := blk_cell (hSw.mem List.mem_cons_self) 0
    have q1 := blk_cell (hSw.mem List.mem_cons_self) 1
    go_simp
    try with_reducible rfl
  (try simp only [Act.put, List.setIfInBounds_toArray, List.set_cons_zero, List.set_cons_succ])
  refine take_dst (i := 11) (v := ?_) 25 rfl rfl (by kernel_rfl) (by kernel_rfl) (by kernel_rfl) (fun _ _ _ h => h) (Or.inl ⟨by rfl, ?_⟩) (by assumption) ?_
  rotate_left
  · intro w hSw
    go_simp
    try with_reducible rfl
  (try simp only [Act.put, List.setIfInBounds_toArray, List.set_cons_zero, List.set_cons_succ])
  refine take_dst (i := 12) (v := ?_) 26 rfl rfl (by kernel_rfl) (by kernel_rfl) (by kernel_rfl) (fun _ _ _ h => h) (Or.inl ⟨by rfl, ?_⟩) (by assumption) ?_
  rotate_left
  · intro w hSw
    go_simp
    try with_reducible rfl
  (try simp only [Act.put, List.setIfInBounds_toArray, List.set_cons_zero, List.set_cons_succ])
  refine take_dst (i := 13) (v := ?_) 27 rfl rfl (by kernel_rfl) (by kernel_rfl) (by kernel_rfl) (fun _ _ _ h => h) (Or.inl ⟨by rfl, ?_⟩) (by assumption) ?_
  rotate_left
  · intro w hSw
    go_simp
    try with_reducible rfl
  (try simp only [Act.put, List.setIfInBounds_toArray, List.set_cons_zero, List.set_cons_succ])
  refine wpAnyH_done (by kernel_rfl) ?_ _
  have hc1 := blk_cell (HM4.out.mem List.mem_cons_self) 1
  go_wp2_with fail
  clear hc1
  have HRR0 := Aside0.mk (Kd.R_mono HRD.out (ok' := fun k => k < w2.heap.size) (fun k q => q.2.2.1))
  have HZ4 := Aside0.mk (show w2.heap.size ≤ w4.heap.size from HZW.out)
  go_loopw [31] (fun v31 wr => ∃ i : Nat, v31 = .int .i64 (i : Int) ∧ i ≤ s.L.length ∧ Aside0 (Rws w [(b3, 29, #[.slice A0 s.img.length c0, .slice B1 s.L.length d1])] wr) ∧ Aside0 (Kd.R Kd.string 9 wr w1.heap.size (fun k => k < w2.heap.size) (.slice An s.L.length cn) (s.L.map (·.f0))) ∧ Aside0 (w2.heap.size ≤ wr.heap.size)) (fun v31 _ => ((s.L.length : Int) - intOf v31).toNat)
  case atStart => exact ⟨0, rfl, Nat.zero_le _, HM4, HRR0, HZ4⟩
  case round =>
    clear HRR0 HZ4 HRD HM4 HM3 HMD2 HM2 HR
    obtain ⟨i, rfl, hi, HMR, HRR, HZR⟩ := hrel
    by_cases c2_ : i < s.L.length
    · have c2b : decide ((i : Int) < (s.L.length : Int)) = true := decide_eq_true (by omega)
      have c2c : decide (i < s.L.length) = true := decide_eq_true c2_
      have p5 : (0 ≤ (i : Int)) = True := eq_true (by omega)
      have p6 : ((i : Int) < (s.L.length : Int)) = True := eq_true (by omega)
      have hsl := HG.out.len
      have HRW : Aside0 (wrap64 ((i : Int) + 1) = ((i + 1 : Nat) : Int)) := ⟨by unfold wrap64; omega⟩
      obtain ⟨gA, e1⟩ : ∃ gA, An = some ⟨gA, 0, none⟩ := by
        obtain ⟨gb, cb, e, _⟩ := Kd.R_form HRR.out (by rw [List.length_map]; omega)
        injection e with e
        exact ⟨gb, e⟩
      subst e1
      have hFL := Kd.F_below (Kd.F_bound HI.out.2.2.2) HMR.out.below
      obtain ⟨ad, cs, eA, _, hFK, hcc, _⟩ := Kd.F_get hFL z101 (i : Int) (by omega) (by omega)
      obtain ⟨A2, c2, e2, q3, q4⟩ := k101_openF hFK
      subst e2
      have hrd : s.L.getD (i : Int).toNat z101 = s.L[i] := by rw [Int.toNat_natCast, List.getD_eq_getElem?_getD, List.getElem?_eq_getElem c2_]; rfl
      rw [hrd] at q3 q4 hcc
      rw [Int.toNat_natCast] at hcc
      have q1 : wr.cell? (ad.add (i * 2)) = some (.string s.L[i].f0) := hcc 0 _ rfl
      have q2 : wr.cell? ⟨(ad.add (i * 2)).block, (ad.add (i * 2)).off + 1, none⟩ = some (.slice A2 s.L[i].f1.length c2) := by
        have h9 := hcc 1 _ rfl
        rw [show k101.sz = 2 from rfl, ← Addr.add_add] at h9
        exact h9
      have hmem := List.getElem_mem c2_
      have hget : getS nm s s.L[i].f0 = (s.L[i].f1, 0) := by
        unfold getS
        rw [if_neg (by rw [HG.out.nam _ hmem]; decide), lk_at HG.out.srt i c2_]
      have hxs := (HK.out.siz _ (HG.out.nam _ hmem)).2
      have HS46 := Aside0.mk (HG.out.val _ hmem).1
      obtain ⟨x, hx⟩ : ∃ x, x = s.L[i].f0 := ⟨_, rfl⟩
      obtain ⟨b, hb⟩ : ∃ b, b = s.L[i].f1 := ⟨_, rfl⟩
      rw [← hx] at q1 hget hxs
      rw [← hb] at q2 q3 q4 hget HS46
      subst eA
      have HCB0 := Aside0.mk (And.intro q3 q4)
      have HGT := Aside0.mk hget
      have HXM := Aside0.mk (show x.size ≤ maxLen by unfold maxLen; omega)
      clear q3 q4 hFL hFK hcc hrd hmem hb hget hxs
      have HXE := Aside0.mk hx
      clear hx
      go_wp2_with (first | ((with_reducible refine gate_dst (N := 7) rfl ?_); refine rw_allocS rfl 101 rfl (cs := #[.string ⟨#[]⟩, .slice none 0 0]) (by kernel_rfl) HMR.out ?_; intro b7 w6 hg6 hM hb6; have HM6 := Aside0.mk hM; have HB6 := Aside0.mk hb6; have HE7 := Aside0.mk hg6; clear hg6 hM hb6) | (refine rw_storeS rfl 101 rfl rfl (cs' := #[.string x, .slice A2 b.length c2]) rfl [] HM6.out (by kernel_rfl) rfl (by show _ = _; simp [Value.oneCell']) ?_; intro w7 hM hk3; have HM7 := Aside0.mk hM; have HK7 := Aside0.mk hk3; have hc70 := blk_cell (hM.mem List.mem_cons_self) 0; clear hM hk3))
      refine (Get_st KF nm HK.out HG.out x HXM.out (HS.out.step HM7.out.below)).mono ?_
      rintro e w8 ⟨v8, rfl, hR, hb⟩
      rw [HGT.out] at hR ⊢
      simp only at hR ⊢
      obtain ⟨A8, c8, e8⟩ := Kd.R_slice hR
      subst e8
      have HR8 := Aside0.mk hR
      have HM8 := Aside0.mk (HM7.out.step hb)
      have HRR8 := Aside0.mk (Kd.R_below (Kd.R_kept (Kd.R_below HRR.out HB6.out) HK7.out (fun k q e => by have := HZR.out; have := HE7.out; omega)) hb)
      have HZ8 := Aside0.mk (show w2.heap.size ≤ w8.heap.size from Nat.le_trans HZR.out (Nat.le_trans HB6.out.size (Nat.le_trans HK7.out.1 hb.size)))
      have hcl := name_cell HRR8.out i c2_
      rw [← HXE.out] at hcl
      clear hR hb hc70
      go_wp2_with fail
      have HMD := Aside0.mk (HM8.out.drewN 1)
      (try simp only [Act.put, List.setIfInBounds_toArray, List.set_cons_zero, List.set_cons_succ])
      refine wp_region_held_drew (S := fun w' => (Rws w [(b7, 101, #[.string x, .slice A2 b.length c2]), (b3, 29, #[.slice A0 s.img.length c0, .slice (some ad) s.L.length d1])] w') ∧ w'.cell? ⟨gA, i, none⟩ = some (.string x)) (by kernel_rfl) ?_ (fun hHeld => ?_)
      · exact ⟨HMD.out, hcl⟩
      have HMD2 := Aside0.mk (show Rws w [(b7, 101, #[.string x, .slice A2 b.length c2]), (b3, 29, #[.slice A0 s.img.length c0, .slice (some ad) s.L.length d1])] (World.drew _) from HMD.out)
      have HRD8 := Aside0.mk (show Kd.R (Kd.int .u8) 5 (World.drew _) _ _ _ b from Kd.R_drewN HR8.out 1)
      replace HRR8 := Aside0.mk (show Kd.R Kd.string 9 (World.drew _) _ _ _ (s.L.map (·.f0)) from Kd.R_drewN HRR8.out 1)
      replace HZ8 := Aside0.mk (show w2.heap.size ≤ (World.drew _).heap.size from HZ8.out)
      clear HMD hcl
      generalize World.drew _ = wd at HMD2 HRD8 HRR8 HZ8 hHeld ⊢
      refine take_dst (i := 0) (v := ?_) 43 rfl rfl (by kernel_rfl) (by kernel_rfl) (by kernel_rfl) (fun _ _ _ h => h) (Or.inl ⟨by rfl, ?_⟩) (by assumption) ?_
      rotate_left
      · intro w hSw
        go_simp
        try with_reducible rfl
      (try simp only [Act.put, List.setIfInBounds_toArray, List.set_cons_zero, List.set_cons_succ])
      refine take_dst (i := 1) (v := ?_) 44 rfl rfl (by kernel_rfl) (by kernel_rfl) (by kernel_rfl) (fun _ _ _ h => h) (Or.inl ⟨by rfl, ?_⟩) (by assumption) ?_
      rotate_left
      · intro w hSw
        go_simp
        try with_reducible rfl
      (try simp only [Act.put, List.setIfInBounds_toArray, List.set_cons_zero, List.set_cons_succ])
      refine take_dst (i := 2) (v := ?_) 45 rfl rfl (by kernel_rfl) (by kernel_rfl) (by kernel_rfl) (fun _ _ _ h => h) (Or.inl ⟨by rfl, ?_⟩) (by assumption) ?_
      rotate_left
      · intro w hSw
        go_simp
        try with_reducible rfl
      (try simp only [Act.put, List.setIfInBounds_toArray, List.set_cons_zero, List.set_cons_succ])
      refine take_dst (i := 3) (v := ?_) 46 rfl rfl (by kernel_rfl) (by kernel_rfl) (by kernel_rfl) (fun _ _ _ h => h) (Or.inl ⟨by rfl, ?_⟩) (by assumption) ?_
      rotate_left
      · intro w hSw
        have q0 := blk_cell (hSw.1.mem List.mem_cons_self) 0
        have q1 := blk_cell (hSw.1.mem List.mem_cons_self) 1
        have q2 := hSw.2
        go_simp
        try with_reducible rfl
      (try simp only [Act.put, List.setIfInBounds_toArray, List.set_cons_zero, List.set_cons_succ])
      refine take_dst (i := 4) (v := ?_) 47 rfl rfl (by kernel_rfl) (by kernel_rfl) (by kernel_rfl) (fun _ _ _ h => h) (Or.inl ⟨by rfl, ?_⟩) (by assumption) ?_
      rotate_left
      · intro w hSw
        go_simp
        try with_reducible rfl
      (try simp only [Act.put, List.setIfInBounds_toArray, List.set_cons_zero, List.set_cons_succ])
      refine take_dst (i := 5) (v := ?_) 48 rfl rfl (by kernel_rfl) (by kernel_rfl) (by kernel_rfl) (fun _ _ _ h => h) (Or.inl ⟨by rfl, ?_⟩) (by assumption) ?_
      rotate_left
      · intro w hSw
        have q0 := blk_cell (hSw.1.mem List.mem_cons_self) 0
        have q1 := blk_cell (hSw.1.mem List.mem_cons_self) 1
        have q2 := hSw.2
        go_simp
        try with_reducible rfl
      (try simp only [Act.put, List.setIfInBounds_toArray, List.set_cons_zero, List.set_cons_succ])
      refine take_dst (i := 6) (v := ?_) 49 rfl rfl (by kernel_rfl) (by kernel_rfl) (by kernel_rfl) (fun _ _ _ h => h) (Or.inl ⟨by rfl, ?_⟩) (by assumption) ?_
      rotate_left
      · intro w hSw
        go_simp
        try with_reducible rfl
      (try simp only [Act.put, List.setIfInBounds_toArray, List.set_cons_zero, List.set_cons_succ])
      refine take_dst (i := 7) (v := ?_) 50 rfl rfl (by kernel_rfl) (by kernel_rfl) (by kernel_rfl) (fun _ _ _ h => h) (Or.inl ⟨by rfl, ?_⟩) (by assumption) ?_
      rotate_left
      · intro w hSw
        go_simp
        try with_reducible rfl
      (try simp only [Act.put, List.setIfInBounds_toArray, List.set_cons_zero, List.set_cons_succ])
      refine take_dst (i := 8) (v := ?_) 51 rfl rfl (by kernel_rfl) (by kernel_rfl) (by kernel_rfl) (fun _ _ _ h => h) (Or.inl ⟨by rfl, ?_⟩) (by assumption) ?_
      rotate_left
      · intro w hSw
        go_simp
        try with_reducible rfl
      (try simp only [Act.put, List.setIfInBounds_toArray, List.set_cons_zero, List.set_cons_succ])
      refine take_dst (i := 9) (v := ?_) 52 rfl rfl (by kernel_rfl) (by kernel_rfl) (by kernel_rfl) (fun _ _ _ h => h) (Or.inl ⟨by rfl, ?_⟩) (by assumption) ?_
      rotate_left
      · intro w hSw
        go_simp
        try with_reducible rfl
      (try simp only [Act.put, List.setIfInBounds_toArray, List.set_cons_zero, List.set_cons_succ])
      refine take_dst (i := 10) (v := ?_) 53 rfl rfl (by kernel_rfl) (by kernel_rfl) (by kernel_rfl) (fun _ _ _ h => h) (Or.inl ⟨by rfl, ?_⟩) (by assumption) ?_
      rotate_left
      · intro w hSw
        go_simp
        try with_reducible rfl
      (try simp only [Act.put, List.setIfInBounds_toArray, List.set_cons_zero, List.set_cons_succ])
      refine take_dst (i := 11) (v := ?_) 54 rfl rfl (by kernel_rfl) (by kernel_rfl) (by kernel_rfl) (fun _ _ _ h => h) (Or.inl ⟨by rfl, ?_⟩) (by assumption) ?_
      rotate_left
      · intro w hSw
        go_simp
        try with_reducible rfl
      (try simp only [Act.put, List.setIfInBounds_toArray, List.set_cons_zero, List.set_cons_succ])
      refine take_dst (i := 12) (v := ?_) 55 rfl rfl (by kernel_rfl) (by kernel_rfl) (by kernel_rfl) (fun _ _ _ h => h) (Or.inl ⟨by rfl, ?_⟩) (by assumption) ?_
      rotate_left
      · intro w hSw
        go_simp
        try with_reducible rfl
      (try simp only [Act.put, List.setIfInBounds_toArray, List.set_cons_zero, List.set_cons_succ])
      refine take_dst (i := 13) (v := ?_) 56 rfl rfl (by kernel_rfl) (by kernel_rfl) (by kernel_rfl) (fun _ _ _ h => h) (Or.inl ⟨by rfl, ?_⟩) (by assumption) ?_
      rotate_left
      · intro w hSw
        go_simp
        try with_reducible rfl
      (try simp only [Act.put, List.setIfInBounds_toArray, List.set_cons_zero, List.set_cons_succ])
      refine take_dst (i := 14) (v := ?_) 57 rfl rfl (by kernel_rfl) (by kernel_rfl) (by kernel_rfl) (fun _ _ _ h => h) (Or.inl ⟨by rfl, ?_⟩) (by assumption) ?_
      rotate_left
      · intro w hSw
        have q0 := blk_cell (hSw.1.mem List.mem_cons_self) 0
        have q1 := blk_cell (hSw.1.mem List.mem_cons_self) 1
        have q2 := hSw.2
        go_simp
        try with_reducible rfl
      (try simp only [Act.put, List.setIfInBounds_toArray, List.set_cons_zero, List.set_cons_succ])
      refine wpAnyH_ready (rs := [15]) (by kernel_rfl) (by simp) ?_
      refine AllReadyH.cons rfl (fun K hK => ?_) (AllReadyH.nil)
      go_simp
      have hCB := Kd.F_now (Kd.F_step HCB0.out.2 (fun k q _ => (HMD2.out.below.block k q.2).trans (HMR.out.below.block k q.2).symm))
      refine (slices_Equal_byte_byte.calls KF A8 c8 b A2 c2 b true wd (Kd.R_reads' HRD8.out).2.2 (Kd.R_reads' HRD8.out).2.1 hCB HCB0.out.1 (HK.out.rd.eq b (by have := HS46.out; omega))).mono ?_
      rintro e w9 ⟨rfl, k9, rfl⟩
      have HM9 := Aside0.mk (HMD2.out.drewN k9)
      have HRR9 := Aside0.mk (Kd.R_drewN HRR8.out k9)
      have HZ9 := Aside0.mk (show w2.heap.size ≤ (wd.drewN k9).heap.size from HZ8.out)
      generalize wd.drewN k9 = w9 at HM9 HRR9 HZ9 ⊢
      have hcl := name_cell HRR9.out i c2_
      rw [← HXE.out] at hcl
      go_simp
      refine hK.out _ _ ⟨HM9.out, hcl⟩ (fun hHeld => ?_)
      (try simp only [Act.put, List.setIfInBounds_toArray, List.set_cons_zero, List.set_cons_succ])
      clear hK K hcl hCB
      refine take_dst (i := 16) (v := ?_) 59 rfl rfl (by kernel_rfl) (by kernel_rfl) (by kernel_rfl) (fun _ _ _ h => h) (Or.inl ⟨by rfl, ?_⟩) (by assumption) ?_
      rotate_left
      · intro w hSw
        go_simp
        try with_reducible rfl
      (try simp only [Act.put, List.setIfInBounds_toArray, List.set_cons_zero, List.set_cons_succ])
      refine take_dst (i := 17) (v := ?_) 60 rfl rfl (by kernel_rfl) (by kernel_rfl) (by kernel_rfl) (fun _ _ _ h => h) (Or.inl ⟨by rfl, ?_⟩) (by assumption) ?_
      rotate_left
      · intro w hSw
        go_simp
        try with_reducible rfl
      (try simp only [Act.put, List.setIfInBounds_toArray, List.set_cons_zero, List.set_cons_succ])
      refine wpAnyH_done (by kernel_rfl) ?_ _
      go_wp2_with fail
      go_roundw
      case rel => exact ⟨i + 1, by have e9 := HRW.out; first | (rw [e9]; done) | (simp; done), c2_, HM9.out.tail |> Aside0.mk, HRR9, HZ9⟩
      case measure => have e9 := HRW.out; first | omega | (simp only [intOf] at *; omega)
    · have c2b : decide ((i : Int) < (s.L.length : Int)) = false := decide_eq_false (by omega)
      have c2c : decide (i < s.L.length) = false := decide_eq_false c2_
      go_wp2_with fail
      go_ret
      exact ⟨rfl, HMR.out.below⟩
end
end Go.Proofs.Ytfakdphkklclgaa.P

end

section
namespace Go.Proofs.Ytfakdphkklclgaa.P
open Go.RowKit Go.Proofs.YtfakdphkklclgaaW.PrintWords Go.Proofs.YtfakdphkklclgaaW.PrintLast Go.Proofs.YtfakdphkklclgaaW.PrintMore
attribute [local go_sem] max2_int min2_int max_two min_two max_three min_three max_four min_four
set_option linter.unusedVariables false
set_option linter.unusedSimpArgs false
section
open Go.ChangeMaps Go.MapKept
set_option linter.unusedVariables false
theorem SAt.lower {base base' g : Nat} {F : Nat → Prop} {s : Sto} {W : World} (h : SAt base F g s W) (hb : base' ≤ base) : SAt base' F g s W := by
  obtain ⟨⟨v, B, m, h1, h2, h3⟩, hf, hl⟩ := h
  exact ⟨⟨v, B, m, h1, Kd.R_lower h2 hb, h3⟩, hf, fun b q => ⟨Nat.le_trans hb (hl b q).1, (hl b q).2⟩⟩
theorem Rws.keptF {w0 W W1 : World} {l : List (Nat × TypeId × Array Value)} {S : Nat → Prop} (h : Rws w0 l W) (hk : Kept W W1 S) (hS : ∀ p ∈ l, ¬ S p.1) (hb : Below w0.heap.size w0 W1) : Rws w0 l W1 :=
  ⟨fun p hp => ⟨(hk.2 _ (blk_lt (h.lies p hp).1) (hS p hp)).trans (h.lies p hp).1, (h.lies p hp).2⟩, h.ne, hb⟩
theorem Rws.keptT {w0 W W1 : World} {l : List (Nat × TypeId × Array Value)} {base ga n c : Nat} {ok : Nat → Prop} {xs : List Int} (h : Rws w0 l W) (hR : Kd.R (Kd.int .u8) 5 W base ok (.slice (some ⟨ga, 0, none⟩) n c) xs) (hk : Kept W W1 (fun k => k = ga)) (ht : ∀ p ∈ l, p.2.1 ≠ 5) (hb : Below w0.heap.size w0 W1) : Rws w0 l W1 :=
  h.keptF hk (fun p hp e => by
    obtain ⟨cs, h7⟩ := Kd.R_typed hR ga rfl
    have h8 := (h.lies p hp).1
    rw [e] at h8
    exact typ_nst h8 h7 (ht p hp) rfl) hb
theorem Rws.rebase {w0 w W W1 : World} {l : List (Nat × TypeId × Array Value)} {S : Nat → Prop} (h : Rws w l W) (hk : Kept W W1 S) (hS : ∀ p ∈ l, ¬ S p.1) (hw : w0.heap.size ≤ w.heap.size) (hb : Below w0.heap.size w0 W1) : Rws w0 l W1 :=
  ⟨fun p hp => ⟨(hk.2 _ (blk_lt (h.lies p hp).1) (hS p hp)).trans (h.lies p hp).1, Nat.le_trans hw (h.lies p hp).2⟩, h.ne, hb⟩
theorem kept_at1 {W W1 : World} {S : Nat → Prop} (hk : Kept W W1 S) {p : Addr} (hp : S p.block) (v : Value) : Kept W (W1.setCell p v) S := ⟨by have := hk.1; simpa [World.setCell] using this, fun k h1 hn => (Below.heap_setCell W1 p v k (fun e => hn (e ▸ hp))).trans (hk.2 k h1 hn)⟩
def DoPost (w0 : World) (F Z : Nat → Prop) (g : Nat) (w : World) (out : Sto × List S52 × Int) (e : Ending) (w' : World) : Prop := ∃ (y m : Value) (F' Z' M : Nat → Prop), e = .returned (.tuple #[y, m, .bool true]) ∧ SAt w0.heap.size F' g out.1 w' ∧ DAt Z' y out.1 w' ∧ DWr M m out.2.1 w' ∧ (∀ k, Z' k → ¬ F' k) ∧ (∀ k, F' k → F k ∨ w.heap.size ≤ k) ∧ (∀ k, Z' k → Z k ∨ w.heap.size ≤ k) ∧ (∀ k, M k → w.heap.size ≤ k) ∧ Kept w w' F ∧ Below w0.heap.size w0 w'
theorem Wrs.now {S1 S2 : Nat} {A : Option Addr} {c : Nat} {ws : List S52} {W : World} (h : Wrs S1 S2 (.slice A ws.length c) ws W) : Kd.C k52 W A ws.length ws := by
  obtain ⟨A', c', e, _, h2⟩ := h.reads
  injection e with e
  rw [e]; exact h2
theorem DWr.now {Z : Nat → Prop} {A : Option Addr} {c : Nat} {ws : List S52} {W : World} (h : DWr Z (.slice A ws.length c) ws W) : Kd.C k52 W A ws.length ws := by
  obtain ⟨A', c', e, _, h2⟩ := h
  injection e with e
  rw [e]; exact Kd.F_now h2
def EndOK (w wr : World) (F Z F1 Z1 M : Nat → Prop) (b6 : Nat) : Prop := (¬ F1 b6 ∧ ¬ Z1 b6 ∧ ¬ M b6) ∧ Kept w wr F ∧ w.heap.size ≤ b6 ∧ (∀ k, F1 k → F k ∨ w.heap.size ≤ k) ∧ (∀ k, Z1 k → Z k ∨ w.heap.size ≤ k) ∧ (∀ k, M k → w.heap.size ≤ k) ∧ ∀ k, Z1 k → ¬ F1 k
theorem do_end {w0 w wr W : World} {F Z F1 Z1 M : Nat → Prop} {g b6 : Nat} {out : Sto × List S52 × Int} {y m : Value} (hS : SAt w0.heap.size F1 g out.1 wr) (hY : DAt Z1 y out.1 wr) (hM : DWr M m out.2.1 wr) (hK : Kept wr W (fun k => k = b6)) (h : EndOK w wr F Z F1 Z1 M b6) (hB : Below w0.heap.size w0 W) : DoPost w0 F Z g w out (.returned (.tuple #[y, m, .bool true])) W := by
  obtain ⟨⟨h1, h2, h3⟩, h4, h5, h6, h7, h8, h9⟩ := h
  exact ⟨y, m, F1, Z1, M, rfl, hS.kept hK (fun k q e => h1 (e ▸ q)), hY.kept hK (fun k q e => h2 (e ▸ q)), hM.kept hK (fun k q e => h3 (e ▸ q)), h9, h6, h7, h8, ⟨Nat.le_trans h4.1 hK.1, fun k hk hn => (hK.2 k (Nat.lt_of_lt_of_le hk h4.1) (fun e => by omega)).trans (h4.2 k hk hn)⟩, hB⟩
theorem laid_wr (s : Sto) (l : List S101) (r : List Int) (hi : s.img.length ≤ 1048576) : (laidS s l r).2.1.length ≤ 2 ∧ ∀ x ∈ (laidS s l r).2.1, x.f1.length ≤ 2097152 := by
  unfold laidS
  split
  · exact ⟨Nat.zero_le _, fun x hx => by cases hx⟩
  · refine ⟨Nat.le_refl _, fun x hx => ?_⟩
    rcases List.mem_cons.1 hx with rfl | hx
    · simp; omega
    · rw [List.mem_singleton.1 hx]; simp
theorem put_wr (nm : ByteArray → Bool) (s : Sto) (x : ByteArray) (b : List Int) (hi : s.img.length ≤ 1048576) : (putS nm s x b).2.1.length ≤ 2 ∧ ∀ x' ∈ (putS nm s x b).2.1, x'.f1.length ≤ 2097152 := by
  unfold putS
  split
  · exact ⟨Nat.zero_le _, fun x hx => by cases hx⟩
  split
  · exact ⟨Nat.zero_le _, fun x hx => by cases hx⟩
  split
  · exact ⟨Nat.zero_le _, fun x hx => by cases hx⟩
  exact laid_wr _ _ _ hi
theorem drop_wr (nm : ByteArray → Bool) (s : Sto) (x : ByteArray) (hi : s.img.length ≤ 1048576) : (dropS nm s x).2.1.length ≤ 2 ∧ ∀ x' ∈ (dropS nm s x).2.1, x'.f1.length ≤ 2097152 := by
  unfold dropS
  split
  · exact ⟨Nat.zero_le _, fun x hx => by cases hx⟩
  split
  · exact ⟨Nat.zero_le _, fun x hx => by cases hx⟩
  exact laid_wr _ _ _ hi
set_option maxHeartbeats 12800000 in
set_option maxRecDepth 100000 in
theorem do_put {w0 w : World} {g : Nat} {F Z : Nat → Prop} {xv : Value} {s : Sto} (KF : Nat) (nm : ByteArray → Bool) (hK : StFacts KF nm) (hU : ∀ l : List Int, l.length ≤ 140737488351232 → provisoplain_Untouched.f KF (l ++ [165, 90, 195, 60]) l = some true) (hg : Good nm s) (x : ByteArray) (hx : x.size ≤ maxLen) (b : List Int) (Ad : Option Addr) (cd : Nat) (hlim : b.length ≤ 140737488351232) (hb : Kd.F (Kd.int .u8) w (fun k => k < w0.heap.size) Ad b.length b) (hcd : b.length ≤ cd) (hB : Below w0.heap.size w0 w) (h : SAt w0.heap.size F g s w) (hd : DAt Z xv s w) (hZ : ∀ k, Z k → ¬ F k) : Calls Try.prog 14 #[.pointer (some ⟨g, 0, none⟩), xv, .agg #[.int .i64 0, .string x, .slice Ad b.length cd]] w fun e w' => DoPost w0 F Z g w (putS nm s x b) e w' := by
  have HK := Aside0.mk hK
  have HU := Aside0.mk hU
  have HG := Aside0.mk hg
  have HX := Aside0.mk hx
  have HLIM := Aside0.mk hlim
  have HBF := Aside0.mk hb
  have HCD := Aside0.mk hcd
  have HS := Aside0.mk h
  have HD := Aside0.mk hd.bound
  have HZZ := Aside0.mk hZ
  have HN0 := Aside0.mk hB
  obtain ⟨A0, c0, B1, d1, rfl, _⟩ := hd
  clear hK hU hg hx hlim hb hcd hB h hZ
  go_enter Try.func14, Try.ntmps14
  go_wp2_with (first | ((with_reducible refine gate_dst (N := 4) rfl ?_); refine rw_box rfl 29 rfl (cs := #[.slice A0 s.img.length c0, .slice B1 s.L.length d1]) rfl (Rws.nil w) ?_; intro b4 w1 hX; have HM4 := Aside0.mk hX; clear hX) | ((with_reducible refine gate_dst (N := 5) rfl ?_); refine rw_box rfl 37 rfl (cs := #[.int .i64 0, .string x, .slice Ad b.length cd]) rfl HM4.out ?_; intro b5 w2 hX; have HM5 := Aside0.mk hX; clear hX) | ((with_reducible refine gate_dst (N := 6) rfl ?_); refine rw_allocS rfl 29 rfl (cs := #[.slice none 0 0, .slice none 0 0]) (by kernel_rfl) HM5.out ?_; intro b6 w3 hg6 hM hb6; have HM6 := Aside0.mk hM; have hc50 := blk_cell (hM.mem (List.mem_cons_of_mem _ List.mem_cons_self)) 0; have hc51 := blk_cell (hM.mem (List.mem_cons_of_mem _ List.mem_cons_self)) 1; have hc52 := blk_cell (hM.mem (List.mem_cons_of_mem _ List.mem_cons_self)) 2; clear hg6 hM hb6))
  refine (Roomy_calls Ad cd b _ (Kd.F_now (Kd.F_below HBF.out HM6.out.below)) HCD.out HLIM.out).mono ?_
  rintro e w4 ⟨A, c, rfl, hcap, hR, hb⟩
  obtain ⟨adr, hAd, _⟩ := Kd.at_int (Kd.R_reads' hR).2.2 0 (by omega) (by simp; omega)
  subst hAd
  obtain ⟨ga, rfl⟩ := Kd.R_head hR
  have HR := Aside0.mk (Kd.R_bound hR)
  have HCAP := Aside0.mk hcap
  have HM7 := Aside0.mk (HM6.out.step hb)
  have HGA := Aside0.mk (show w3.heap.size ≤ ga ∧ ga < w4.heap.size from ⟨Kd.R_base_ hR ga rfl, Kd.R_lt hR ga rfl⟩)
  have HL3 := Aside0.mk (show b4 < w3.heap.size ∧ b5 < w3.heap.size ∧ b6 < w3.heap.size ∧ w.heap.size ≤ w3.heap.size from ⟨blk_lt (HM6.out.mem (List.mem_cons_of_mem _ (List.mem_cons_of_mem _ List.mem_cons_self))), blk_lt (HM6.out.mem (List.mem_cons_of_mem _ List.mem_cons_self)), blk_lt (HM6.out.mem List.mem_cons_self), HM6.out.below.size⟩)
  clear hc51 hc52
  have hc51 := blk_cell (HM7.out.mem (List.mem_cons_of_mem _ List.mem_cons_self)) 1
  have hc52 := blk_cell (HM7.out.mem (List.mem_cons_of_mem _ List.mem_cons_self)) 2
  clear hcap hR hb
  have HLT := Aside0.mk HS.out.lt
  have HSG := Aside0.mk (HS.out.lt g HS.out.fs)
  go_wp2_with fail
  refine (Put_st KF nm HK.out HG.out x HX.out b (some ⟨ga, 0, none⟩) c (fun k => w3.heap.size ≤ k) (fun W' hW => ?hpf) (fun k q1 q2 => by have := (HLT.out k q2).2; have := HL3.out; omega) (HS.out.step HM7.out.below)).mono ?_
  case hpf =>
    have h8 : Kd.C (Kd.int .u8) W' (some ⟨ga, 0, none⟩) (b ++ [165, 90, 195, 60]).length (b ++ [165, 90, 195, 60]) := by
      have hl4 : (b ++ ([165, 90, 195, 60] : List Int)).length = b.length + 4 := by simp
      rw [hl4]
      exact Kd.R_F HR.out W' (fun k q1 q2 => hW k q1.2.1 q2)
    have h9 := Kd.C_take h8 (m := b.length) (by simp)
    rwa [List.take_left] at h9
  rintro e w5 ⟨v, S1, S2, rfl, q1, q2, q3, q4, q5, q6, q7⟩
  have HW5 := Aside0.mk (And.intro q1 (And.intro q2 q3))
  have HWR := Aside0.mk q4
  have HS5 := Aside0.mk q5
  have HK5 := Aside0.mk (show Kept w w5 F from ⟨Nat.le_trans HM7.out.below.size q6.1, fun k hk hn => (q6.2 k (Nat.lt_of_lt_of_le hk HM7.out.below.size) hn).trans (HM7.out.below.block k hk)⟩)
  have hbn : Below w0.heap.size w0 w5 := q7 _ w0 (Nat.le_refl _) (HN0.out.trans (HM7.out.below.mono HN0.out.size))
  have hnF : ∀ k, w.heap.size ≤ k → ¬ F k := fun k hk q => by have := (HLT.out k q).2; omega
  have HM8 := Aside0.mk (HM7.out.rebase q6 (fun p hp => hnF _ (HM7.out.lies p hp).2) HN0.out.size hbn)
  have HR8 := Aside0.mk (Kd.R_kept HR.out q6 (fun k q => hnF k (by have := q.2.1; have := HL3.out; omega)))
  have HD8 := Aside0.mk (HD.out.kept HK5.out (fun k q => HZZ.out k q.1))
  have HBF8 := Aside0.mk (Kd.F_kept HBF.out HK5.out (fun k q1 q2 => by have := (HLT.out k q2).1; omega))
  have HGA8 := Aside0.mk (show ga < w5.heap.size by have := HGA.out.2; have := q6.1; omega)
  clear q1 q2 q3 q4 q5 q6 q7 hbn hnF hc51 hc52
  have hc51 := blk_cell (HM8.out.mem (List.mem_cons_of_mem _ List.mem_cons_self)) 1
  have hc52 := blk_cell (HM8.out.mem (List.mem_cons_of_mem _ List.mem_cons_self)) 2
  go_wp2_with (first | ((with_reducible refine gate_dst (N := 41) rfl ?_); refine rw_load rfl 29 rfl rfl HM8.out (List.mem_cons_of_mem _ (List.mem_cons_of_mem _ List.mem_cons_self)) _ Try.underlying29 rfl (by kernel_rfl) ?_))
  refine (Put_d KF nm HK.out HG.out HD8.out x b Ad cd (Kd.F_now HBF8.out) HCD.out).mono ?_
  rintro e w6 ⟨y, m, rfl, hy, hm, hb⟩
  obtain ⟨out, hout⟩ : ∃ out, out = putS nm s x b := ⟨_, rfl⟩
  have hwr := put_wr nm s x b HG.out.img
  rw [← hout] at hy hm HS5 HWR hwr ⊢
  have HY := Aside0.mk hy
  have HWM := Aside0.mk hm
  have HWW := Aside0.mk hwr
  have HB6 := Aside0.mk hb
  obtain ⟨A15, c15, A16, c16, e15, _⟩ := hy
  subst e15
  have HM9 := Aside0.mk (HM8.out.step hb)
  have HR9 := Aside0.mk (Kd.R_below HR8.out hb)
  have HOUT := Aside0.mk hout
  clear hm hb hwr hc51 hc52 hout
  have hc51 := blk_cell (HM9.out.mem (List.mem_cons_of_mem _ List.mem_cons_self)) 1
  have hc52 := blk_cell (HM9.out.mem (List.mem_cons_of_mem _ List.mem_cons_self)) 2
  go_wp2_with (first | ((with_reducible refine gate_dst (N := 13) rfl ?_); refine rw_allocS rfl 29 rfl (cs := #[.slice none 0 0, .slice none 0 0]) (by kernel_rfl) HM9.out ?_; intro b13 w7 hg6 hM hb6; have HM10 := Aside0.mk hM; have HB7 := Aside0.mk hb6; have HE13 := Aside0.mk hg6; clear hg6 hM hb6) | (refine rw_storeS rfl 29 rfl rfl (cs' := #[.slice A15 out.1.img.length c15, .slice A16 out.1.L.length c16]) rfl [] HM10.out (by kernel_rfl) rfl (by show _ = _; simp [Value.oneCell']) ?_; intro w8 hM hk3; have HM11 := Aside0.mk hM; have HK8 := Aside0.mk hk3; have hc53 := blk_cell (hM.mem (List.mem_cons_of_mem _ (List.mem_cons_of_mem _ List.mem_cons_self))) 2; clear hM hk3))
  have HK58 := Aside0.mk (show Kept w5 w8 (fun _ => False) from ⟨Nat.le_trans HB6.out.size (Nat.le_trans HB7.out.size HK8.out.1), fun k hk _ => by
    have h6 := HB6.out.size
    exact (HK8.out.2 k (by have := HB7.out.size; omega) (by have := HE13.out; omega)).trans ((HB7.out.block k (by omega)).trans (HB6.out.block k hk))⟩)
  have HK68 := Aside0.mk (show Kept w6 w8 (fun _ => False) from ⟨Nat.le_trans HB7.out.size HK8.out.1, fun k hk _ => (HK8.out.2 k (by have := HB7.out.size; omega) (by have := HE13.out; omega)).trans (HB7.out.block k hk)⟩)
  have hrow8 := Kd.R_kept HR8.out HK58.out (fun k q e => e)
  have hlen4 : (b ++ [165, 90, 195, 60]).length = b.length + 4 := by simp
  have hun := provisoplain_Untouched.calls KF (some ⟨ga, 0, none⟩) c (b ++ [165, 90, 195, 60]) Ad cd b true w8 (Kd.R_reads' hrow8).2.2 (by rw [hlen4]; exact HCAP.out) (Kd.F_now (Kd.F_kept HBF8.out HK58.out (fun k q e => e))) HCD.out (HU.out b HLIM.out)
  rw [hlen4] at hun
  refine hun.mono ?_
  clear hun hlen4
  rintro e w9 ⟨rfl, k9, rfl⟩
  have HM12 := Aside0.mk (HM11.out.drewN k9)
  have HB0 := Aside0.mk (show Below w0.heap.size w0 (w8.drewN k9) from HM12.out.below)
  have HRW0 := Aside0.mk (show ∃ ys : List Int, Kd.R (Kd.int .u8) 5 (w8.drewN k9) w3.heap.size (fun k => w3.heap.size ≤ k ∧ k < w4.heap.size) (.slice (some ⟨ga, 0, none⟩) (b.length + 4) c) ys from ⟨_, Kd.R_mono (Kd.R_drewN hrow8 k9) (fun k q => ⟨q.2.1, q.2.2.1⟩)⟩)
  have HKG := Aside0.mk ((Kept.refl w8 (fun k => k = ga)).drewN k9)
  have HRW8 := Aside0.mk (show ∃ ys : List Int, Kd.R (Kd.int .u8) 5 w8 w3.heap.size (fun k => w3.heap.size ≤ k ∧ k < w4.heap.size) (.slice (some ⟨ga, 0, none⟩) (b.length + 4) c) ys from ⟨_, Kd.R_mono hrow8 (fun k q => ⟨q.2.1, q.2.2.1⟩)⟩)
  clear hrow8 hc53 hc50
  go_wp2_with fail
  go_loopw [58] (fun v58 wr => ∃ i : Nat, v58 = .int .i64 (i : Int) ∧ i ≤ b.length ∧ Aside0 (Below w0.heap.size w0 wr) ∧ Aside0 (Kept w8 wr (fun k => k = ga)) ∧ Aside0 (∃ ys : List Int, Kd.R (Kd.int .u8) 5 wr w3.heap.size (fun k => w3.heap.size ≤ k ∧ k < w4.heap.size) (.slice (some ⟨ga, 0, none⟩) (b.length + 4) c) ys)) (fun v58 _ => ((b.length : Int) - intOf v58).toNat)
  case atStart => exact ⟨0, rfl, Nat.zero_le _, HB0, HKG, HRW0⟩
  case round =>
    clear HB0 HKG HRW0 HM12
    obtain ⟨i, rfl, hi, HB0, HKG, HRW0⟩ := hrel
    by_cases c1_ : i < b.length
    · have c1b : decide ((i : Int) < (b.length : Int)) = true := decide_eq_true (by omega)
      have p1 : (0 ≤ (i : Int)) = True := eq_true (by omega)
      have p2 : ((i : Int) < (b.length : Int)) = True := eq_true (by omega)
      have HI : Aside0 (i < b.length) := ⟨c1_⟩
      obtain ⟨ys, hR⟩ := HRW0.out
      obtain ⟨hc1, hf1⟩ := Kd.R_celln 0 hR (i : Int) (by omega) (by omega)
      rw [Int.toNat_natCast] at hc1 hf1
      have HR := Aside0.mk hR
      obtain ⟨z, hz⟩ : ∃ z, rdOf 0 ys (i : Int) = z := ⟨_, rfl⟩
      rw [hz] at hc1
      have HW9 : Aside0 (wrap64 ((i : Int) + 1) = ((i + 1 : Nat) : Int)) := ⟨by have := HLIM.out; unfold wrap64; omega⟩
      clear hR hz HRW0 c1_
      go_wp2_with fail
      have hrow := Kd.R_putn HR.out (i : Int) (bits BinOp.xor IntKind.u8 z 255)
      rw [Int.toNat_natCast] at hrow
      have HROW := Aside0.mk hrow
      have HB1 := Aside0.mk (HB0.out.setCell (p := ⟨ga, i, none⟩) (show w0.heap.size ≤ ga from by have := HGA.out; have := HL3.out; have := HN0.out.size; omega) (.int .u8 (bits BinOp.xor IntKind.u8 z 255)))
      have HKG1 := Aside0.mk (kept_at1 HKG.out (p := ⟨ga, i, none⟩) rfl (.int .u8 (bits BinOp.xor IntKind.u8 z 255)))
      clear hrow
      go_roundw
      case rel => exact ⟨i + 1, (by rw [HW9.out]), HI.out, HB1, HKG1, ⟨_, HROW.out⟩⟩
      case measure => rw [HW9.out]; have := HI.out; show ((b.length : Int) - ((i + 1 : Nat) : Int)).toNat < ((b.length : Int) - (i : Int)).toNat; omega
    · have c1b : decide ((i : Int) < (b.length : Int)) = false := decide_eq_false (by omega)
      have c1n : decide (i < b.length) = false := decide_eq_false c1_
      have hR9 := HRW0.out
      have hnga : ∀ k, (∃ q : Nat, q = ga ∧ k = ga) → k = ga := fun k q => q.elim (fun _ q => q.2)
      have hga := HGA.out
      have hl3 := HL3.out
      have hw5 := HW5.out
      have HK5r := Aside0.mk (show Kept w5 wr (fun k => k = ga) from ⟨Nat.le_trans HK58.out.1 HKG.out.1, fun k hk hn => (HKG.out.2 k (Nat.lt_of_lt_of_le hk HK58.out.1) hn).trans (HK58.out.2 k hk (fun q => q))⟩)
      have HK6r := Aside0.mk (show Kept w6 wr (fun k => k = ga) from ⟨Nat.le_trans HK68.out.1 HKG.out.1, fun k hk hn => (HKG.out.2 k (Nat.lt_of_lt_of_le hk HK68.out.1) hn).trans (HK68.out.2 k hk (fun q => q))⟩)
      have HSr := Aside0.mk (HS5.out.kept HK5r.out (fun k q e => by
        subst e
        rcases q with q | q
        · have := (HLT.out k q).2; omega
        · omega))
      have HWr := Aside0.mk (HWR.out.kept HK5r.out (fun k q1 q2 e => by omega))
      have HYr := Aside0.mk (HY.out.kept HK6r.out (fun k q e => by
        subst e
        rcases q with q | q
        · have := q.2; omega
        · have := q.1; omega))
      have HMr := Aside0.mk (HWM.out.kept HK6r.out (fun k q e => by have := q.1; omega))
      obtain ⟨ys9, hR9⟩ := HRW0.out
      obtain ⟨ysz, hRz⟩ : ∃ ys : List Int, Kd.R (Kd.int .u8) 5 w8 w3.heap.size (fun k => w3.heap.size ≤ k ∧ k < w4.heap.size) (.slice (some ⟨ga, 0, none⟩) (b.length + 4) c) ys := HRW8.out
      have HM13 := Aside0.mk (HM11.out.keptT hRz HKG.out (by intro p hp; rcases List.mem_cons.1 hp with rfl | hp; exact (show 29 ≠ 5 by decide); rcases List.mem_cons.1 hp with rfl | hp; exact (show 29 ≠ 5 by decide); rcases List.mem_cons.1 hp with rfl | hp; exact (show 37 ≠ 5 by decide); rcases List.mem_cons.1 hp with rfl | hp; exact (show 29 ≠ 5 by decide); cases hp) HB0.out)
      obtain ⟨Aw, cw, ew, hw1, hw2⟩ := HWr.out.reads
      subst ew
      obtain ⟨Am, cm, em, hm1, hm2⟩ := HMr.out
      subst em
      have HWC := Aside0.mk (And.intro hw1 hm1)
      have HLX := Aside0.mk (show w.heap.size ≤ wr.heap.size by have h1 := HK5r.out.1; have h2 := HK5.out.1; omega)
      have hF1 : ∀ k, (F k ∨ (S2 ≤ k ∧ k < w5.heap.size)) → F k ∨ w.heap.size ≤ k := fun k q => q.elim .inl (fun q => .inr (by omega))
      have HEND := Aside0.mk (show EndOK w wr F Z (fun k => F k ∨ (S2 ≤ k ∧ k < w5.heap.size)) (fun k => (Z k ∧ k < w.heap.size) ∨ (w5.heap.size ≤ k ∧ k < w6.heap.size)) (fun k => w5.heap.size ≤ k ∧ k < w6.heap.size) b6 from by
        have hk1 := HK5.out.1
        refine ⟨⟨fun q => ?_, fun q => ?_, fun q => by omega⟩, ?_, by have := (HM6.out.lies _ List.mem_cons_self).2; exact this, hF1, fun k q => q.elim (fun q => .inl q.1) (fun q => .inr (by omega)), fun k q => by omega, fun k q1 q2 => ?_⟩
        · rcases q with q | q
          · have := (HLT.out b6 q).2; have := (HM6.out.lies _ List.mem_cons_self).2; simp only at this; omega
          · omega
        · rcases q with q | q
          · have := q.2; have := (HM6.out.lies _ List.mem_cons_self).2; simp only at this; omega
          · omega
        · exact ⟨Nat.le_trans HK5.out.1 HK5r.out.1, fun k hk hn => (HK5r.out.2 k (Nat.lt_of_lt_of_le hk HK5.out.1) (fun e => by omega)).trans (HK5.out.2 k hk hn)⟩
        · rcases q1 with q1 | q1
          · rcases q2 with q2 | q2
            · exact HZZ.out k q1.1 q2
            · omega
          · rcases q2 with q2 | q2
            · have := (HLT.out k q2).2; omega
            · omega)
      clear hnga hga hl3 hw5 hR9 hRz hw1 hw2 hm1 hm2 hF1
      go_wp2_with fail
      have herr : (out.2.2 == out.2.2) = true := by simp
      have HMD := Aside0.mk (HM13.out.drewN 1)
      (try simp only [Act.put, List.setIfInBounds_toArray, List.set_cons_zero, List.set_cons_succ])
      refine wp_region_held_drew (S := fun w' => Rws w0 [(b13, 29, #[.slice A15 out.1.img.length c15, .slice A16 out.1.L.length c16])] w') (by kernel_rfl) ?_ (fun hHeld => ?_)
      · exact Rws.first HMD.out
      have HV20 := Aside0.mk (show Rws w0 _ (World.drew _) from HMD.out)
      have HKV20 := Aside0.mk (show Kept wr (World.drew _) (fun k => k = b6) from (Kept.refl wr (fun k => k = b6)).drewN 1)
      clear HMD
      generalize World.drew _ = w20 at HV20 HKV20 hHeld ⊢
      refine take_dst (i := 0) (v := .agg #[.slice A15 out.1.img.length c15, .slice A16 out.1.L.length c16]) 68 rfl rfl (by kernel_rfl) (by kernel_rfl) (by kernel_rfl) (fun _ _ _ h => h) (rw_yields (by rfl) 29 rfl rfl (fun _ h => h) List.mem_cons_self _ Try.underlying29 rfl (by kernel_rfl)) (by assumption) ?_
      (try simp only [Act.put, List.setIfInBounds_toArray, List.set_cons_zero, List.set_cons_succ])
      refine take_dst (i := 1) (v := ?_) 69 rfl rfl (by kernel_rfl) (by kernel_rfl) (by kernel_rfl) (fun _ _ _ h => h) (Or.inl ⟨by rfl, ?_⟩) (by assumption) ?_
      rotate_left
      · intro w hSw
        obtain q1 := hSw
        go_simp
        try with_reducible rfl
      (try simp only [Act.put, List.setIfInBounds_toArray, List.set_cons_zero, List.set_cons_succ])
      refine take_dst (i := 2) (v := ?_) 70 rfl rfl (by kernel_rfl) (by kernel_rfl) (by kernel_rfl) (fun _ _ _ h => h) (Or.inl ⟨by rfl, ?_⟩) (by assumption) ?_
      rotate_left
      · intro w hSw
        obtain q1 := hSw
        go_simp
        try with_reducible rfl
      (try simp only [Act.put, List.setIfInBounds_toArray, List.set_cons_zero, List.set_cons_succ])
      refine take_dst (i := 3) (v := ?_) 71 rfl rfl (by kernel_rfl) (by kernel_rfl) (by kernel_rfl) (fun _ _ _ h => h) (Or.inl ⟨by rfl, ?_⟩) (by assumption) ?_
      rotate_left
      · intro w hSw
        obtain q1 := hSw
        go_simp
        try with_reducible rfl
      (try simp only [Act.put, List.setIfInBounds_toArray, List.set_cons_zero, List.set_cons_succ])
      refine take_dst (i := 4) (v := ?_) 72 rfl rfl (by kernel_rfl) (by kernel_rfl) (by kernel_rfl) (fun _ _ _ h => h) (Or.inl ⟨by rfl, ?_⟩) (by assumption) ?_
      rotate_left
      · intro w hSw
        obtain q1 := hSw
        go_simp
        try with_reducible rfl
      (try simp only [Act.put, List.setIfInBounds_toArray, List.set_cons_zero, List.set_cons_succ])
      refine take_dst (i := 5) (v := ?_) 73 rfl rfl (by kernel_rfl) (by kernel_rfl) (by kernel_rfl) (fun _ _ _ h => h) (Or.inl ⟨by rfl, ?_⟩) (by assumption) ?_
      rotate_left
      · intro w hSw
        obtain q1 := hSw
        go_simp
        try with_reducible rfl
      (try simp only [Act.put, List.setIfInBounds_toArray, List.set_cons_zero, List.set_cons_succ])
      refine take_dst (i := 6) (v := ?_) 74 rfl rfl (by kernel_rfl) (by kernel_rfl) (by kernel_rfl) (fun _ _ _ h => h) (Or.inl ⟨by rfl, ?_⟩) (by assumption) ?_
      rotate_left
      · intro w hSw
        obtain q1 := hSw
        go_simp
        try with_reducible rfl
      (try simp only [Act.put, List.setIfInBounds_toArray, List.set_cons_zero, List.set_cons_succ])
      refine take_dst (i := 7) (v := ?_) 75 rfl rfl (by kernel_rfl) (by kernel_rfl) (by kernel_rfl) (fun _ _ _ h => h) (Or.inl ⟨by rfl, ?_⟩) (by assumption) ?_
      rotate_left
      · intro w hSw
        obtain q1 := hSw
        go_simp
        try with_reducible rfl
      (try simp only [Act.put, List.setIfInBounds_toArray, List.set_cons_zero, List.set_cons_succ])
      refine wpAnyH_ready (rs := [8]) (by kernel_rfl) (by simp) ?_
      refine AllReadyH.cons rfl (fun K hK => ?_) (AllReadyH.nil)
      go_simp
      refine (provisoplain_SameWrites.calls KF Aw cw out.2.1 Am cm out.2.1 true w20 (HWr.out.kept HKV20.out (fun k q1 q2 e => by have h3 := HL3.out; have h5 := HW5.out; have h6 := HGA.out; omega)).now HWC.out.1 (HMr.out.kept HKV20.out (fun k q e => by have h3 := HL3.out; have h5 := HW5.out; have h6 := HGA.out; have := q.1; omega)).now HWC.out.2 (HK.out.wr _ HWW.out.1 HWW.out.2)).mono ?_
      rintro e w21 ⟨rfl, k21, rfl⟩
      have HV21 := Aside0.mk (HV20.out.drewN k21)
      have HKV21 := Aside0.mk (HKV20.out.drewN k21)
      generalize w20.drewN k21 = w21 at HV21 HKV21 ⊢
      go_simp
      refine hK.out _ _ (Rws.first HV21.out) (fun hHeld => ?_)
      (try simp only [Act.put, List.setIfInBounds_toArray, List.set_cons_zero, List.set_cons_succ])
      clear hK K
      refine take_dst (i := 9) (v := ?_) 77 rfl rfl (by kernel_rfl) (by kernel_rfl) (by kernel_rfl) (fun _ _ _ h => h) (Or.inl ⟨by rfl, ?_⟩) (by assumption) ?_
      rotate_left
      · intro w hSw
        obtain q1 := hSw
        go_simp
        try with_reducible rfl
      (try simp only [Act.put, List.setIfInBounds_toArray, List.set_cons_zero, List.set_cons_succ])
      refine wpAnyH_ready (rs := [10]) (by kernel_rfl) (by simp) ?_
      refine AllReadyH.cons rfl (fun K hK => ?_) (AllReadyH.nil)
      refine rw_store_wp 29 rfl rfl (cs' := #[.slice A15 out.1.img.length c15, .slice A16 out.1.L.length c16]) rfl [_] HV21.out (by kernel_rfl) rfl (by show _ = _; simp [Value.oneCell']) ?_
      intro w22 hM hkp
      refine hK.out _ _ (Rws.first hM) (fun hHeld => ?_)
      (try simp only [Act.put, List.setIfInBounds_toArray, List.set_cons_zero, List.set_cons_succ])
      clear hK K
      have HV22 := Aside0.mk hM
      have HKV22 := Aside0.mk (show Kept wr w22 (fun k => k = b6) from ⟨Nat.le_trans HKV21.out.1 hkp.1, fun k hk hn => (hkp.2 k (Nat.lt_of_lt_of_le hk HKV21.out.1) hn).trans (HKV21.out.2 k hk hn)⟩)
      clear hM hkp
      refine take_dst (i := 11) (v := ?_) 7 rfl rfl (by kernel_rfl) (by kernel_rfl) (by kernel_rfl) (fun _ _ _ h => h) (Or.inl ⟨by rfl, ?_⟩) (by assumption) ?_
      rotate_left
      · intro w hSw
        obtain q1 := hSw
        go_simp
        try with_reducible rfl
      (try simp only [Act.put, List.setIfInBounds_toArray, List.set_cons_zero, List.set_cons_succ])
      refine take_dst (i := 12) (v := ?_) 8 rfl rfl (by kernel_rfl) (by kernel_rfl) (by kernel_rfl) (fun _ _ _ h => h) (Or.inl ⟨by rfl, ?_⟩) (by assumption) ?_
      rotate_left
      · intro w hSw
        obtain q1 := hSw
        go_simp
        try with_reducible rfl
      (try simp only [Act.put, List.setIfInBounds_toArray, List.set_cons_zero, List.set_cons_succ])
      refine wpAnyH_done (by kernel_rfl) ?_ _
      go_wp2_with fail
      refine bodyPost_ret (results_ctt rfl _ _ b6 29 #[.slice A15 out.1.img.length c15, .slice A16 out.1.L.length c16] (0, 0) _ rfl (HV22.out.mem (List.mem_cons_of_mem _ List.mem_cons_self)) Try.underlying29 rfl (by kernel_rfl)) rfl ?_
      rw [← HOUT.out]
      exact do_end HSr.out HYr.out HMr.out HKV22.out HEND.out HV22.out.below
end
end Go.Proofs.Ytfakdphkklclgaa.P

end

section
namespace Go.Proofs.Ytfakdphkklclgaa.P
open Go.RowKit Go.Proofs.YtfakdphkklclgaaW.PrintWords Go.Proofs.YtfakdphkklclgaaW.PrintLast Go.Proofs.YtfakdphkklclgaaW.PrintMore
attribute [local go_sem] max2_int min2_int max_two min_two max_three min_three max_four min_four
set_option linter.unusedVariables false
set_option linter.unusedSimpArgs false
section
open Go.ChangeMaps Go.MapKept
set_option linter.unusedVariables false
set_option maxHeartbeats 12800000 in
set_option maxRecDepth 100000 in
theorem do_drop {w0 w : World} {g : Nat} {F Z : Nat → Prop} {xv : Value} {s : Sto} (KF : Nat) (nm : ByteArray → Bool) (hK : StFacts KF nm) (hU : ∀ l : List Int, l.length ≤ 140737488351232 → provisoplain_Untouched.f KF (l ++ [165, 90, 195, 60]) l = some true) (hg : Good nm s) (x : ByteArray) (hx : x.size ≤ maxLen) (b : List Int) (Ad : Option Addr) (cd : Nat) (hlim : b.length ≤ 140737488351232) (hb : Kd.F (Kd.int .u8) w (fun k => k < w0.heap.size) Ad b.length b) (hcd : b.length ≤ cd) (hB : Below w0.heap.size w0 w) (h : SAt w0.heap.size F g s w) (hd : DAt Z xv s w) (hZ : ∀ k, Z k → ¬ F k) : Calls Try.prog 14 #[.pointer (some ⟨g, 0, none⟩), xv, .agg #[.int .i64 1, .string x, .slice Ad b.length cd]] w fun e w' => DoPost w0 F Z g w (dropS nm s x) e w' := by
  have HK := Aside0.mk hK
  have HU := Aside0.mk hU
  have HG := Aside0.mk hg
  have HX := Aside0.mk hx
  have HLIM := Aside0.mk hlim
  have HBF := Aside0.mk hb
  have HCD := Aside0.mk hcd
  have HS := Aside0.mk h
  have HD := Aside0.mk hd.bound
  have HZZ := Aside0.mk hZ
  have HN0 := Aside0.mk hB
  obtain ⟨A0, c0, B1, d1, rfl, _⟩ := hd
  clear hK hU hg hx hlim hb hcd hB h hZ
  go_enter Try.func14, Try.ntmps14
  go_wp2_with (first | ((with_reducible refine gate_dst (N := 4) rfl ?_); refine rw_box rfl 29 rfl (cs := #[.slice A0 s.img.length c0, .slice B1 s.L.length d1]) rfl (Rws.nil w) ?_; intro b4 w1 hX; have HM4 := Aside0.mk hX; clear hX) | ((with_reducible refine gate_dst (N := 5) rfl ?_); refine rw_box rfl 37 rfl (cs := #[.int .i64 1, .string x, .slice Ad b.length cd]) rfl HM4.out ?_; intro b5 w2 hX; have HM5 := Aside0.mk hX; clear hX) | ((with_reducible refine gate_dst (N := 6) rfl ?_); refine rw_allocS rfl 29 rfl (cs := #[.slice none 0 0, .slice none 0 0]) (by kernel_rfl) HM5.out ?_; intro b6 w3 hg6 hM hb6; have HM6 := Aside0.mk hM; have hc50 := blk_cell (hM.mem (List.mem_cons_of_mem _ List.mem_cons_self)) 0; have hc51 := blk_cell (hM.mem (List.mem_cons_of_mem _ List.mem_cons_self)) 1; have hc52 := blk_cell (hM.mem (List.mem_cons_of_mem _ List.mem_cons_self)) 2; clear hg6 hM hb6))
  have HL3 := Aside0.mk (show b4 < w3.heap.size ∧ b5 < w3.heap.size ∧ b6 < w3.heap.size ∧ w.heap.size ≤ w3.heap.size from ⟨blk_lt (HM6.out.mem (List.mem_cons_of_mem _ (List.mem_cons_of_mem _ List.mem_cons_self))), blk_lt (HM6.out.mem (List.mem_cons_of_mem _ List.mem_cons_self)), blk_lt (HM6.out.mem List.mem_cons_self), HM6.out.below.size⟩)
  have HGA := Aside0.mk True.intro
  have HLT := Aside0.mk HS.out.lt
  have HSG := Aside0.mk (HS.out.lt g HS.out.fs)
  refine (Drop_st KF nm HK.out HG.out x HX.out (HS.out.step HM6.out.below)).mono ?_
  rintro e w5 ⟨v, S1, S2, rfl, q1, q2, q3, q4, q5, q6, q7⟩
  have HW5 := Aside0.mk (And.intro q1 (And.intro q2 q3))
  have HWR := Aside0.mk q4
  have HS5 := Aside0.mk q5
  have HK5 := Aside0.mk (show Kept w w5 F from ⟨Nat.le_trans HM6.out.below.size q6.1, fun k hk hn => (q6.2 k (Nat.lt_of_lt_of_le hk HM6.out.below.size) hn).trans (HM6.out.below.block k hk)⟩)
  have hbn : Below w0.heap.size w0 w5 := q7 _ w0 (Nat.le_refl _) (HN0.out.trans (HM6.out.below.mono HN0.out.size))
  have hnF : ∀ k, w.heap.size ≤ k → ¬ F k := fun k hk q => by have := (HLT.out k q).2; omega
  have HM8 := Aside0.mk (HM6.out.rebase q6 (fun p hp => hnF _ (HM6.out.lies p hp).2) HN0.out.size hbn)
  have HD8 := Aside0.mk (HD.out.kept HK5.out (fun k q => HZZ.out k q.1))
  clear q1 q2 q3 q4 q5 q6 q7 hbn hnF hc50 hc51 hc52
  have hc51 := blk_cell (HM8.out.mem (List.mem_cons_of_mem _ List.mem_cons_self)) 1
  have hc52 := blk_cell (HM8.out.mem (List.mem_cons_of_mem _ List.mem_cons_self)) 2
  go_wp2_with (first | ((with_reducible refine gate_dst (N := 86) rfl ?_); refine rw_load rfl 29 rfl rfl HM8.out (List.mem_cons_of_mem _ (List.mem_cons_of_mem _ List.mem_cons_self)) _ Try.underlying29 rfl (by kernel_rfl) ?_))
  refine (Drop_d KF nm HK.out HG.out HD8.out x).mono ?_
  rintro e w6 ⟨y, m, rfl, hy, hm, hb⟩
  obtain ⟨out, hout⟩ : ∃ out, out = dropS nm s x := ⟨_, rfl⟩
  have hwr := drop_wr nm s x HG.out.img
  rw [← hout] at hy hm HS5 HWR hwr ⊢
  have HY := Aside0.mk hy
  have HWM := Aside0.mk hm
  have HWW := Aside0.mk hwr
  have HB6 := Aside0.mk hb
  obtain ⟨A15, c15, A16, c16, e15, _⟩ := hy
  subst e15
  have HM9 := Aside0.mk (HM8.out.step hb)
  have HOUT := Aside0.mk hout
  clear hm hb hwr hc51 hc52 hout
  go_wp2_with (first | ((with_reducible refine gate_dst (N := 19) rfl ?_); refine rw_allocS rfl 29 rfl (cs := #[.slice none 0 0, .slice none 0 0]) (by kernel_rfl) HM9.out ?_; intro b13 w7 hg6 hM hb6; have HM10 := Aside0.mk hM; have HB7 := Aside0.mk hb6; have HE13 := Aside0.mk hg6; clear hg6 hM hb6) | (refine rw_storeS rfl 29 rfl rfl (cs' := #[.slice A15 out.1.img.length c15, .slice A16 out.1.L.length c16]) rfl [] HM10.out (by kernel_rfl) rfl (by show _ = _; simp [Value.oneCell']) ?_; intro wr hM hk3; have HM13 := Aside0.mk hM; have HK8 := Aside0.mk hk3; clear hM hk3))
  have HK5r := Aside0.mk (show Kept w5 wr (fun _ => False) from ⟨Nat.le_trans HB6.out.size (Nat.le_trans HB7.out.size HK8.out.1), fun k hk _ => by
    have h6 := HB6.out.size
    exact (HK8.out.2 k (by have := HB7.out.size; omega) (by have := HE13.out; omega)).trans ((HB7.out.block k (by omega)).trans (HB6.out.block k hk))⟩)
  have HK6r := Aside0.mk (show Kept w6 wr (fun _ => False) from ⟨Nat.le_trans HB7.out.size HK8.out.1, fun k hk _ => (HK8.out.2 k (by have := HB7.out.size; omega) (by have := HE13.out; omega)).trans (HB7.out.block k hk)⟩)
  have hl3 := HL3.out
  have hw5 := HW5.out
  have HSr := Aside0.mk (HS5.out.kept HK5r.out (fun k q e => e))
  have HWr := Aside0.mk (HWR.out.kept HK5r.out (fun k q1 q2 e => e))
  have HYr := Aside0.mk (HY.out.kept HK6r.out (fun k q e => e))
  have HMr := Aside0.mk (HWM.out.kept HK6r.out (fun k q e => e))
  obtain ⟨Aw, cw, ew, hw1, hw2⟩ := HWr.out.reads
  subst ew
  obtain ⟨Am, cm, em, hm1, hm2⟩ := HMr.out
  subst em
  have HWC := Aside0.mk (And.intro hw1 hm1)
  have hF1 : ∀ k, (F k ∨ (S2 ≤ k ∧ k < w5.heap.size)) → F k ∨ w.heap.size ≤ k := fun k q => q.elim .inl (fun q => .inr (by omega))
  have HEND := Aside0.mk (show EndOK w wr F Z (fun k => F k ∨ (S2 ≤ k ∧ k < w5.heap.size)) (fun k => (Z k ∧ k < w.heap.size) ∨ (w5.heap.size ≤ k ∧ k < w6.heap.size)) (fun k => w5.heap.size ≤ k ∧ k < w6.heap.size) b6 from by
    have hk1 := HK5.out.1
    refine ⟨⟨fun q => ?_, fun q => ?_, fun q => by omega⟩, ?_, by have := (HM6.out.lies _ List.mem_cons_self).2; exact this, hF1, fun k q => q.elim (fun q => .inl q.1) (fun q => .inr (by omega)), fun k q => by omega, fun k q1 q2 => ?_⟩
    · rcases q with q | q
      · have := (HLT.out b6 q).2; have := (HM6.out.lies _ List.mem_cons_self).2; simp only at this; omega
      · omega
    · rcases q with q | q
      · have := q.2; have := (HM6.out.lies _ List.mem_cons_self).2; simp only at this; omega
      · omega
    · exact ⟨Nat.le_trans HK5.out.1 HK5r.out.1, fun k hk hn => (HK5r.out.2 k (Nat.lt_of_lt_of_le hk HK5.out.1) (fun e => e)).trans (HK5.out.2 k hk hn)⟩
    · rcases q1 with q1 | q1
      · rcases q2 with q2 | q2
        · exact HZZ.out k q1.1 q2
        · omega
      · rcases q2 with q2 | q2
        · have := (HLT.out k q2).2; omega
        · omega)
  clear hl3 hw5 hw1 hw2 hm1 hm2 hF1
  have herr : (out.2.2 == out.2.2) = true := by simp
  have HMD := Aside0.mk (HM13.out.drewN 1)
  (try simp only [Act.put, List.setIfInBounds_toArray, List.set_cons_zero, List.set_cons_succ])
  refine wp_region_held_drew (S := fun w' => Rws w0 [(b13, 29, #[.slice A15 out.1.img.length c15, .slice A16 out.1.L.length c16])] w') (by kernel_rfl) ?_ (fun hHeld => ?_)
  · exact Rws.first HMD.out
  have HV20 := Aside0.mk (show Rws w0 _ (World.drew _) from HMD.out)
  have HKV20 := Aside0.mk (show Kept wr (World.drew _) (fun k => k = b6) from (Kept.refl wr (fun k => k = b6)).drewN 1)
  clear HMD
  generalize World.drew _ = w20 at HV20 HKV20 hHeld ⊢
  refine take_dst (i := 0) (v := .agg #[.slice A15 out.1.img.length c15, .slice A16 out.1.L.length c16]) 93 rfl rfl (by kernel_rfl) (by kernel_rfl) (by kernel_rfl) (fun _ _ _ h => h) (rw_yields (by rfl) 29 rfl rfl (fun _ h => h) List.mem_cons_self _ Try.underlying29 rfl (by kernel_rfl)) (by assumption) ?_
  (try simp only [Act.put, List.setIfInBounds_toArray, List.set_cons_zero, List.set_cons_succ])
  refine take_dst (i := 1) (v := ?_) 94 rfl rfl (by kernel_rfl) (by kernel_rfl) (by kernel_rfl) (fun _ _ _ h => h) (Or.inl ⟨by rfl, ?_⟩) (by assumption) ?_
  rotate_left
  · intro w hSw
    obtain q1 := hSw
    go_simp
    try with_reducible rfl
  (try simp only [Act.put, List.setIfInBounds_toArray, List.set_cons_zero, List.set_cons_succ])
  refine take_dst (i := 2) (v := ?_) 95 rfl rfl (by kernel_rfl) (by kernel_rfl) (by kernel_rfl) (fun _ _ _ h => h) (Or.inl ⟨by rfl, ?_⟩) (by assumption) ?_
  rotate_left
  · intro w hSw
    obtain q1 := hSw
    go_simp
    try with_reducible rfl
  (try simp only [Act.put, List.setIfInBounds_toArray, List.set_cons_zero, List.set_cons_succ])
  refine take_dst (i := 3) (v := ?_) 96 rfl rfl (by kernel_rfl) (by kernel_rfl) (by kernel_rfl) (fun _ _ _ h => h) (Or.inl ⟨by rfl, ?_⟩) (by assumption) ?_
  rotate_left
  · intro w hSw
    obtain q1 := hSw
    go_simp
    try with_reducible rfl
  (try simp only [Act.put, List.setIfInBounds_toArray, List.set_cons_zero, List.set_cons_succ])
  refine take_dst (i := 4) (v := ?_) 97 rfl rfl (by kernel_rfl) (by kernel_rfl) (by kernel_rfl) (fun _ _ _ h => h) (Or.inl ⟨by rfl, ?_⟩) (by assumption) ?_
  rotate_left
  · intro w hSw
    obtain q1 := hSw
    go_simp
    try with_reducible rfl
  (try simp only [Act.put, List.setIfInBounds_toArray, List.set_cons_zero, List.set_cons_succ])
  refine take_dst (i := 5) (v := ?_) 98 rfl rfl (by kernel_rfl) (by kernel_rfl) (by kernel_rfl) (fun _ _ _ h => h) (Or.inl ⟨by rfl, ?_⟩) (by assumption) ?_
  rotate_left
  · intro w hSw
    obtain q1 := hSw
    go_simp
    try with_reducible rfl
  (try simp only [Act.put, List.setIfInBounds_toArray, List.set_cons_zero, List.set_cons_succ])
  refine take_dst (i := 6) (v := ?_) 99 rfl rfl (by kernel_rfl) (by kernel_rfl) (by kernel_rfl) (fun _ _ _ h => h) (Or.inl ⟨by rfl, ?_⟩) (by assumption) ?_
  rotate_left
  · intro w hSw
    obtain q1 := hSw
    go_simp
    try with_reducible rfl
  (try simp only [Act.put, List.setIfInBounds_toArray, List.set_cons_zero, List.set_cons_succ])
  refine take_dst (i := 7) (v := ?_) 100 rfl rfl (by kernel_rfl) (by kernel_rfl) (by kernel_rfl) (fun _ _ _ h => h) (Or.inl ⟨by rfl, ?_⟩) (by assumption) ?_
  rotate_left
  · intro w hSw
    obtain q1 := hSw
    go_simp
    try with_reducible rfl
  (try simp only [Act.put, List.setIfInBounds_toArray, List.set_cons_zero, List.set_cons_succ])
  refine wpAnyH_ready (rs := [8]) (by kernel_rfl) (by simp) ?_
  refine AllReadyH.cons rfl (fun K hK => ?_) (AllReadyH.nil)
  go_simp
  refine (provisoplain_SameWrites.calls KF Aw cw out.2.1 Am cm out.2.1 true w20 (HWr.out.kept HKV20.out (fun k q1 q2 e => by have h3 := HL3.out; have h5 := HW5.out; have h6 := HGA.out; omega)).now HWC.out.1 (HMr.out.kept HKV20.out (fun k q e => by have h3 := HL3.out; have h5 := HW5.out; have h6 := HGA.out; have := q.1; omega)).now HWC.out.2 (HK.out.wr _ HWW.out.1 HWW.out.2)).mono ?_
  rintro e w21 ⟨rfl, k21, rfl⟩
  have HV21 := Aside0.mk (HV20.out.drewN k21)
  have HKV21 := Aside0.mk (HKV20.out.drewN k21)
  generalize w20.drewN k21 = w21 at HV21 HKV21 ⊢
  go_simp
  refine hK.out _ _ (Rws.first HV21.out) (fun hHeld => ?_)
  (try simp only [Act.put, List.setIfInBounds_toArray, List.set_cons_zero, List.set_cons_succ])
  clear hK K
  refine take_dst (i := 9) (v := ?_) 102 rfl rfl (by kernel_rfl) (by kernel_rfl) (by kernel_rfl) (fun _ _ _ h => h) (Or.inl ⟨by rfl, ?_⟩) (by assumption) ?_
  rotate_left
  · intro w hSw
    obtain q1 := hSw
    go_simp
    try with_reducible rfl
  (try simp only [Act.put, List.setIfInBounds_toArray, List.set_cons_zero, List.set_cons_succ])
  refine wpAnyH_ready (rs := [10]) (by kernel_rfl) (by simp) ?_
  refine AllReadyH.cons rfl (fun K hK => ?_) (AllReadyH.nil)
  refine rw_store_wp 29 rfl rfl (cs' := #[.slice A15 out.1.img.length c15, .slice A16 out.1.L.length c16]) rfl [_] HV21.out (by kernel_rfl) rfl (by show _ = _; simp [Value.oneCell']) ?_
  intro w22 hM hkp
  refine hK.out _ _ (Rws.first hM) (fun hHeld => ?_)
  (try simp only [Act.put, List.setIfInBounds_toArray, List.set_cons_zero, List.set_cons_succ])
  clear hK K
  have HV22 := Aside0.mk hM
  have HKV22 := Aside0.mk (show Kept wr w22 (fun k => k = b6) from ⟨Nat.le_trans HKV21.out.1 hkp.1, fun k hk hn => (hkp.2 k (Nat.lt_of_lt_of_le hk HKV21.out.1) hn).trans (HKV21.out.2 k hk hn)⟩)
  clear hM hkp
  refine take_dst (i := 11) (v := ?_) 7 rfl rfl (by kernel_rfl) (by kernel_rfl) (by kernel_rfl) (fun _ _ _ h => h) (Or.inl ⟨by rfl, ?_⟩) (by assumption) ?_
  rotate_left
  · intro w hSw
    obtain q1 := hSw
    go_simp
    try with_reducible rfl
  (try simp only [Act.put, List.setIfInBounds_toArray, List.set_cons_zero, List.set_cons_succ])
  refine take_dst (i := 12) (v := ?_) 8 rfl rfl (by kernel_rfl) (by kernel_rfl) (by kernel_rfl) (fun _ _ _ h => h) (Or.inl ⟨by rfl, ?_⟩) (by assumption) ?_
  rotate_left
  · intro w hSw
    obtain q1 := hSw
    go_simp
    try with_reducible rfl
  (try simp only [Act.put, List.setIfInBounds_toArray, List.set_cons_zero, List.set_cons_succ])
  refine wpAnyH_done (by kernel_rfl) ?_ _
  go_wp2_with fail
  refine bodyPost_ret (results_ctt rfl _ _ b6 29 #[.slice A15 out.1.img.length c15, .slice A16 out.1.L.length c16] (0, 0) _ rfl (HV22.out.mem (List.mem_cons_of_mem _ List.mem_cons_self)) Try.underlying29 rfl (by kernel_rfl)) rfl ?_
  rw [← HOUT.out]
  exact do_end HSr.out HYr.out HMr.out HKV22.out HEND.out HV22.out.below
end
end Go.Proofs.Ytfakdphkklclgaa.P

end

section
namespace Go.Proofs.Ytfakdphkklclgaa.P
open Go.RowKit Go.Proofs.YtfakdphkklclgaaW.PrintWords Go.Proofs.YtfakdphkklclgaaW.PrintLast Go.Proofs.YtfakdphkklclgaaW.PrintMore
attribute [local go_sem] max2_int min2_int max_two min_two max_three min_three max_four min_four
set_option linter.unusedVariables false
set_option linter.unusedSimpArgs false
section
theorem rd_app {bs t : List Int} {i : Nat} (h : i < bs.length) : rd (bs ++ t) (i : Int) = rd bs (i : Int) := by
  unfold rd
  rw [Int.toNat_natCast, List.getD_eq_getElem?_getD, List.getD_eq_getElem?_getD, List.getElem?_append_left h]
theorem seg_app {bs t : List Int} {a n : Nat} (h : a + n ≤ bs.length) : seg (bs ++ t) a n = seg bs a n := by
  unfold seg
  rw [List.take_append_of_le_length h]
theorem nameR_app {nm : ByteArray → Bool} {bs : List Int} {a : Nat} (t : List Int) (h : (nameR nm bs a).2.2 = 0) : nameR nm (bs ++ t) a = nameR nm bs a := by
  unfold nameR at h ⊢
  by_cases c1 : bs.length < a + 1
  · rw [if_pos c1] at h; cases h
  rw [if_neg c1] at h ⊢
  have hr := rd_app (t := t) (show a < bs.length by omega)
  rw [if_neg (by rw [List.length_append]; omega), hr]
  by_cases c2 : rd bs (a : Int) = 0 ∨ 24 < rd bs (a : Int)
  · rw [if_pos c2] at h; cases h
  rw [if_neg c2] at h
  rw [if_neg c2, if_neg c2]
  by_cases c3 : bs.length < a + 1 + (rd bs (a : Int)).toNat
  · rw [if_pos c3] at h; cases h
  rw [if_neg (by rw [List.length_append]; omega), if_neg c3, seg_app (by omega)]
theorem numR_app {k : Nat} {bs : List Int} {a : Nat} (t : List Int) (h : (numR k bs a).2.2 = 0) : numR k (bs ++ t) a = numR k bs a := by
  unfold numR at h ⊢
  by_cases c1 : bs.length < a + k
  · rw [if_pos c1] at h; cases h
  rw [if_neg c1, if_neg (by rw [List.length_append]; omega), seg_app (by omega)]
theorem takeR_app {bs : List Int} {a : Nat} {n : Int} (t : List Int) (ha : a ≤ bs.length) (h : (takeR bs a n).2.2 = 0) : takeR (bs ++ t) a n = takeR bs a n := by
  unfold takeR at h ⊢
  by_cases c1 : n < 0
  · rw [if_pos c1] at h; cases h
  rw [if_neg c1] at h ⊢
  by_cases c2 : n > (bs.length : Int) - (a : Int)
  · rw [if_pos c2] at h; cases h
  rw [if_neg c1, if_neg c2, if_neg (by rw [List.length_append]; omega), seg_app (by omega)]
theorem recS_app {nm : ByteArray → Bool} {bs : List Int} {L : List S101} {a : Nat} {q : List S101 × Nat} (t : List Int) (ha : a < bs.length) (h : recS nm bs L a = some q) : recS nm (bs ++ t) L a = some q := by
  unfold recS at h ⊢
  have h1 := nameR_app (nm := nm) (bs := bs) (a := a + 1) t
  have g1 := nameR_go nm bs (a + 1)
  rw [rd_app ha]
  obtain ⟨⟨x, p, er⟩, hnr⟩ : ∃ q, q = nameR nm bs (a + 1) := ⟨_, rfl⟩
  rw [← hnr] at h h1 g1
  simp only at h h1 g1
  by_cases c1 : er ≠ 0
  · rw [if_pos c1] at h; cases h
  rw [if_neg c1] at h
  have h1 := h1 (by simpa using c1)
  have g1 := g1 (by simpa using c1)
  rw [h1]
  simp only
  rw [if_neg c1]
  by_cases c2 : rd bs (a : Int) = 2 ∧ (lkL L x).isSome = true
  · rw [if_pos c2] at h ⊢; exact h
  rw [if_neg c2] at h ⊢
  by_cases c3 : rd bs (a : Int) ≠ 1
  · rw [if_pos c3] at h; cases h
  rw [if_neg c3] at h ⊢
  have h2 := numR_app (k := 2) (bs := bs) (a := p) t
  have g2 := numR_go 2 bs p
  obtain ⟨⟨n, p2, e2⟩, hn⟩ : ∃ q, q = numR 2 bs p := ⟨_, rfl⟩
  rw [← hn] at h h2 g2
  simp only at h h2 g2
  by_cases c4 : e2 ≠ 0 ∨ 4096 < n
  · rw [if_pos c4] at h; cases h
  rw [if_neg c4] at h
  have e20 : e2 = 0 := by simpa using fun q => c4 (.inl q)
  rw [h2 e20]
  simp only
  rw [if_neg c4]
  have g2 := g2 e20
  have h3 := takeR_app (bs := bs) (a := p2) (n := n) t (by omega)
  obtain ⟨⟨b, p3, e3⟩, ht⟩ : ∃ q, q = takeR bs p2 n := ⟨_, rfl⟩
  rw [← ht] at h h3
  simp only at h h3
  by_cases c5 : e3 ≠ 0
  · rw [if_pos c5] at h; cases h
  rw [if_neg c5] at h
  rw [h3 (by simpa using c5)]
  simp only
  rw [if_neg c5]
  exact h
inductive Par (nm : ByteArray → Bool) (bs : List Int) : List S101 → Nat → List S101 → Nat → Prop
  | refl (L : List S101) (a : Nat) : Par nm bs L a L a
  | step {L : List S101} {a : Nat} {q : List S101 × Nat} {L' : List S101} {a' : Nat} (ha : a < bs.length) (hz : rd bs (a : Int) ≠ 0) (hq : recS nm bs L a = some q) (h : Par nm bs q.1 q.2 L' a') : Par nm bs L a L' a'
theorem Par.app {nm : ByteArray → Bool} {bs : List Int} {L L' : List S101} {a a' : Nat} (h : Par nm bs L a L' a') (t : List Int) : Par nm (bs ++ t) L a L' a' := by
  induction h with
  | refl L a => exact .refl L a
  | step ha hz hq _ ih => exact .step (by rw [List.length_append]; omega) (by rw [rd_app ha]; exact hz) (recS_app t ha hq) ih
theorem Par.trans {nm : ByteArray → Bool} {bs : List Int} {L L' L2 : List S101} {a a' a2 : Nat} (h : Par nm bs L a L' a') (h2 : Par nm bs L' a' L2 a2) : Par nm bs L a L2 a2 := by
  induction h with
  | refl L a => exact h2
  | step ha hz hq _ ih => exact .step ha hz hq (ih h2)
theorem Par.open {nm : ByteArray → Bool} {bs : List Int} {L L' : List S101} {a a' : Nat} (h : Par nm bs L a L' a') (hs : ¬ (a' < bs.length ∧ rd bs (a' : Int) ≠ 0)) : ∀ k, bs.length - a < k → Srt L → L.length ≤ 16 → openG nm bs k L a = some (L', a') := by
  induction h with
  | refl L a =>
    intro k hk _ _
    obtain ⟨k, rfl⟩ : ∃ j, k = j + 1 := ⟨k - 1, by omega⟩
    unfold openG
    rw [if_neg hs]
  | step ha hz hq _ ih =>
    intro k hk h1 h2
    obtain ⟨k, rfl⟩ : ∃ j, k = j + 1 := ⟨k - 1, by omega⟩
    obtain ⟨g1, g2, g3, g4⟩ := recS_go hq h1 h2
    unfold openG
    rw [if_pos ⟨ha, hz⟩, hq]
    exact ih hs k (by omega) g3 g4
def sumL : List S101 → Nat
  | [] => 0
  | k :: l => k.f0.size + 4 + k.f1.length + sumL l
theorem sum_put (x : ByteArray) (b : List Int) (L : List S101) : sumL (putL x b L) ≤ sumL L + (x.size + 4 + b.length) := by
  induction L with
  | nil => simp [putL, sumL]
  | cons k l ih =>
    unfold putL
    split
    · simp only [sumL]; omega
    · split
      · rename_i h2; simp only [sumL]; omega
      · simp only [sumL]; omega
theorem sum_cut (x : ByteArray) (L : List S101) : sumL (cutL x L) ≤ sumL L := by
  induction L with
  | nil => simp [cutL, sumL]
  | cons k l ih =>
    unfold cutL
    split
    · simp only [sumL]; omega
    · split <;> simp only [sumL] <;> omega
theorem rec1_len' (x : ByteArray) (b : List Int) : (recB 1 x b).length = x.size + 4 + b.length := by unfold recB; simp [bytes_len]; omega
structure Inv (nm : ByteArray → Bool) (s : Sto) : Prop where
  good : Good nm s
  par : Par nm s.img [] 0 s.L s.img.length
  sum : sumL s.L ≤ s.img.length
theorem inv_new (nm : ByteArray → Bool) : Inv nm ⟨[], []⟩ := ⟨good_new nm, .refl _ _, Nat.le_refl _⟩
theorem Inv.opens {nm : ByteArray → Bool} {s : Sto} (h : Inv nm s) (J : List Int) (hJ : J = [] ∨ rd J 0 = 0) (hl : (s.img ++ J).length ≤ 1048576) : openS nm (s.img ++ J) = some s := by
  unfold openS
  rw [if_neg (by omega), (h.par.app J).open ?_ _ (by omega) List.Pairwise.nil (by decide)]
  · show some (Sto.mk ((s.img ++ J).take s.img.length) s.L) = some s
    rw [List.take_left]
  · rintro ⟨h1, h2⟩
    rcases hJ with rfl | hJ
    · rw [List.append_nil] at h1; omega
    · apply h2
      unfold rd at hJ ⊢
      rw [Int.toNat_natCast, List.getD_eq_getElem?_getD, List.getElem?_append_right (Nat.le_refl _), Nat.sub_self]
      rw [List.getD_eq_getElem?_getD] at hJ
      exact hJ
theorem rd_right (bs t : List Int) (i : Nat) : rd (bs ++ t) ((bs.length + i : Nat) : Int) = rd t (i : Int) := by
  unfold rd
  rw [Int.toNat_natCast, Int.toNat_natCast, List.getD_eq_getElem?_getD, List.getD_eq_getElem?_getD, List.getElem?_append_right (by omega)]
  congr 2
  omega
theorem seg_right (bs t : List Int) (i n : Nat) : seg (bs ++ t) (bs.length + i) n = seg t i n := by
  unfold seg
  rw [List.take_append, List.drop_append, List.drop_eq_nil_of_le (by rw [List.length_take]; omega), List.nil_append, List.length_take, Nat.min_eq_right (by omega)]
  congr 2 <;> omega
theorem nameR_rec {nm : ByteArray → Bool} (img : List Int) (k : Int) (x : ByteArray) (post : List Int) (hx : nm x = true) (hs : 1 ≤ x.size ∧ x.size ≤ 24) :
    nameR nm (img ++ ([k, (x.size : Int) % 256] ++ bytesOf x ++ post)) (img.length + 1) = (x, img.length + 2 + x.size, 0) := by
  have hb := bytes_len x
  have hr : rd (img ++ ([k, (x.size : Int) % 256] ++ bytesOf x ++ post)) ((img.length + 1 : Nat) : Int) = (x.size : Int) := by
    rw [rd_right]
    show (x.size : Int) % 256 = _
    omega
  have hseg : seg (img ++ ([k, (x.size : Int) % 256] ++ bytesOf x ++ post)) (img.length + 1 + 1) x.size = bytesOf x := by
    rw [show img.length + 1 + 1 = img.length + 2 from rfl, seg_right]
    unfold seg
    rw [List.append_assoc, show 2 + x.size = ([k, (x.size : Int) % 256] : List Int).length + x.size from rfl, List.take_length_add_append]
    rw [show ([k, (x.size : Int) % 256] ++ List.take x.size (bytesOf x ++ post)).drop 2 = List.take x.size (bytesOf x ++ post) from rfl]
    rw [← hb, List.take_left]
  unfold nameR
  rw [hr, if_neg (by simp; omega), if_neg (by omega), Int.toNat_natCast, if_neg (by simp [hb]; omega), hseg, str_of_bytes, if_pos hx]
theorem rec_step {nm : ByteArray → Bool} {s : Sto} (h : Inv nm s) (hz : ∀ x, nm x = true → 1 ≤ x.size ∧ x.size ≤ 24) (x : ByteArray) (hx : nm x = true) (b : List Int) (hb : b.length ≤ 4096) (hl : (putL x b s.L).length ≤ 16) : recS nm (s.img ++ recB 1 x b) s.L s.img.length = some (putL x b s.L, (s.img ++ recB 1 x b).length) := by
  have hs := hz x hx
  have hn := nameR_rec (nm := nm) s.img 1 x ([(b.length : Int) / 256 % 256, (b.length : Int) % 256] ++ b) hx hs
  have he : recB 1 x b = [1, (x.size : Int) % 256] ++ bytesOf x ++ ([(b.length : Int) / 256 % 256, (b.length : Int) % 256] ++ b) := by unfold recB; rw [if_pos rfl]
  have hbl := bytes_len x
  have hr := rec1_len' x b
  have hk : rd (s.img ++ recB 1 x b) ((s.img.length : Nat) : Int) = 1 := by
    have := rd_right s.img (recB 1 x b) 0
    rw [Nat.add_zero] at this
    rw [this, he]; rfl
  have hseg2 : seg (s.img ++ recB 1 x b) (s.img.length + 2 + x.size) 2 = [(b.length : Int) / 256 % 256, (b.length : Int) % 256] := by
    rw [Nat.add_assoc, seg_right, he]
    unfold seg
    rw [show 2 + x.size + 2 = ([1, (x.size : Int) % 256] ++ bytesOf x : List Int).length + 2 by simp [hbl] <;> omega, List.take_length_add_append, List.drop_append_of_le_length (by simp [hbl] <;> omega), List.drop_eq_nil_of_le (by simp [hbl] <;> omega)]
    rfl
  have hseg3 : seg (s.img ++ recB 1 x b) (s.img.length + 2 + x.size + 2) b.length = b := by
    rw [show s.img.length + 2 + x.size + 2 = s.img.length + (x.size + 4) by omega, seg_right, he]
    unfold seg
    rw [← List.append_assoc, show x.size + 4 + b.length = ([1, (x.size : Int) % 256] ++ bytesOf x ++ [(b.length : Int) / 256 % 256, (b.length : Int) % 256] : List Int).length + b.length by simp [hbl] <;> omega, List.take_length_add_append, List.take_of_length_le (Nat.le_refl _), List.drop_append_of_le_length (by simp [hbl] <;> omega), List.drop_eq_nil_of_le (by simp [hbl] <;> omega)]
    rfl
  rw [← he] at hn
  unfold recS
  rw [hn, hk]
  simp only
  rw [if_neg (by decide), if_neg (by rintro ⟨q, _⟩; cases q), if_neg (by decide)]
  have h2 : numR 2 (s.img ++ recB 1 x b) (s.img.length + 2 + x.size) = ((b.length : Int), s.img.length + 2 + x.size + 2, 0) := by
    unfold numR
    rw [if_neg (by simp [hr]; omega), hseg2]
    simp [valR, numOf]
    omega
  rw [h2]
  simp only
  rw [if_neg (by omega)]
  have h3 : takeR (s.img ++ recB 1 x b) (s.img.length + 2 + x.size + 2) (b.length : Int) = (b, s.img.length + 2 + x.size + 2 + b.length, 0) := by
    unfold takeR
    rw [if_neg (by omega), if_neg (by simp [hr]; omega), Int.toNat_natCast, hseg3]
  rw [h3]
  simp only
  rw [if_neg (by decide), if_neg (by omega), List.length_append, hr]
  congr 2
  omega
theorem cut_step {nm : ByteArray → Bool} {s : Sto} (hz : ∀ x, nm x = true → 1 ≤ x.size ∧ x.size ≤ 24) (x : ByteArray) (hx : nm x = true) (hl : (lkL s.L x).isSome = true) : recS nm (s.img ++ recB 2 x []) s.L s.img.length = some (cutL x s.L, (s.img ++ recB 2 x []).length) := by
  have hs := hz x hx
  have hn := nameR_rec (nm := nm) s.img 2 x [] hx hs
  have he : recB 2 x [] = [2, (x.size : Int) % 256] ++ bytesOf x ++ [] := by unfold recB; rw [if_neg (by decide)]
  have hbl := bytes_len x
  have hk : rd (s.img ++ recB 2 x []) ((s.img.length : Nat) : Int) = 2 := by
    have := rd_right s.img (recB 2 x []) 0
    rw [Nat.add_zero] at this
    rw [this, he]; rfl
  rw [← he] at hn
  unfold recS
  rw [hn, hk]
  simp only
  rw [if_neg (by decide), if_pos ⟨trivial, hl⟩, List.length_append, he]
  simp [hbl]
  omega
theorem inv_put {nm : ByteArray → Bool} (hz : ∀ x, nm x = true → 1 ≤ x.size ∧ x.size ≤ 24) {s : Sto} (h : Inv nm s) (x : ByteArray) (b : List Int) (hb : ∀ z ∈ b, 0 ≤ z ∧ z ≤ 255) : Inv nm (putS nm s x b).1 := by
  have hg := good_put h.good x b hb
  unfold putS at hg ⊢
  by_cases c1 : nm x = false
  · rw [if_pos c1]; exact h
  rw [if_neg c1] at hg ⊢
  by_cases c2 : 4096 < b.length
  · rw [if_pos c2]; exact h
  rw [if_neg c2] at hg ⊢
  by_cases c3 : lkL s.L x = none ∧ 16 ≤ s.L.length
  · rw [if_pos c3]; exact h
  rw [if_neg c3] at hg ⊢
  rcases laid_cases s (putL x b s.L) (recB 1 x b) with e | ⟨hl, e⟩
  · rw [e]; exact h
  rw [e] at hg ⊢
  have hr := rec1_len' x b
  refine ⟨hg, (h.par.app _).trans (.step (by rw [List.length_append]; omega) ?_ (rec_step h hz x (by simpa using c1) b (by omega) hg.len) (.refl _ _)), ?_⟩
  · have := rd_right s.img (recB 1 x b) 0
    rw [Nat.add_zero] at this
    rw [this]; exact (by decide : (1 : Int) ≠ 0)
  · show sumL (putL x b s.L) ≤ (s.img ++ recB 1 x b).length
    have := sum_put x b s.L
    have := h.sum
    rw [List.length_append, hr]
    omega
theorem inv_drop {nm : ByteArray → Bool} (hz : ∀ x, nm x = true → 1 ≤ x.size ∧ x.size ≤ 24) {s : Sto} (h : Inv nm s) (x : ByteArray) : Inv nm (dropS nm s x).1 := by
  have hg := good_drop h.good x
  unfold dropS at hg ⊢
  by_cases c1 : nm x = false
  · rw [if_pos c1]; exact h
  rw [if_neg c1] at hg ⊢
  by_cases c3 : lkL s.L x = none
  · rw [if_pos c3]; exact h
  rw [if_neg c3] at hg ⊢
  rcases laid_cases s (cutL x s.L) (recB 2 x []) with e | ⟨hl, e⟩
  · rw [e]; exact h
  rw [e] at hg ⊢
  refine ⟨hg, (h.par.app _).trans (.step ?_ ?_ (cut_step hz x (by simpa using c1) ?_) (.refl _ _)), ?_⟩
  · rw [List.length_append]; unfold recB; simp
  · have := rd_right s.img (recB 2 x []) 0
    rw [Nat.add_zero] at this
    rw [this]; exact (by decide : (2 : Int) ≠ 0)
  · cases hq : lkL s.L x with
    | none => exact absurd hq c3
    | some y => rfl
  · show sumL (cutL x s.L) ≤ (s.img ++ recB 2 x []).length
    have := sum_cut x s.L
    have := h.sum
    rw [List.length_append]
    omega
end
end Go.Proofs.Ytfakdphkklclgaa.P

end

section
namespace Go.Proofs.Ytfakdphkklclgaa.P
open Go.RowKit Go.Proofs.YtfakdphkklclgaaW.PrintWords Go.Proofs.YtfakdphkklclgaaW.PrintLast Go.Proofs.YtfakdphkklclgaaW.PrintMore
attribute [local go_sem] max2_int min2_int max_two min_two max_three min_three max_four min_four
set_option linter.unusedVariables false
set_option linter.unusedSimpArgs false
section
open Go.ChangeMaps Go.MapKept
set_option linter.unusedVariables false
structure LFacts (K : Nat) (nm : ByteArray → Bool) : Prop where
  st : StFacts K nm
  un : ∀ l : List Int, l.length ≤ 140737488351232 → provisoplain_Untouched.f K (l ++ [165, 90, 195, 60]) l = some true
theorem F_of_C {w : World} {A : Option Addr} {n : Nat} {xs : List Int} (h : Kd.C (Kd.int .u8) w A n xs) : Kd.F (Kd.int .u8) w (fun k => k < w.heap.size) A n xs := fun W' hW => by
  have hsz : w.heap.size ≤ W'.heap.size := by
    rcases Nat.eq_zero_or_pos w.heap.size with e | e
    · omega
    · have h1 := hW (w.heap.size - 1) (by omega) (by omega)
      rcases Nat.lt_or_ge (w.heap.size - 1) W'.heap.size with q | q
      · omega
      · rw [Array.getElem?_eq_none q, Array.getElem?_eq_getElem (by omega)] at h1
        cases h1
  have h2 := Kd.C_below h (w1 := { W' with os := w.os, tape := w.tape, output := w.output }) ⟨rfl, rfl, rfl, hsz, fun k hk => hW k hk hk⟩
  exact h2
end
end Go.Proofs.Ytfakdphkklclgaa.P

end

section
namespace Go.Proofs.Ytfakdphkklclgaa.P
open Go.RowKit Go.Proofs.YtfakdphkklclgaaW.PrintWords Go.Proofs.YtfakdphkklclgaaW.PrintLast Go.Proofs.YtfakdphkklclgaaW.PrintMore
attribute [local go_sem] max2_int min2_int max_two min_two max_three min_three max_four min_four
set_option linter.unusedVariables false
set_option linter.unusedSimpArgs false
section
open Go.ChangeMaps Go.MapKept
set_option linter.unusedVariables false
structure LSt (w0 : World) (bx g : Nat) (s : Sto) (cs : Array Value) (F Z : Nat → Prop) (W : World) : Prop where
  rows : Rws w0 [(bx, 29, cs)] W
  st : SAt w0.heap.size F g s W
  dt : DAt Z (.agg cs) s W
  dis : ∀ k, Z k → ¬ F k
  nF : ¬ F bx
  nZ : ¬ Z bx
section
variable {w0 W W1 : World} {bx g : Nat} {s : Sto} {cs : Array Value} {F Z S : Nat → Prop}
theorem LSt.kept (h : LSt w0 bx g s cs F Z W) (hk : Kept W W1 S) (hS : ∀ k, F k ∨ Z k ∨ k = bx → ¬ S k) (hb : Below w0.heap.size w0 W1) : LSt w0 bx g s cs F Z W1 :=
  ⟨h.rows.keptF hk (fun p hp => by rw [List.mem_singleton.1 hp]; exact hS _ (.inr (.inr rfl))) hb, h.st.kept hk (fun k q => hS k (.inl q)), h.dt.kept hk (fun k q => hS k (.inr (.inl q))), h.dis, h.nF, h.nZ⟩
theorem LSt.step (h : LSt w0 bx g s cs F Z W) (hb : Below W.heap.size W W1) : LSt w0 bx g s cs F Z W1 :=
  h.kept (S := fun _ => False) (Kept.of_below hb _) (fun _ _ q => q) (h.rows.step hb).below
theorem LSt.bx_lt (h : LSt w0 bx g s cs F Z W) : bx < W.heap.size := blk_lt (h.rows.mem List.mem_cons_self)
end
theorem new_LSt {w w1 w2 : World} {bx g : Nat} (hs : SAt w.heap.size (fun b => w.heap.size ≤ b ∧ b < w1.heap.size) g ⟨[], []⟩ w1) (hb : Below w1.heap.size w1 w2) (hm : Rws w [(bx, 29, #[.slice none 0 0, .slice none 0 0])] w2) (he : bx = w1.heap.size) : LSt w bx g ⟨[], []⟩ #[.slice none 0 0, .slice none 0 0] (fun b => w.heap.size ≤ b ∧ b < w1.heap.size) (fun _ => False) w2 :=
  ⟨hm, hs.step hb, DAt.zero _ _, fun _ q => q.elim, fun q => by omega, fun q => q⟩
theorem LSt.done {w0 w5 w9 W : World} {bx g : Nat} {s s' : Sto} {cs cs' : Array Value} {F Z F' Z' : Nat → Prop} (h : LSt w0 bx g s cs F Z W) (hF : ∀ k, F' k → F k ∨ W.heap.size ≤ k) (hZ : ∀ k, Z' k → Z k ∨ W.heap.size ≤ k) (hd : ∀ k, Z' k → ¬ F' k) (hS : SAt w0.heap.size F' g s' w5) (hD : DAt Z' (.agg cs') s' w5) (hk : Kept w5 w9 (fun k => k = bx)) (hm : Rws w0 [(bx, 29, cs')] w9) : LSt w0 bx g s' cs' F' Z' w9 := by
  have hl := h.bx_lt
  have n1 : ¬ F' bx := fun q => (hF bx q).elim h.nF (fun q => by omega)
  have n2 : ¬ Z' bx := fun q => (hZ bx q).elim h.nZ (fun q => by omega)
  exact ⟨hm, hS.kept hk (fun k q e => n1 (e ▸ q)), hD.kept hk (fun k q e => n2 (e ▸ q)), hd, n1, n2⟩
theorem Rws.single {w0 W : World} {p : Nat × TypeId × Array Value} {l : List (Nat × TypeId × Array Value)} (h : Rws w0 l W) (hp : p ∈ l) : Rws w0 [p] W := ⟨fun q hq => by rw [List.mem_singleton.1 hq]; exact h.lies p hp, by simp, h.below⟩
theorem umod (z : Int) (k : Int) (hk : 0 < k) (hk2 : k ≤ 1000) : wrap64 ((IntKind.u64.wrap z).tmod k) = (z % 18446744073709551616) % k := by
  have h1 : IntKind.u64.wrap z = z % 18446744073709551616 := by simp [IntKind.wrap, IntKind.signed, IntKind.bits]
  rw [h1, Int.tmod_eq_emod_of_nonneg (by omega)]
  have h2 := Int.emod_lt_of_pos (z % 18446744073709551616) hk
  have h3 := Int.emod_nonneg (z % 18446744073709551616) (show k ≠ 0 by omega)
  generalize (z % 18446744073709551616) % k = q at h2 h3
  unfold wrap64
  omega
theorem umod2 (z : Int) : wrap64 ((IntKind.u64.wrap z).tmod 2) = z % 2 := by
  rw [umod z 2 (by decide) (by decide)]
  exact Int.emod_emod_of_dvd z ⟨9223372036854775808, by decide⟩
end
end Go.Proofs.Ytfakdphkklclgaa.P

end

section
namespace Go.Proofs.Ytfakdphkklclgaa.P
open Go.RowKit Go.Proofs.YtfakdphkklclgaaW.PrintWords Go.Proofs.YtfakdphkklclgaaW.PrintLast Go.Proofs.YtfakdphkklclgaaW.PrintMore
attribute [local go_sem] max2_int min2_int max_two min_two max_three min_three max_four min_four
set_option linter.unusedVariables false
set_option linter.unusedSimpArgs false
section
def ovl (out : List Int) (a : Nat) (bs : List Int) : List Int := out.take a ++ bs ++ out.drop (a + bs.length)
def layL : List S52 → Nat → List Int → List Int
  | [], _, out => out
  | w :: ws, n, out => layL ws (n - w.f1.length) (ovl out w.f0.toNat (w.f1.take n))
def totL : List S52 → Nat
  | [] => 0
  | w :: ws => w.f1.length + totL ws
structure TFacts (K : Nat) (nm : ByteArray → Bool) : Prop where
  l : LFacts K nm
  tot : ∀ ws : List S52, ws.length ≤ 2 → (∀ x ∈ ws, x.f1.length ≤ 2097152) → provisolaw21_total.f K ws = some (totL ws : Int)
  lay : ∀ (img : List Int) (a : Nat) (ws : List S52) (n : Nat), ws.length ≤ 2 → (∀ x ∈ ws, x.f0 = (a : Int) ∧ x.f1.length ≤ 2097152) → a ≤ img.length → img.length ≤ 1048576 → n ≤ totL ws → provisolaw21_lay.f K img ws (n : Int) = some (layL ws n img)
def DOK (s : Sto) (d : List Int) : Prop := ∃ J, d = s.img ++ J ∧ (J = [] ∨ rd J 0 = 0) ∧ d.length ≤ 1048576 ∧ ∀ x ∈ d, 0 ≤ x ∧ x ≤ 255
theorem ovl_nil (out : List Int) (a : Nat) : ovl out a [] = out := by unfold ovl; simp
theorem ovl_app (img J bs : List Int) : ovl (img ++ J) img.length bs = img ++ bs ++ J.drop bs.length := by
  unfold ovl
  rw [List.take_left, List.drop_append, List.drop_eq_nil_of_le (by omega)]
  simp
structure WsOK (s : Sto) (out : Sto × List S52 × Int) : Prop where
  len : out.2.1.length ≤ 2
  each : ∀ x ∈ out.2.1, x.f0 = (s.img.length : Int) ∧ x.f1.length ≤ 2097152
  rng : ∀ x ∈ out.2.1, ∀ z ∈ x.f1, 0 ≤ z ∧ z ≤ 255
  how : (out.2.1 = [] ∧ out.1 = s) ∨ ∃ (l : List S101) (k : Int) (t : List Int), out.1 = ⟨s.img ++ k :: t, l⟩ ∧ out.2.1 = [⟨(s.img.length : Int), 0 :: t ++ [0]⟩, ⟨(s.img.length : Int), [k]⟩] ∧ s.img.length + t.length + 2 ≤ 1048576
theorem laid_ws {s : Sto} (l : List S101) (k : Int) (t : List Int) (hi : s.img.length ≤ 1048576) (hr : ∀ z ∈ k :: t, 0 ≤ z ∧ z ≤ 255) : WsOK s (laidS s l (k :: t)) := by
  unfold laidS
  split
  · exact ⟨Nat.zero_le _, fun x hx => (by cases hx), fun x hx => (by cases hx), .inl ⟨rfl, rfl⟩⟩
  · rename_i c
    simp only [List.length_cons] at c
    refine ⟨Nat.le_refl _, fun x hx => ?_, fun x hx => ?_, .inr ⟨l, k, t, rfl, rfl, by omega⟩⟩
    rotate_left
    · rcases List.mem_cons.1 hx with rfl | hx
      · intro z hz
        rcases List.mem_append.1 hz with hz | hz
        · rcases List.mem_cons.1 hz with rfl | hz
          · decide
          · exact hr z (List.mem_cons_of_mem _ hz)
        · rw [List.mem_singleton.1 hz]; decide
      · rw [List.mem_singleton.1 hx]
        intro z hz
        rw [List.mem_singleton.1 hz]
        exact hr k List.mem_cons_self
    rcases List.mem_cons.1 hx with rfl | hx
    · exact ⟨rfl, by simp; omega⟩
    · rw [List.mem_singleton.1 hx]; exact ⟨rfl, by simp⟩
theorem rec_cons (kind : Int) (x : ByteArray) (b : List Int) : ∃ t, recB kind x b = kind :: t := ⟨_, rfl⟩
theorem put_ws (nm : ByteArray → Bool) {s : Sto} (x : ByteArray) (b : List Int) (hi : s.img.length ≤ 1048576) (hb : ∀ z ∈ b, 0 ≤ z ∧ z ≤ 255) : WsOK s (putS nm s x b) := by
  unfold putS
  split
  · exact ⟨Nat.zero_le _, fun x hx => (by cases hx), fun x hx => (by cases hx), .inl ⟨rfl, rfl⟩⟩
  split
  · exact ⟨Nat.zero_le _, fun x hx => (by cases hx), fun x hx => (by cases hx), .inl ⟨rfl, rfl⟩⟩
  split
  · exact ⟨Nat.zero_le _, fun x hx => (by cases hx), fun x hx => (by cases hx), .inl ⟨rfl, rfl⟩⟩
  have hr := rec_rng 1 (by decide) x b hb
  obtain ⟨t, e⟩ := rec_cons 1 x b
  rw [e] at hr ⊢
  exact laid_ws _ _ _ hi hr
theorem drop_ws (nm : ByteArray → Bool) {s : Sto} (x : ByteArray) (hi : s.img.length ≤ 1048576) : WsOK s (dropS nm s x) := by
  unfold dropS
  split
  · exact ⟨Nat.zero_le _, fun x hx => (by cases hx), fun x hx => (by cases hx), .inl ⟨rfl, rfl⟩⟩
  split
  · exact ⟨Nat.zero_le _, fun x hx => (by cases hx), fun x hx => (by cases hx), .inl ⟨rfl, rfl⟩⟩
  have hr := rec_rng 2 (by decide) x [] (fun _ q => by cases q)
  obtain ⟨t, e⟩ := rec_cons 2 x []
  rw [e] at hr ⊢
  exact laid_ws _ _ _ hi hr
theorem rd_zero (t : List Int) : rd (0 :: t) 0 = 0 := rfl
theorem ovl_mem {out bs : List Int} {a : Nat} {z : Int} (h : z ∈ ovl out a bs) : z ∈ out ∨ z ∈ bs := by
  unfold ovl at h
  rcases List.mem_append.1 h with h | h
  · rcases List.mem_append.1 h with h | h
    · exact .inl (List.mem_of_mem_take h)
    · exact .inr h
  · exact .inl (List.mem_of_mem_drop h)
theorem layL_rng : ∀ (ws : List S52) (n : Nat) (out : List Int), (∀ x ∈ ws, ∀ z ∈ x.f1, 0 ≤ z ∧ z ≤ 255) → (∀ z ∈ out, 0 ≤ z ∧ z ≤ 255) → ∀ z ∈ layL ws n out, 0 ≤ z ∧ z ≤ 255
  | [], _, _, _, h => h
  | w :: ws, n, out, h1, h2 => layL_rng ws _ _ (fun x hx => h1 x (List.mem_cons_of_mem _ hx)) (fun z hz => (ovl_mem hz).elim (h2 z) (fun q => h1 w List.mem_cons_self z (List.mem_of_mem_take q)))
theorem torn_step {s : Sto} {out : Sto × List S52 × Int} (h : WsOK s out) {d : List Int} (hd : DOK s d) (n : Nat) (hn : n ≤ totL out.2.1) : DOK (if n = totL out.2.1 then out.1 else s) (layL out.2.1 n d) := by
  obtain ⟨J, rfl, hJ, hl, hrg⟩ := hd
  have hrg2 := layL_rng out.2.1 n _ h.rng hrg
  obtain ⟨o1, ws, er⟩ := out
  rcases h.how with ⟨e1, e2⟩ | ⟨l, k, t, e1, e2, e3⟩
  · simp only at e1 e2
    subst e1 e2
    simp only [layL, ite_self]
    exact ⟨J, rfl, hJ, hl, hrg⟩
  · simp only at e1 e2
    subst e1 e2
    clear h
    have ht : totL [⟨(s.img.length : Int), 0 :: t ++ [0]⟩, ⟨(s.img.length : Int), [k]⟩] = t.length + 3 := by simp [totL]
    simp only [ht] at hn ⊢
    rw [List.length_append] at hl
    have hlay : layL [⟨(s.img.length : Int), 0 :: t ++ [0]⟩, ⟨(s.img.length : Int), [k]⟩] n (s.img ++ J) = ovl (ovl (s.img ++ J) s.img.length ((0 :: t ++ [0]).take n)) s.img.length ([k].take (n - (t.length + 2))) := by simp [layL]
    simp only at hrg2
    rw [hlay, ovl_app] at hrg2 ⊢
    by_cases c : n = t.length + 3
    · rw [List.take_of_length_le (by simp; omega), List.take_of_length_le (by simp; omega)] at hrg2
      rw [if_pos c, List.take_of_length_le (by simp; omega), List.take_of_length_le (by simp; omega)]
      refine ⟨0 :: J.drop (t.length + 2), ?_, .inr (rd_zero _), ?_, hrg2⟩
      · rw [List.append_assoc s.img, ovl_app]
        simp
      · rw [List.append_assoc s.img, ovl_app]
        simp
        omega
    · rw [show n - (t.length + 2) = 0 by omega, List.take_zero, ovl_nil] at hrg2
      rw [if_neg c, show n - (t.length + 2) = 0 by omega, List.take_zero, ovl_nil]
      rcases Nat.eq_zero_or_pos n with e | e
      · subst e
        exact ⟨J, by simp, hJ, by simp; omega, hrg2⟩
      · obtain ⟨m, rfl⟩ : ∃ m, n = m + 1 := ⟨n - 1, by omega⟩
        refine ⟨(0 :: (t ++ [0]).take m) ++ J.drop (((0 :: t ++ [0]).take (m + 1)).length), by simp, .inr (rd_zero _), ?_, hrg2⟩
        simp
        omega
end
end Go.Proofs.Ytfakdphkklclgaa.P

end

section
namespace Go.Proofs.Ytfakdphkklclgaa.P
open Go.RowKit Go.Proofs.YtfakdphkklclgaaW.PrintWords Go.Proofs.YtfakdphkklclgaaW.PrintLast Go.Proofs.YtfakdphkklclgaaW.PrintMore
attribute [local go_sem] max2_int min2_int max_two min_two max_three min_three max_four min_four
set_option linter.unusedVariables false
set_option linter.unusedSimpArgs false
section
open Go.ChangeMaps Go.MapKept
set_option linter.unusedVariables false
def stepO (nm : ByteArray → Bool) (s : Sto) (op : Int) (x : ByteArray) (b : List Int) : Sto × List S52 × Int := if op = 0 then putS nm s x b else dropS nm s x
theorem inv_step {nm : ByteArray → Bool} (hz : ∀ x, nm x = true → 1 ≤ x.size ∧ x.size ≤ 24) {s : Sto} (h : Inv nm s) (op : Int) (x : ByteArray) (b : List Int) (hb : ∀ z ∈ b, 0 ≤ z ∧ z ≤ 255) : Inv nm (stepO nm s op x b).1 := by
  unfold stepO
  split
  · exact inv_put hz h x b hb
  · exact inv_drop hz h x
theorem step_ws (nm : ByteArray → Bool) {s : Sto} (op : Int) (x : ByteArray) (b : List Int) (hi : s.img.length ≤ 1048576) (hb : ∀ z ∈ b, 0 ≤ z ∧ z ≤ 255) : WsOK s (stepO nm s op x b) := by
  unfold stepO
  split
  · exact put_ws nm x b hi hb
  · exact drop_ws nm x hi
theorem do_st (op : Int) (ho : op = 0 ∨ op = 1) {w0 w : World} {g : Nat} {F Z : Nat → Prop} {xv : Value} {s : Sto} (KF : Nat) (nm : ByteArray → Bool) (hK : StFacts KF nm) (hU : ∀ l : List Int, l.length ≤ 140737488351232 → provisoplain_Untouched.f KF (l ++ [165, 90, 195, 60]) l = some true) (hg : Good nm s) (x : ByteArray) (hx : x.size ≤ maxLen) (b : List Int) (Ad : Option Addr) (cd : Nat) (hlim : b.length ≤ 140737488351232) (hb : Kd.F (Kd.int .u8) w (fun k => k < w0.heap.size) Ad b.length b) (hcd : b.length ≤ cd) (hB : Below w0.heap.size w0 w) (h : SAt w0.heap.size F g s w) (hd : DAt Z xv s w) (hZ : ∀ k, Z k → ¬ F k) : Calls Try.prog 14 #[.pointer (some ⟨g, 0, none⟩), xv, .agg #[.int .i64 op, .string x, .slice Ad b.length cd]] w fun e w' => DoPost w0 F Z g w (stepO nm s op x b) e w' := by
  rcases ho with rfl | rfl
  · exact do_put KF nm hK hU hg x hx b Ad cd hlim hb hcd hB h hd hZ
  · exact do_drop KF nm hK hU hg x hx b Ad cd hlim hb hcd hB h hd hZ
theorem tot_le (ws : List S52) (hl : ws.length ≤ 2) (hx : ∀ x ∈ ws, x.f1.length ≤ 2097152) : totL ws ≤ 4194304 := by
  match ws, hl with
  | [], _ => simp [totL]
  | [a], _ => have := hx a (by simp); simp [totL]; omega
  | [a, b], _ => have := hx a (by simp); have := hx b (by simp); simp [totL]; omega
theorem neT1 (T : Nat) : ((T : Int) + 1 == 0) = false := beq_eq_false_iff_ne.mpr (by omega)
theorem neT2 (T : Nat) : ((T : Int) + 1 = 0) = False := eq_false (by omega)
theorem wT1 (T : Nat) (h : T ≤ 4194304) : wrap64 ((T : Int) + 1) = (T : Int) + 1 := by unfold wrap64; omega
theorem uwrapN (T : Nat) (h : T ≤ 4194304) : IntKind.u64.wrap ((T : Int) + 1) = (T : Int) + 1 := by
  have h1 : ∀ z : Int, IntKind.u64.wrap z = z % 18446744073709551616 := fun z => by simp [IntKind.wrap, IntKind.signed, IntKind.bits]
  rw [h1]
  generalize hz : (T : Int) + 1 = z
  exact Int.emod_eq_of_lt (by omega) (by omega)
theorem umodN (z : Int) (k : Nat) (hk : k ≤ 4194304) : wrap64 ((IntKind.u64.wrap z).tmod ((k : Int) + 1)) = ((((z % 18446744073709551616) % ((k : Int) + 1)).toNat : Nat) : Int) ∧ ((z % 18446744073709551616) % ((k : Int) + 1)).toNat ≤ k := by
  have h1 : IntKind.u64.wrap z = z % 18446744073709551616 := by simp [IntKind.wrap, IntKind.signed, IntKind.bits]
  rw [h1, Int.tmod_eq_emod_of_nonneg (by omega)]
  have h2 := Int.emod_lt_of_pos (z % 18446744073709551616) (show (0 : Int) < (k : Int) + 1 by omega)
  have h3 := Int.emod_nonneg (z % 18446744073709551616) (show (k : Int) + 1 ≠ 0 by omega)
  generalize (z % 18446744073709551616) % ((k : Int) + 1) = q at h2 h3
  constructor
  · unfold wrap64; omega
  · omega
def provisolaw21_StoreTorn.Facts (l0 : List S37) (l1 : List Int) : Prop := l1.length ≤ 17592186044416 ∧ (∃ (K : Nat) (nm : ByteArray → Bool), TFacts K nm) ∧ l0.length ≤ 8796093022207 ∧ ∀ (i : Nat) (hi : i < l0.length), l0[i].f1.size ≤ maxLen ∧ l0[i].f2.length ≤ 140737488351232 ∧ ∀ z ∈ l0[i].f2, 0 ≤ z ∧ z ≤ 255
set_option maxHeartbeats 12800000 in
set_option maxRecDepth 100000 in
theorem provisolaw21_StoreTorn.calls (A0 : Option Addr) (c0 : Nat) (l0 : List S37) (A1 : Option Addr) (c1 : Nat) (l1 : List Int) (w : World) (hr0 : Kd.C k37 w A0 l0.length l0) (hc0 : l0.length ≤ c0) (hr1 : Kd.C (Kd.int .i64) w A1 l1.length l1) (hc1 : l1.length ≤ c1) (h : provisolaw21_StoreTorn.Facts l0 l1) :
    Calls Try.prog 7 #[.slice A0 l0.length c0, .slice A1 l1.length c1] w fun e w' => e = .returned (.bool true) ∧ Below w.heap.size w w' := by
  obtain ⟨hl1, h⟩ := h
  have HL1 := Aside0.mk hl1
  have HR1 := Aside0.mk hr1
  clear hl1 hr1 hc1
  obtain ⟨⟨KK, nm, hK⟩, hlim, hd⟩ := h
  have HT := Aside0.mk hK
  have HK := Aside0.mk hK.l
  have HLIM := Aside0.mk hlim
  have HD := Aside0.mk hd
  have HR0 := Aside0.mk hr0
  have HC0 := Aside0.mk hc0
  clear hK hlim hd hr0 hc0
  go_enter Try.func7, Try.ntmps7
  go_wp2_with fail
  refine (New_st w).mono ?_
  rintro e_ w1 ⟨g, rfl, hs, hb⟩
  have HS := Aside0.mk hs
  have HN1 := Aside0.mk (show Rws w [] w1 from ⟨fun _ q => (by simp at q), by simp, hb⟩)
  clear hs hb
  go_wp2_with (first | ((with_reducible refine gate_dst (N := 6) rfl ?_); refine rw_allocS rfl 29 rfl (cs := #[.slice none 0 0, .slice none 0 0]) (by kernel_rfl) HN1.out ?_; intro bx wx hg6 hM hb6; have HMX := Aside0.mk hM; have HBX := Aside0.mk hb6; have HEX := Aside0.mk hg6; clear hg6 hM hb6))
  have H := Aside0.mk (new_LSt HS.out HBX.out HMX.out HEX.out)
  have HI := Aside0.mk (inv_new nm)
  have HD_ := Aside0.mk (show Kd.R (Kd.int .u8) 5 wx w.heap.size (fun _ => False) (.slice none ([] : List Int).length 0) ([] : List Int) ∧ (∀ k, False → ¬ (w.heap.size ≤ k ∧ k < w1.heap.size)) ∧ ¬ False from ⟨Kd.R_nil _ _ _ _ _, fun _ q => q.elim, fun q => q⟩)
  have HDOK := Aside0.mk (show DOK ⟨[], []⟩ [] from ⟨[], rfl, .inl rfl, by decide, fun _ q => by cases q⟩)
  clear HS HN1
  go_loopw [22, 5, 7] (fun v22 v5 v7 wr => ∃ (i g : Nat) (s : Sto) (cs : Array Value) (F Z : Nat → Prop) (d : List Int) (Ak : Option Addr) (ck : Nat) (okd : Nat → Prop), v22 = .int .i64 (i : Int) ∧ v5 = .pointer (some ⟨g, 0, none⟩) ∧ v7 = .slice Ak d.length ck ∧ i ≤ l0.length ∧ Aside0 (LSt w bx g s cs F Z wr) ∧ Aside0 (Inv nm s) ∧ Aside0 (Kd.R (Kd.int .u8) 5 wr w.heap.size okd (.slice Ak d.length ck) d ∧ (∀ k, okd k → ¬ F k) ∧ ¬ okd bx) ∧ Aside0 (DOK s d)) (fun v22 _ _ _ => ((l0.length : Int) - intOf v22).toNat)
  case atStart => exact ⟨0, g, _, _, _, _, [], none, 0, _, rfl, rfl, rfl, Nat.zero_le _, H, HI, HD_, HDOK⟩
  case round =>
    clear H HI HMX HBX HEX HD_ HDOK
    obtain ⟨i, g, s, cs, F, Z, d, Ak, ck, okd, rfl, rfl, rfl, hi, H, HI, HD_, HDOK⟩ := hrel
    by_cases c2_ : i < l0.length
    · have c2b : decide ((i : Int) < (l0.length : Int)) = true := decide_eq_true (by omega)
      have c2c : decide (i < l0.length) = true := decide_eq_true c2_
      have p5 : (0 ≤ (i : Int)) = True := eq_true (by omega)
      have p6 : ((i : Int) < (l0.length : Int)) = True := eq_true (by omega)
      have HIL : Aside0 (i < l0.length) := ⟨c2_⟩
      have HRW : Aside0 (wrap64 ((i : Int) + 1) = ((i + 1 : Nat) : Int)) := ⟨by have := HLIM.out; unfold wrap64; omega⟩
      have hbx := H.out.rows.below
      obtain ⟨ad, Ad, cd, e1, hx0, hx1, hx2, hcd, hby⟩ := at_T37 HR0.out (i : Int) (by omega) (by omega)
      cases e1
      replace hx0 := (hbx.cell (World.block_lt_of_cell? w _ hx0)).trans hx0
      replace hx1 := (hbx.cell (World.block_lt_of_cell? w _ hx1)).trans hx1
      replace hx2 := (hbx.cell (World.block_lt_of_cell? w _ hx2)).trans hx2
      have hdo := HD.out i c2_
      have hrd : rd_T37 l0 (i : Int) = l0[i] := by unfold rd_T37; rw [Int.toNat_natCast, List.getD_eq_getElem?_getD, List.getElem?_eq_getElem c2_]; rfl
      simp only [Int.toNat_natCast] at hx0 hx1 hx2
      rw [hrd] at hx0 hx1 hx2 hcd hby
      have HD0 := Aside0.mk hdo
      have HBF := Aside0.mk (Kd.F_below (F_of_C hby) hbx)
      have HCD := Aside0.mk hcd
      obtain ⟨op, hop⟩ : ∃ z, z = l0[i].f0 := ⟨_, rfl⟩
      obtain ⟨x, hxn⟩ : ∃ z, z = l0[i].f1 := ⟨_, rfl⟩
      obtain ⟨b, hbn⟩ : ∃ z, z = l0[i].f2 := ⟨_, rfl⟩
      rw [← hop] at hx0
      rw [← hxn] at hx1
      rw [← hbn] at hx2
      have HOP := Aside0.mk (And.intro hop (And.intro hxn hbn))
      replace HD0 := Aside0.mk (show x.size ≤ maxLen ∧ b.length ≤ 140737488351232 ∧ ∀ z ∈ b, 0 ≤ z ∧ z ≤ 255 by rw [hxn, hbn]; exact HD0.out)
      replace HBF := Aside0.mk (show Kd.F (Kd.int .u8) wr (fun k => k < w.heap.size) Ad b.length b by rw [hbn]; exact HBF.out)
      replace HCD := Aside0.mk (show b.length ≤ cd by rw [hbn]; exact HCD.out)
      obtain ⟨Ax, cx, Ay, cy, ecs, _⟩ := H.out.dt.now
      injection ecs with ecs
      subst ecs
      have HMR := Aside0.mk H.out.rows
      clear hbx hcd hby hdo hrd hop hxn hbn
      obtain ⟨op2, hop2⟩ : ∃ q, q = op % 2 := ⟨_, rfl⟩
      have HO2 := Aside0.mk (show op2 = 0 ∨ op2 = 1 by omega)
      have HE := Aside0.mk (show wrap64 ((IntKind.u64.wrap op).tmod 2) = op2 from (umod2 op).trans hop2.symm)
      clear hop2
      go_wp2_with (first | ((with_reducible refine gate_dst (N := 9) rfl ?_); refine rw_allocS rfl 37 rfl (cs := #[.int .i64 0, .string ⟨#[]⟩, .slice none 0 0]) (by kernel_rfl) HMR.out ?_; intro b6 w2 hg6 hM hb6; have HM2 := Aside0.mk hM; have HB2 := Aside0.mk hb6; have HE6 := Aside0.mk hg6; clear hg6 hM hb6) | (refine rw_storeS rfl 37 rfl rfl (cs' := #[.int .i64 op, .string x, .slice Ad b.length cd]) rfl [] HM2.out (by kernel_rfl) rfl (by show _ = _; simp [Value.oneCell']) ?_; intro w3 hM hk3; have HM3 := Aside0.mk hM; have HK3 := Aside0.mk hk3; have hc60 := blk_cell (hM.mem List.mem_cons_self) 0; have hc61 := blk_cell (hM.mem List.mem_cons_self) 1; clear hM hk3) | (refine rw_cell rfl 3 rfl (g := b6) (i := 0) rfl (u := .int .i64 (wrap64 ((IntKind.u64.wrap op).tmod 2))) rfl rfl [] HM3.out (by show (0 : Nat) < 3; decide) (by kernel_rfl) ?_; intro w4 hM hk3; rw [HE.out] at hM; have HM4 := Aside0.mk (show Rws w [(b6, 37, #[.int .i64 op2, .string x, .slice Ad b.length cd]), (bx, 29, #[.slice Ax s.img.length cx, .slice Ay s.L.length cy])] w4 from hM); have HK4 := Aside0.mk hk3; clear hM hk3) | ((with_reducible refine gate_dst (N := 35) rfl ?_); refine rw_load rfl 29 rfl rfl HM4.out (List.mem_cons_of_mem _ List.mem_cons_self) _ Try.underlying29 rfl (by kernel_rfl) ?_) | ((with_reducible refine gate_dst (N := 36) rfl ?_); refine rw_load rfl 37 rfl rfl HM4.out List.mem_cons_self _ Try.underlying37 rfl (by kernel_rfl) ?_))
      have HKR := Aside0.mk (show Kept wr w4 (fun _ => False) from ⟨Nat.le_trans HB2.out.size (Nat.le_trans HK3.out.1 HK4.out.1), fun k hk _ => by
        have h6 := HE6.out
        have h2 := HB2.out.size
        have h3 := HK3.out.1
        exact (HK4.out.2 k (by omega) (by omega)).trans ((HK3.out.2 k (by omega) (by omega)).trans (HB2.out.block k hk))⟩)
      have H4 := Aside0.mk (H.out.kept HKR.out (fun _ _ q => q) HM4.out.below)
      refine (do_st op2 HO2.out KK nm HK.out.st HK.out.un HI.out.good x HD0.out.1 b Ad cd HD0.out.2.1 (Kd.F_kept HBF.out HKR.out (fun _ _ q => q)) HCD.out HM4.out.below H4.out.st H4.out.dt H4.out.dis).mono ?_
      rintro e_ w5 ⟨y, m, F', Z', M, rfl, d1, d2, d3, d4, d5, d6, d7, d8, d9⟩
      obtain ⟨A15, c15, A16, c16, e15, _⟩ := d2.now
      subst e15
      have HMW := Aside0.mk (And.intro d3 d7)
      have HDO := Aside0.mk (And.intro d1 (And.intro d2 (And.intro d4 (And.intro d5 d6))))
      have HM5 := Aside0.mk (HM4.out.keptF d8 (fun p hp => by
        rcases List.mem_cons.1 hp with rfl | hp
        · exact fun q => by have := (H4.out.st.lt _ q).2; have := (H.out.st.lt _ q).2; have := HE6.out; simp only at *; omega
        · rw [List.mem_singleton.1 hp]; exact H.out.nF) d9)
      have HKD := Aside0.mk d8
      clear d1 d2 d3 d4 d5 d6 d7 d8 d9 hc60 hc61
      obtain ⟨out, hout⟩ : ∃ q, q = stepO nm s op2 x b := ⟨_, rfl⟩
      have HWS := Aside0.mk (step_ws nm (s := s) op2 x b HI.out.good.img HD0.out.2.2)
      have HIO := Aside0.mk (inv_step HK.out.st.siz HI.out op2 x b HD0.out.2.2)
      rw [← hout] at HMW HDO HWS HIO ⊢
      have HOUT := Aside0.mk hout
      clear hout
      obtain ⟨⟨Am, cm, em, hm1, hm2⟩, hmm⟩ := HMW.out
      subst em
      have HM1 := Aside0.mk (And.intro hm1 (And.intro hm2 hmm))
      clear hm1 hm2 hmm HMW
      go_wp2_with (first | ((with_reducible refine gate_dst (N := 10) rfl ?_); refine rw_allocS rfl 29 rfl (cs := #[.slice none 0 0, .slice none 0 0]) (by kernel_rfl) HM5.out ?_; intro b8 w6 hg6 hM hb6; have HM6 := Aside0.mk hM; have HB6 := Aside0.mk hb6; have HE8 := Aside0.mk hg6; clear hg6 hM hb6) | (refine rw_storeS rfl 29 rfl rfl (cs' := #[.slice A15 out.1.img.length c15, .slice A16 out.1.L.length c16]) rfl [] HM6.out (by kernel_rfl) rfl (by show _ = _; simp [Value.oneCell']) ?_; intro w7 hM hk3; have HM7 := Aside0.mk hM; have HK7 := Aside0.mk hk3; clear hM hk3))
      have HK57 := Aside0.mk (show Kept w5 w7 (fun _ => False) from ⟨Nat.le_trans HB6.out.size HK7.out.1, fun k hk _ => by
        have h6 := HE8.out
        have h2 := HB6.out.size
        exact (HK7.out.2 k (by omega) (by omega)).trans (HB6.out.block k hk)⟩)
      have hwl := HWS.out.len
      have hwe := HWS.out.each
      refine (provisolaw21_total.calls KK Am cm out.2.1 _ w7 (Kd.F_now (Kd.F_kept HM1.out.2.1 HK57.out (fun _ _ q => q))) HM1.out.1 (HT.out.tot _ hwl (fun z hz => (hwe z hz).2))).mono ?_
      rintro e_ w8 ⟨rfl, hb⟩
      have htl := tot_le out.2.1 hwl (fun z hz => (hwe z hz).2)
      have HM8 := Aside0.mk (HM7.out.step hb)
      have HB8 := Aside0.mk hb
      obtain ⟨T, hT⟩ : ∃ T, T = totL out.2.1 := ⟨_, rfl⟩
      rw [← hT] at htl ⊢
      have HTE := Aside0.mk hT
      have HTL := Aside0.mk htl
      clear hb hT htl hwl hwe
      by_cases c7_ : i < l1.length
      · have c7b : decide ((i : Int) < (l1.length : Int)) = true := decide_eq_true (by omega)
        have c7c : decide (i < l1.length) = true := decide_eq_true c7_
        have p7 : ((i : Int) < (l1.length : Int)) = True := eq_true (by omega)
        obtain ⟨ad1, e1, _⟩ := HR1.out.2.2 (by omega)
        subst e1
        have hcut := Kd.foot_int (Kd.C_below HR1.out HM8.out.below) (i : Int) (by omega) (by omega)
        rw [Int.toNat_natCast] at hcut
        obtain ⟨z, hz⟩ : ∃ z, z = rd l1 (i : Int) := ⟨_, rfl⟩
        rw [← hz] at hcut
        obtain ⟨hcE, hcl⟩ := umodN z T HTL.out
        obtain ⟨n, hn⟩ : ∃ n, n = ((z % 18446744073709551616) % ((T : Int) + 1)).toNat := ⟨_, rfl⟩
        rw [← hn] at hcE hcl
        clear hz hn c7_
        have hwT := wT1 T HTL.out
        have huT := uwrapN T HTL.out
        have hneT := neT1 T
        have hneT2 := neT2 T
        go_wp2_with fail
        clear hwT huT hneT hneT2
        have hrow := Kd.R_below (Kd.R_kept (Kd.R_kept (Kd.R_kept HD_.out.1 HKR.out (fun _ _ q => q)) HKD.out (fun k q => HD_.out.2.1 k q)) HK57.out (fun _ _ q => q)) HB8.out
        have hdk := HDOK.out
        obtain ⟨J0, hJ0, _, hJl0, _⟩ := hdk
        have hal : s.img.length ≤ d.length := by rw [hJ0, List.length_append]; omega
        refine (provisolaw21_lay.calls KK Ak ck d Am cm out.2.1 (n : Int) _ w8 (Kd.R_reads' hrow).2.2 (Kd.R_reads' hrow).2.1 (Kd.F_now (Kd.F_below (Kd.F_kept HM1.out.2.1 HK57.out (fun _ _ q => q)) HB8.out)) HM1.out.1 (HT.out.lay d s.img.length out.2.1 n HWS.out.len HWS.out.each hal hJl0 (by rw [← HTE.out]; exact hcl))).mono ?_
        rintro e_ w9 ⟨v9, rfl, hR9, hb9⟩
        have hdn := torn_step HWS.out HDOK.out n (by rw [← HTE.out]; exact hcl)
        rw [← HTE.out] at hdn
        obtain ⟨d9, hd9⟩ : ∃ q, q = layL out.2.1 n d := ⟨_, rfl⟩
        rw [← hd9] at hdn hR9
        obtain ⟨A9, c9, e9⟩ := Kd.R_slice hR9
        subst e9
        have HDN := Aside0.mk hdn
        have HR9 := Aside0.mk (Kd.R_mono (Kd.R_bound hR9) (ok' := fun k => w8.heap.size ≤ k ∧ k < w9.heap.size) (fun k q => ⟨q.2.1, q.2.2.1⟩))
        have HM9 := Aside0.mk (HM8.out.step hb9)
        have HB9 := Aside0.mk hb9
        have HBX := Aside0.mk (show bx < w8.heap.size from blk_lt (HM8.out.mem (List.mem_cons_of_mem _ (List.mem_cons_of_mem _ List.mem_cons_self))))
        have hbw4 : bx < w4.heap.size := blk_lt (HM4.out.mem (List.mem_cons_of_mem _ List.mem_cons_self))
        have HNZ := Aside0.mk (show ¬ Z' bx from fun q => (HDO.out.2.2.2.2 bx q).elim H.out.nZ (fun q => by omega))
        have HZS := Aside0.mk (show w.heap.size ≤ w4.heap.size ∧ w4.heap.size ≤ w5.heap.size ∧ w5.heap.size ≤ w7.heap.size ∧ w7.heap.size ≤ w8.heap.size ∧ w8.heap.size ≤ w9.heap.size from ⟨HM4.out.below.size, HKD.out.1, HK57.out.1, HB8.out.size, hb9.size⟩)
        clear hrow hJ0 hJl0 hal hdn hd9 hR9 hb9 hbw4
        by_cases cc_ : n = T
        · have ccb : ((n : Int) == (T : Int)) = true := by rw [beq_iff_eq]; omega
          have HDO9 := Aside0.mk (show DOK out.1 d9 by have := HDN.out; rwa [if_pos (by omega)] at this)
          go_wp2_with (first | ((with_reducible refine gate_dst (N := 67) rfl ?_); refine rw_load rfl 29 rfl rfl HM9.out List.mem_cons_self _ Try.underlying29 rfl (by kernel_rfl) ?_) | (refine rw_storeS rfl 29 rfl rfl (cs' := #[.slice A15 out.1.img.length c15, .slice A16 out.1.L.length c16]) rfl [_, _] HM9.out (by kernel_rfl) rfl (by show _ = _; simp [Value.oneCell']) ?_; intro w10 hM hk3; have HM10 := Aside0.mk hM; have HK10 := Aside0.mk hk3; clear hM hk3))
          have hR10 := Kd.R_kept HR9.out HK10.out (fun k q e => by have := HBX.out; have := q.1; omega)
          have hd10 := ((((HDO.out.2.1.bound).kept HK57.out (fun _ _ q => q)).step HB8.out).step HB9.out).kept HK10.out (fun k q e => HNZ.out (e ▸ q.1))
          have HR10 := Aside0.mk hR10
          have HDX := Aside0.mk hd10
          have HBB := Aside0.mk (show bx < w10.heap.size from blk_lt (HM10.out.mem (List.mem_cons_of_mem _ (List.mem_cons_of_mem _ List.mem_cons_self))))
          obtain ⟨J, hJe, hJ, hJl, hJr⟩ := HDO9.out
          have hop := (show Inv nm out.1 from HIO.out).opens J hJ (by rw [← hJe]; exact hJl)
          rw [← hJe] at hop
          have HOP := Aside0.mk hop
          have HJR := Aside0.mk hJr
          have HJL := Aside0.mk hJl
          clear hR10 hd10 hJe hJ hJl hJr hop
          refine (slices_Clone_byte_byte.calls A9 c9 d9 d9 w10 (Kd.R_reads' HR10.out).2.2 (Kd.R_reads' HR10.out).2.1 (by unfold slices_Clone_byte_byte.f; rw [if_pos (by have := HJL.out; omega)])).mono ?_
          rintro e_ w11 ⟨v11, rfl, hR, hb⟩
          obtain ⟨A11, c11, e11⟩ := Kd.R_slice hR
          subst e11
          have HR11 := Aside0.mk hR
          replace HR10 := Aside0.mk (Kd.R_below HR10.out hb)
          replace HDX := Aside0.mk (HDX.out.step hb)
          have HM11 := Aside0.mk (HM10.out.step hb)
          have HZ11 := Aside0.mk hb.size
          clear hR hb
          go_wp2_with fail
          refine (Open_st KK nm HK.out.st A11 c11 d9 w11 (Kd.R_reads' HR11.out).2.2 (Kd.R_reads' HR11.out).2.1 HJR.out).mono ?_
          rintro e_ w12 ⟨hb, hp⟩
          rw [HOP.out] at hp
          obtain ⟨g2, rfl, ht⟩ := hp
          have hz0 : w.heap.size ≤ w11.heap.size := HM11.out.below.size
          replace HR10 := Aside0.mk (Kd.R_below HR10.out hb)
          replace HDX := Aside0.mk (HDX.out.step hb)
          have HM12 := Aside0.mk (HM11.out.step hb)
          have hsz := HZS.out
          have hz10 : w9.heap.size ≤ w10.heap.size := HK10.out.1
          have HN := Aside0.mk (show LSt w bx g2 out.1 #[.slice A15 out.1.img.length c15, .slice A16 out.1.L.length c16] (fun k => w11.heap.size ≤ k ∧ k < w12.heap.size) (fun k => Z' k ∧ k < w5.heap.size) w12 from ⟨HM12.out.single (List.mem_cons_of_mem _ (List.mem_cons_of_mem _ List.mem_cons_self)), ht.lower hz0, HDX.out, fun k q1 q2 => by have h1 := q1.2; have := HZ11.out; omega, fun q => by have := HBB.out; have := HZ11.out; omega, fun q => HNZ.out q.1⟩)
          have HDN2 := Aside0.mk (show Kd.R (Kd.int .u8) 5 w12 w.heap.size (fun k => w8.heap.size ≤ k ∧ k < w9.heap.size) (.slice A9 d9.length c9) d9 ∧ (∀ k, (w8.heap.size ≤ k ∧ k < w9.heap.size) → ¬ (w11.heap.size ≤ k ∧ k < w12.heap.size)) ∧ ¬ (w8.heap.size ≤ bx ∧ bx < w9.heap.size) from ⟨Kd.R_lower HR10.out (by omega), fun k q1 q2 => by have := HZ11.out; omega, fun q => by have := HBX.out; omega⟩)
          clear hb ht hz0 hsz hz10 HDX HR10 HR11 HM11 HM10
          have hcx0 := blk_cell (HN.out.rows.mem List.mem_cons_self) 0
          have hcx1 := blk_cell (HN.out.rows.mem List.mem_cons_self) 1
          have HIN := Aside0.mk (show Inv nm out.1 from HIO.out)
          go_wp2_with fail
          refine (alike_st KK nm HK.out.st HIN.out.good HN.out.st HN.out.dt).mono ?_
          rintro e_ w13 ⟨rfl, hb⟩
          replace HN := Aside0.mk (HN.out.step hb)
          have HDN3 := Aside0.mk (And.intro (Kd.R_below HDN2.out.1 hb) HDN2.out.2)
          clear hb hcx0 hcx1
          go_wp2_with fail
          go_roundw
          case rel => exact ⟨i + 1, g2, out.1, _, _, _, d9, A9, c9, _, (by rw [HRW.out]), rfl, rfl, HIL.out, HN, HIN, HDN3, HDO9⟩
          case measure => rw [HRW.out]; have := HIL.out; show ((l0.length : Int) - ((i + 1 : Nat) : Int)).toNat < ((l0.length : Int) - (i : Int)).toNat; omega
        · have ccb : ((n : Int) == (T : Int)) = false := beq_eq_false_iff_ne.mpr (by omega)
          have HDO9 := Aside0.mk (show DOK s d9 by have := HDN.out; rwa [if_neg (by omega)] at this)
          have HM10 := HM9
          have hR10 := HR9.out
          have hd10 := ((((H4.out.dt.bound).kept HKD.out (fun k q => H4.out.dis k q.1)).kept HK57.out (fun _ _ q => q)).step HB8.out).step HB9.out
          go_wp2_with fail
          have HR10 := Aside0.mk hR10
          have HDX := Aside0.mk hd10
          have HBB := Aside0.mk (show bx < w9.heap.size from blk_lt (HM10.out.mem (List.mem_cons_of_mem _ (List.mem_cons_of_mem _ List.mem_cons_self))))
          obtain ⟨J, hJe, hJ, hJl, hJr⟩ := HDO9.out
          have hop := (show Inv nm s from HI.out).opens J hJ (by rw [← hJe]; exact hJl)
          rw [← hJe] at hop
          have HOP := Aside0.mk hop
          have HJR := Aside0.mk hJr
          have HJL := Aside0.mk hJl
          clear hR10 hd10 hJe hJ hJl hJr hop
          refine (slices_Clone_byte_byte.calls A9 c9 d9 d9 w9 (Kd.R_reads' HR10.out).2.2 (Kd.R_reads' HR10.out).2.1 (by unfold slices_Clone_byte_byte.f; rw [if_pos (by have := HJL.out; omega)])).mono ?_
          rintro e_ w11 ⟨v11, rfl, hR, hb⟩
          obtain ⟨A11, c11, e11⟩ := Kd.R_slice hR
          subst e11
          have HR11 := Aside0.mk hR
          replace HR10 := Aside0.mk (Kd.R_below HR10.out hb)
          replace HDX := Aside0.mk (HDX.out.step hb)
          have HM11 := Aside0.mk (HM10.out.step hb)
          have HZ11 := Aside0.mk hb.size
          clear hR hb
          go_wp2_with fail
          refine (Open_st KK nm HK.out.st A11 c11 d9 w11 (Kd.R_reads' HR11.out).2.2 (Kd.R_reads' HR11.out).2.1 HJR.out).mono ?_
          rintro e_ w12 ⟨hb, hp⟩
          rw [HOP.out] at hp
          obtain ⟨g2, rfl, ht⟩ := hp
          have hz0 : w.heap.size ≤ w11.heap.size := HM11.out.below.size
          replace HR10 := Aside0.mk (Kd.R_below HR10.out hb)
          replace HDX := Aside0.mk (HDX.out.step hb)
          have HM12 := Aside0.mk (HM11.out.step hb)
          have hsz := HZS.out
          have hz10 : w9.heap.size ≤ w9.heap.size := Nat.le_refl _
          have HN := Aside0.mk (show LSt w bx g2 s #[.slice Ax s.img.length cx, .slice Ay s.L.length cy] (fun k => w11.heap.size ≤ k ∧ k < w12.heap.size) (fun k => Z k ∧ k < w4.heap.size) w12 from ⟨HM12.out.single (List.mem_cons_of_mem _ (List.mem_cons_of_mem _ List.mem_cons_self)), ht.lower hz0, HDX.out, fun k q1 q2 => by have h1 := q1.2; have := HZ11.out; omega, fun q => by have := HBB.out; have := HZ11.out; omega, fun q => H.out.nZ q.1⟩)
          have HDN2 := Aside0.mk (show Kd.R (Kd.int .u8) 5 w12 w.heap.size (fun k => w8.heap.size ≤ k ∧ k < w9.heap.size) (.slice A9 d9.length c9) d9 ∧ (∀ k, (w8.heap.size ≤ k ∧ k < w9.heap.size) → ¬ (w11.heap.size ≤ k ∧ k < w12.heap.size)) ∧ ¬ (w8.heap.size ≤ bx ∧ bx < w9.heap.size) from ⟨Kd.R_lower HR10.out (by omega), fun k q1 q2 => by have := HZ11.out; omega, fun q => by have := HBX.out; omega⟩)
          clear hb ht hz0 hsz hz10 HDX HR10 HR11 HM11 HM10
          have hcx0 := blk_cell (HN.out.rows.mem List.mem_cons_self) 0
          have hcx1 := blk_cell (HN.out.rows.mem List.mem_cons_self) 1
          have HIN := Aside0.mk (show Inv nm s from HI.out)
          go_wp2_with fail
          refine (alike_st KK nm HK.out.st HIN.out.good HN.out.st HN.out.dt).mono ?_
          rintro e_ w13 ⟨rfl, hb⟩
          replace HN := Aside0.mk (HN.out.step hb)
          have HDN3 := Aside0.mk (And.intro (Kd.R_below HDN2.out.1 hb) HDN2.out.2)
          clear hb hcx0 hcx1
          go_wp2_with fail
          go_roundw
          case rel => exact ⟨i + 1, g2, s, _, _, _, d9, A9, c9, _, (by rw [HRW.out]), rfl, rfl, HIL.out, HN, HIN, HDN3, HDO9⟩
          case measure => rw [HRW.out]; have := HIL.out; show ((l0.length : Int) - ((i + 1 : Nat) : Int)).toNat < ((l0.length : Int) - (i : Int)).toNat; omega
      · have c7b : decide ((i : Int) < (l1.length : Int)) = false := decide_eq_false (by omega)
        have c7c : decide (i < l1.length) = false := decide_eq_false c7_
        clear c7_
        obtain ⟨n, hn⟩ : ∃ n, n = T := ⟨_, rfl⟩
        subst hn
        have hcl : n ≤ n := Nat.le_refl n
        go_wp2_with fail

        have hrow := Kd.R_below (Kd.R_kept (Kd.R_kept (Kd.R_kept HD_.out.1 HKR.out (fun _ _ q => q)) HKD.out (fun k q => HD_.out.2.1 k q)) HK57.out (fun _ _ q => q)) HB8.out
        have hdk := HDOK.out
        obtain ⟨J0, hJ0, _, hJl0, _⟩ := hdk
        have hal : s.img.length ≤ d.length := by rw [hJ0, List.length_append]; omega
        refine (provisolaw21_lay.calls KK Ak ck d Am cm out.2.1 (n : Int) _ w8 (Kd.R_reads' hrow).2.2 (Kd.R_reads' hrow).2.1 (Kd.F_now (Kd.F_below (Kd.F_kept HM1.out.2.1 HK57.out (fun _ _ q => q)) HB8.out)) HM1.out.1 (HT.out.lay d s.img.length out.2.1 n HWS.out.len HWS.out.each hal hJl0 (by rw [← HTE.out]; exact hcl))).mono ?_
        rintro e_ w9 ⟨v9, rfl, hR9, hb9⟩
        have hdn := torn_step HWS.out HDOK.out n (by rw [← HTE.out]; exact hcl)
        rw [← HTE.out] at hdn
        obtain ⟨d9, hd9⟩ : ∃ q, q = layL out.2.1 n d := ⟨_, rfl⟩
        rw [← hd9] at hdn hR9
        obtain ⟨A9, c9, e9⟩ := Kd.R_slice hR9
        subst e9
        have HDN := Aside0.mk hdn
        have HR9 := Aside0.mk (Kd.R_mono (Kd.R_bound hR9) (ok' := fun k => w8.heap.size ≤ k ∧ k < w9.heap.size) (fun k q => ⟨q.2.1, q.2.2.1⟩))
        have HM9 := Aside0.mk (HM8.out.step hb9)
        have HB9 := Aside0.mk hb9
        have HBX := Aside0.mk (show bx < w8.heap.size from blk_lt (HM8.out.mem (List.mem_cons_of_mem _ (List.mem_cons_of_mem _ List.mem_cons_self))))
        have hbw4 : bx < w4.heap.size := blk_lt (HM4.out.mem (List.mem_cons_of_mem _ List.mem_cons_self))
        have HNZ := Aside0.mk (show ¬ Z' bx from fun q => (HDO.out.2.2.2.2 bx q).elim H.out.nZ (fun q => by omega))
        have HZS := Aside0.mk (show w.heap.size ≤ w4.heap.size ∧ w4.heap.size ≤ w5.heap.size ∧ w5.heap.size ≤ w7.heap.size ∧ w7.heap.size ≤ w8.heap.size ∧ w8.heap.size ≤ w9.heap.size from ⟨HM4.out.below.size, HKD.out.1, HK57.out.1, HB8.out.size, hb9.size⟩)
        clear hrow hJ0 hJl0 hal hdn hd9 hR9 hb9 hbw4
        have HDO9 := Aside0.mk (show DOK out.1 d9 by have := HDN.out; rwa [if_pos (by omega)] at this)
        go_wp2_with (first | ((with_reducible refine gate_dst (N := 67) rfl ?_); refine rw_load rfl 29 rfl rfl HM9.out List.mem_cons_self _ Try.underlying29 rfl (by kernel_rfl) ?_) | (refine rw_storeS rfl 29 rfl rfl (cs' := #[.slice A15 out.1.img.length c15, .slice A16 out.1.L.length c16]) rfl [_, _] HM9.out (by kernel_rfl) rfl (by show _ = _; simp [Value.oneCell']) ?_; intro w10 hM hk3; have HM10 := Aside0.mk hM; have HK10 := Aside0.mk hk3; clear hM hk3))
        have hR10 := Kd.R_kept HR9.out HK10.out (fun k q e => by have := HBX.out; have := q.1; omega)
        have hd10 := ((((HDO.out.2.1.bound).kept HK57.out (fun _ _ q => q)).step HB8.out).step HB9.out).kept HK10.out (fun k q e => HNZ.out (e ▸ q.1))
        have HR10 := Aside0.mk hR10
        have HDX := Aside0.mk hd10
        have HBB := Aside0.mk (show bx < w10.heap.size from blk_lt (HM10.out.mem (List.mem_cons_of_mem _ (List.mem_cons_of_mem _ List.mem_cons_self))))
        obtain ⟨J, hJe, hJ, hJl, hJr⟩ := HDO9.out
        have hop := (show Inv nm out.1 from HIO.out).opens J hJ (by rw [← hJe]; exact hJl)
        rw [← hJe] at hop
        have HOP := Aside0.mk hop
        have HJR := Aside0.mk hJr
        have HJL := Aside0.mk hJl
        clear hR10 hd10 hJe hJ hJl hJr hop
        refine (slices_Clone_byte_byte.calls A9 c9 d9 d9 w10 (Kd.R_reads' HR10.out).2.2 (Kd.R_reads' HR10.out).2.1 (by unfold slices_Clone_byte_byte.f; rw [if_pos (by have := HJL.out; omega)])).mono ?_
        rintro e_ w11 ⟨v11, rfl, hR, hb⟩
        obtain ⟨A11, c11, e11⟩ := Kd.R_slice hR
        subst e11
        have HR11 := Aside0.mk hR
        replace HR10 := Aside0.mk (Kd.R_below HR10.out hb)
        replace HDX := Aside0.mk (HDX.out.step hb)
        have HM11 := Aside0.mk (HM10.out.step hb)
        have HZ11 := Aside0.mk hb.size
        clear hR hb
        go_wp2_with fail
        refine (Open_st KK nm HK.out.st A11 c11 d9 w11 (Kd.R_reads' HR11.out).2.2 (Kd.R_reads' HR11.out).2.1 HJR.out).mono ?_
        rintro e_ w12 ⟨hb, hp⟩
        rw [HOP.out] at hp
        obtain ⟨g2, rfl, ht⟩ := hp
        have hz0 : w.heap.size ≤ w11.heap.size := HM11.out.below.size
        replace HR10 := Aside0.mk (Kd.R_below HR10.out hb)
        replace HDX := Aside0.mk (HDX.out.step hb)
        have HM12 := Aside0.mk (HM11.out.step hb)
        have hsz := HZS.out
        have hz10 : w9.heap.size ≤ w10.heap.size := HK10.out.1
        have HN := Aside0.mk (show LSt w bx g2 out.1 #[.slice A15 out.1.img.length c15, .slice A16 out.1.L.length c16] (fun k => w11.heap.size ≤ k ∧ k < w12.heap.size) (fun k => Z' k ∧ k < w5.heap.size) w12 from ⟨HM12.out.single (List.mem_cons_of_mem _ (List.mem_cons_of_mem _ List.mem_cons_self)), ht.lower hz0, HDX.out, fun k q1 q2 => by have h1 := q1.2; have := HZ11.out; omega, fun q => by have := HBB.out; have := HZ11.out; omega, fun q => HNZ.out q.1⟩)
        have HDN2 := Aside0.mk (show Kd.R (Kd.int .u8) 5 w12 w.heap.size (fun k => w8.heap.size ≤ k ∧ k < w9.heap.size) (.slice A9 d9.length c9) d9 ∧ (∀ k, (w8.heap.size ≤ k ∧ k < w9.heap.size) → ¬ (w11.heap.size ≤ k ∧ k < w12.heap.size)) ∧ ¬ (w8.heap.size ≤ bx ∧ bx < w9.heap.size) from ⟨Kd.R_lower HR10.out (by omega), fun k q1 q2 => by have := HZ11.out; omega, fun q => by have := HBX.out; omega⟩)
        clear hb ht hz0 hsz hz10 HDX HR10 HR11 HM11 HM10
        have hcx0 := blk_cell (HN.out.rows.mem List.mem_cons_self) 0
        have hcx1 := blk_cell (HN.out.rows.mem List.mem_cons_self) 1
        have HIN := Aside0.mk (show Inv nm out.1 from HIO.out)
        go_wp2_with fail
        refine (alike_st KK nm HK.out.st HIN.out.good HN.out.st HN.out.dt).mono ?_
        rintro e_ w13 ⟨rfl, hb⟩
        replace HN := Aside0.mk (HN.out.step hb)
        have HDN3 := Aside0.mk (And.intro (Kd.R_below HDN2.out.1 hb) HDN2.out.2)
        clear hb hcx0 hcx1
        go_wp2_with fail
        go_roundw
        case rel => exact ⟨i + 1, g2, out.1, _, _, _, d9, A9, c9, _, (by rw [HRW.out]), rfl, rfl, HIL.out, HN, HIN, HDN3, HDO9⟩
        case measure => rw [HRW.out]; have := HIL.out; show ((l0.length : Int) - ((i + 1 : Nat) : Int)).toNat < ((l0.length : Int) - (i : Int)).toNat; omega
    · have c2b : decide ((i : Int) < (l0.length : Int)) = false := decide_eq_false (by omega)
      have c2c : decide (i < l0.length) = false := decide_eq_false c2_
      obtain ⟨Ax, cx, Ay, cy, ecs, _⟩ := H.out.dt.now
      injection ecs with ecs
      subst ecs
      have HMR := Aside0.mk H.out.rows
      go_wp2_with (first | ((with_reducible refine gate_dst (N := 85) rfl ?_); refine rw_load rfl 29 rfl rfl HMR.out List.mem_cons_self _ Try.underlying29 rfl (by kernel_rfl) ?_))
      refine (alike_st KK nm HK.out.st HI.out.good H.out.st H.out.dt).mono ?_
      rintro e_ w4 ⟨rfl, hb⟩
      have HB := Aside0.mk (below_step H.out.rows.below hb)
      clear hb
      go_wp2_with fail
      go_ret
      exact ⟨rfl, HB.out⟩
end
end Go.Proofs.Ytfakdphkklclgaa.P

end

section
namespace Go.Proofs.Ytfakdphkklclgaa.P
open Go.RowKit Go.Proofs.YtfakdphkklclgaaW.PrintWords
def provisolaw21_StoreTorn.Pure : Prop := ∀ (l0 : List (S37)) (l1 : List (Int)), (fun l : List (S37) => l.length ≤ 9223372036854775807 ∧ l.length * 48 ≤ 140737488351232 ∧ ∀ x ∈ l, Ok37 x) l0 → (fun l : List (Int) => l.length ≤ 9223372036854775807 ∧ l.length * 8 ≤ 140737488351232 ∧ ∀ x ∈ l, (fun n : Int => (Lit.int .i64 n).wf = true) x) l1 → provisolaw21_StoreTorn.Facts l0 l1
end Go.Proofs.Ytfakdphkklclgaa.P

end

section
namespace Go.Proofs.Ytfakdphkklclgaa.P
open Go.RowKit Go.Proofs.YtfakdphkklclgaaW.PrintWords Go.Proofs.YtfakdphkklclgaaW.PrintLast Go.Proofs.YtfakdphkklclgaaW.PrintMore
set_option linter.unusedVariables false
set_option linter.unusedSimpArgs false
def sgn (i c : Int) : Bool :=
  (decide (97 ≤ c) && decide (c ≤ 122)) || (decide (65 ≤ c) && decide (c ≤ 90)) || (decide (0 < i) && ((decide (48 ≤ c) && decide (c ≤ 57)) || decide (c = 95)))
def tailName (s : ByteArray) : Nat → Bool
  | 0 => true
  | d + 1 => sgn ((s.size : Int) - (d + 1)) (bt s ((s.size : Int) - (d + 1))) && tailName s d
def isNameB (s : ByteArray) : Bool := decide (1 ≤ s.size) && decide (s.size ≤ 24) && tailName s s.size
theorem name_tells (s : ByteArray) (hn : s.size ≤ 140737488351232) (d : Nat) : ∀ (k : Nat) (i : Int), 0 ≤ i → i ≤ s.size → (s.size : Int) - i = d → 3 * d < k → wire_IsName.l0 k s (s.size : Int) i = some (tailName s d) := by
  induction d with
  | zero =>
    intro k i h0 h1 hd hk
    obtain ⟨k, rfl⟩ : ∃ m, k = m + 1 := ⟨k - 1, by omega⟩
    simp only [wire_IsName.l0]; rw [if_neg (by omega)]; rfl
  | succ d ih =>
    intro k i h0 h1 hd hk
    obtain ⟨k, rfl⟩ : ∃ m, k = m + 3 := ⟨k - 3, by omega⟩
    have hlt : i < (s.size : Int) := by omega
    have hi : (s.size : Int) - (d + 1) = i := by omega
    have hw : wrap64 (i + 1) = i + 1 := by unfold wrap64; omega
    have h := ih k (i + 1) (by omega) (by omega) (by omega) (by omega)
    simp only [wire_IsName.l0, wire_IsName.j2, wire_IsName.j3, tailName, hi]
    rw [if_pos hlt, if_pos h0, if_pos hlt, hw]
    have h' : wire_IsName.l0 k s (s.size : Int) (i + 1) = some (tailName s d) := h
    rw [h']
    generalize bt s i = c
    generalize tailName s d = t
    by_cases a1 : 97 ≤ c <;> by_cases a2 : c ≤ 122 <;> by_cases a3 : 65 ≤ c <;> by_cases a4 : c ≤ 90 <;> by_cases a5 : 0 < i <;> by_cases a6 : 48 ≤ c <;> by_cases a7 : c ≤ 57 <;> by_cases a8 : c = 95 <;> (try omega) <;> simp [sgn, a1, a2, a3, a4, a5, a6, a7, a8]
theorem name_100 (s : ByteArray) : wire_IsName.f 100 s = some (isNameB s) := by
  unfold wire_IsName.f isNameB
  by_cases a1 : (s.size : Int) = 0
  · rw [if_pos a1, decide_eq_false (by omega)]
    simp [wire_IsName.j0]
  · rw [if_neg a1, decide_eq_true (by omega : 1 ≤ s.size)]
    by_cases a3 : (s.size : Int) > 24
    · rw [decide_eq_true a3, decide_eq_false (by omega : ¬ s.size ≤ 24)]
      simp [wire_IsName.j0]
    · rw [decide_eq_false a3, decide_eq_true (by omega : s.size ≤ 24)]
      have h1 := name_tells s (by omega) s.size 99 0 (by omega) (by omega) (by omega) (by omega)
      simp only [wire_IsName.j0]
      rw [if_neg (by simp)]
      rw [show wire_IsName.l0 99 s (s.size : Int) 0 = some (tailName s s.size) from h1]
      simp
theorem equal_self (xs : List Int) (hl : xs.length ≤ 9223372036854775807) : ∀ (d i k : Nat), i + d = xs.length → d < k → slices_Equal_byte_byte.l0 k xs xs (xs.length : Int) (i : Int) = some true
  | 0, i, k, hd, hk => by
    obtain ⟨k, rfl⟩ : ∃ m, k = m + 1 := ⟨k - 1, by omega⟩
    simp only [slices_Equal_byte_byte.l0]
    rw [if_neg (by omega)]
  | d + 1, i, k, hd, hk => by
    obtain ⟨k, rfl⟩ : ∃ m, k = m + 1 := ⟨k - 1, by omega⟩
    have hw : wrap64 ((i : Int) + 1) = ((i + 1 : Nat) : Int) := by unfold wrap64; omega
    have ih := equal_self xs hl d (i + 1) k (by omega) (by omega)
    simp only [slices_Equal_byte_byte.l0]
    rw [if_pos (by omega), if_pos (by omega), if_pos (by omega), if_pos (by omega), if_pos trivial, hw]
    exact ih
theorem equal_is (xs : List Int) (hl : xs.length ≤ 9223372036854775807) (k : Nat) (hk : xs.length < k) : slices_Equal_byte_byte.f k xs xs = some true := by
  unfold slices_Equal_byte_byte.f
  rw [if_pos rfl]
  exact equal_self xs hl xs.length 0 k (by omega) hk
end Go.Proofs.Ytfakdphkklclgaa.P


end

section
namespace Go.Proofs.Ytfakdphkklclgaa.Pure
open Go.RowKit Go.Proofs.Ytfakdphkklclgaa.P Go.Proofs.YtfakdphkklclgaaW.PrintWords Go.Proofs.YtfakdphkklclgaaW.PrintLast Go.Proofs.YtfakdphkklclgaaW.PrintMore
set_option linter.unusedSimpArgs false
set_option linter.unusedVariables false
theorem ref_tells (s : ByteArray) (hn : s.size ≤ 140737488351232) (d : Nat) : ∀ (k : Nat) (i : Int), 0 ≤ i → i ≤ s.size → (s.size : Int) - i = d → d < k →
    provisoref01_IsName.l0 k s i = some (tailName s d) := by
  induction d with
  | zero =>
    intro k i h0 h1 hd hk
    obtain ⟨k, rfl⟩ : ∃ m, k = m + 1 := ⟨k - 1, by omega⟩
    simp only [provisoref01_IsName.l0]; rw [if_neg (by omega)]; rfl
  | succ d ih =>
    intro k i h0 h1 hd hk
    obtain ⟨k, rfl⟩ : ∃ m, k = m + 1 := ⟨k - 1, by omega⟩
    have hlt : i < (s.size : Int) := by omega
    have hi : (s.size : Int) - (d + 1) = i := by omega
    have hw : wrap64 (i + 1) = i + 1 := by unfold wrap64; omega
    have h := ih k (i + 1) (by omega) (by omega) (by omega) (by omega)
    simp only [provisoref01_IsName.l0, tailName, hi]
    rw [if_pos hlt, if_pos h0, hw, h]
    generalize bt s i = c
    generalize tailName s d = t
    by_cases a1 : 97 ≤ c <;> by_cases a2 : c ≤ 122 <;> by_cases a3 : 65 ≤ c <;> by_cases a4 : c ≤ 90 <;> by_cases a5 : i = 0 <;> by_cases a6 : c < 48 <;> by_cases a7 : 57 < c <;> by_cases a8 : c = 95 <;> (try omega) <;> simp [sgn, a1, a2, a3, a4, a5, a6, a7, a8] <;> omega
theorem ref_100 (s : ByteArray) : provisoref01_IsName.f 100 s = some (isNameB s) := by
  unfold provisoref01_IsName.f isNameB
  by_cases a1 : (s.size : Int) < 1
  · rw [if_pos a1, decide_eq_false (by omega : ¬ 1 ≤ s.size)]
    simp [provisoref01_IsName.j0]
  · rw [if_neg a1, decide_eq_true (by omega : 1 ≤ s.size)]
    by_cases a3 : (s.size : Int) > 24
    · rw [decide_eq_true a3, decide_eq_false (by omega : ¬ s.size ≤ 24)]
      simp [provisoref01_IsName.j0]
    · rw [decide_eq_false a3, decide_eq_true (by omega : s.size ≤ 24)]
      have h1 := ref_tells s (by omega) s.size 99 0 (by omega) (by omega) (by omega) (by omega)
      simp only [provisoref01_IsName.j0]
      rw [if_neg (by simp), h1]
      simp
theorem name_K (s : ByteArray) (K : Nat) (h : 100 ≤ K) : wire_IsName.f K s = some (isNameB s) := at_rounds (wire_IsName.mono s) h (name_100 s)
theorem ref_K (s : ByteArray) (K : Nat) (h : 100 ≤ K) : provisoref01_IsName.f K s = some (isNameB s) := at_rounds (provisoref01_IsName.mono s) h (ref_100 s)
theorem seg_zero (bs : List Int) (a : Nat) : seg bs a 0 = [] := by
  unfold seg
  rw [Nat.add_zero]
  exact List.drop_of_length_le (by rw [List.length_take]; omega)
theorem seg_succ (bs : List Int) (a j : Nat) (h : a + j < bs.length) : seg bs a (j + 1) = seg bs a j ++ [rd bs ((a + j : Nat) : Int)] := by
  have hr : rd bs ((a + j : Nat) : Int) = bs[a + j] := by
    unfold rd
    rw [Int.toNat_natCast, List.getD_eq_getElem?_getD, List.getElem?_eq_getElem h]
    rfl
  unfold seg
  rw [hr, show a + (j + 1) = a + j + 1 by omega, List.take_succ_eq_append_getElem h, List.drop_append_of_le_length (by rw [List.length_take]; omega)]
theorem rd_in (bs : List Int) (h : ∀ x ∈ bs, 0 ≤ x ∧ x ≤ 255) (a : Nat) (ha : a < bs.length) : 0 ≤ rd bs (a : Int) ∧ rd bs (a : Int) ≤ 255 := by
  have hr : rd bs (a : Int) = bs[a] := by simp [rd, List.getD_eq_getElem?_getD, ha]
  rw [hr]
  exact h _ (List.getElem_mem ha)
theorem numOf_snoc (xs : List Int) (x : Int) : numOf (xs ++ [x]) = numOf xs * 256 + x := by
  unfold numOf
  rw [List.foldl_append]
  rfl
theorem num_loop (bs : List Int) (hby : ∀ x ∈ bs, 0 ≤ x ∧ x ≤ 255) (hl : bs.length ≤ 140737488351232) (a k : Nat) (hk4 : k ≤ 4) (ha : a + k ≤ bs.length) : ∀ (d j K : Nat), j + d = k → 0 ≤ numOf (seg bs a j) → numOf (seg bs a j) < 256 ^ j → provisoref01_Number.l0 (K + d + 1) bs (a : Int) (k : Int) (numOf (seg bs a j)) (j : Int) = some (valR k (seg bs a k), ((a + k : Nat) : Int), 0)
  | 0, j, K, hj, h0, h1 => by
    obtain rfl : j = k := by omega
    have w1 : wrap64 ((a : Int) + (j : Int)) = ((a + j : Nat) : Int) := by unfold wrap64; omega
    simp only [provisoref01_Number.l0]
    rw [if_neg (by omega), w1]
    unfold valR signOf
    by_cases c : j = 4
    · subst c
      rw [if_pos (by rfl), if_pos rfl]
      by_cases c2 : numOf (seg bs a 4) < 2147483648
      · rw [if_neg (by omega), if_pos c2]
      · have h2 : numOf (seg bs a 4) < 4294967296 := h1
        have w2 : wrap64 (numOf (seg bs a 4) - 4294967296) = numOf (seg bs a 4) - 4294967296 := by unfold wrap64; omega
        rw [if_pos (by omega), if_neg c2, w2]
    · rw [if_neg (by omega), if_neg c]
  | d + 1, j, K, hj, h0, h1 => by
    have hlt : a + j < bs.length := by omega
    have hr := rd_in bs hby (a + j) hlt
    have hp : (256 : Int) ^ j ≤ 16777216 := by
      have h3 : j = 0 ∨ j = 1 ∨ j = 2 ∨ j = 3 := by omega
      rcases h3 with rfl | rfl | rfl | rfl <;> decide
    have hs : numOf (seg bs a (j + 1)) = numOf (seg bs a j) * 256 + rd bs ((a + j : Nat) : Int) := by rw [seg_succ bs a j hlt, numOf_snoc]
    have h2 : 0 ≤ numOf (seg bs a (j + 1)) ∧ numOf (seg bs a (j + 1)) < 256 ^ (j + 1) := by rw [hs, Int.pow_succ]; omega
    have ih := num_loop bs hby hl a k hk4 ha d (j + 1) K (by omega) h2.1 h2.2
    have w1 : wrap64 ((a : Int) + (j : Int)) = ((a + j : Nat) : Int) := by unfold wrap64; omega
    have w2 : wrap64 ((j : Int) + 1) = ((j + 1 : Nat) : Int) := by unfold wrap64; omega
    generalize hq : numOf (seg bs a j) = q at h0 h1 hs ⊢
    generalize hz : rd bs ((a + j : Nat) : Int) = z at hr hs
    have w3 : wrap64 (q * 256) = q * 256 := by unfold wrap64; omega
    have w4 : wrap64 z = z := by unfold wrap64; omega
    have w5 : wrap64 (q * 256 + z) = q * 256 + z := by unfold wrap64; omega
    rw [show K + (d + 1) + 1 = (K + d + 1) + 1 by omega]
    unfold provisoref01_Number.l0
    rw [if_pos (by omega), w1, if_pos (by omega), if_pos (by omega), hz, w4, w3, w5, w2, ← hs]
    exact ih
theorem num_is (K k : Nat) (bs : List Int) (a : Nat) (hk : k = 1 ∨ k = 2 ∨ k = 4) (hK : 6 ≤ K) (hby : ∀ x ∈ bs, 0 ≤ x ∧ x ≤ 255) (hl : bs.length ≤ 140737488351232) (ha : a ≤ bs.length) : provisoref01_Number.f K bs (a : Int) (k : Int) = some ((numR k bs a).1, ((numR k bs a).2.1 : Int), (numR k bs a).2.2) := by
  have w1 : wrap64 ((bs.length : Int) - (a : Int)) = (bs.length : Int) - (a : Int) := by unfold wrap64; omega
  unfold provisoref01_Number.f numR
  rw [w1]
  by_cases c : bs.length < a + k
  · rw [if_pos (by omega), if_pos c]
  · rw [if_neg (by omega), if_neg c]
    obtain ⟨m, rfl⟩ : ∃ m, K = m + k + 1 := ⟨K - k - 1, by omega⟩
    have h := num_loop bs hby hl a k (by omega) (by omega) k 0 m (by omega)
    rw [seg_zero] at h
    exact h (by decide) (by decide)
theorem take_loop (bs : List Int) (hl : bs.length ≤ 140737488351232) (a n : Nat) (ha : a + n ≤ bs.length) : ∀ (d j K : Nat), j + d = n → provisoref01_Take.l0 (K + d + 1) bs (a : Int) (n : Int) (seg bs a j) (j : Int) = some (seg bs a n, ((a + n : Nat) : Int), 0)
  | 0, j, K, hj => by
    obtain rfl : j = n := by omega
    have w1 : wrap64 ((a : Int) + (j : Int)) = ((a + j : Nat) : Int) := by unfold wrap64; omega
    simp only [provisoref01_Take.l0]
    rw [if_neg (by omega), w1]
  | d + 1, j, K, hj => by
    have hlt : a + j < bs.length := by omega
    have hs := seg_succ bs a j hlt
    have ih := take_loop bs hl a n ha d (j + 1) K (by omega)
    have w1 : wrap64 ((a : Int) + (j : Int)) = ((a + j : Nat) : Int) := by unfold wrap64; omega
    have w2 : wrap64 ((j : Int) + 1) = ((j + 1 : Nat) : Int) := by unfold wrap64; omega
    have hsl : (seg bs a j).length = j := seg_len bs a j (by omega)
    rw [show K + (d + 1) + 1 = (K + d + 1) + 1 by omega]
    unfold provisoref01_Take.l0
    rw [if_pos (by omega), w1, if_pos (by omega), if_pos (by omega), hsl, if_pos (by omega), w2, ← hs]
    exact ih
theorem take_is (K : Nat) (bs : List Int) (a : Nat) (n : Int) (hK : 140737488355328 ≤ K) (hl : bs.length ≤ 140737488351232) (ha : a ≤ bs.length) : provisoref01_Take.f K bs (a : Int) n = some ((takeR bs a n).1, ((takeR bs a n).2.1 : Int), (takeR bs a n).2.2) := by
  have w1 : wrap64 ((bs.length : Int) - (a : Int)) = (bs.length : Int) - (a : Int) := by unfold wrap64; omega
  unfold provisoref01_Take.f takeR
  by_cases c : n < 0
  · rw [if_pos c, if_pos c]
  · rw [if_neg c, if_neg c, w1]
    by_cases c2 : n > (bs.length : Int) - (a : Int)
    · rw [if_pos (by omega), if_pos c2]
    · rw [if_neg (by omega), if_neg c2]
      obtain ⟨k, rfl⟩ : ∃ k : Nat, n = (k : Int) := ⟨n.toNat, by omega⟩
      rw [Int.toNat_natCast]
      obtain ⟨m, rfl⟩ : ∃ m, K = m + k + 1 := ⟨K - k - 1, by omega⟩
      have h := take_loop bs hl a k (by omega) k 0 m (by omega)
      rw [seg_zero] at h
      exact h
theorem rd_facts (K : Nat) (hK : 140737488355328 ≤ K) : RdFacts K isNameB := ⟨fun k bs a hk hby hl ha => num_is K k bs a hk (by omega) hby hl ha, fun bs a n _ hl ha => take_is K bs a n hK hl ha, fun s => name_K s K (by omega), fun s => ref_K s K (by omega), fun xs hl => equal_is xs (by omega) K (by omega)⟩

theorem isName_siz (x : ByteArray) (h : isNameB x = true) : 1 ≤ x.size ∧ x.size ≤ 24 := by
  unfold isNameB at h
  simp only [Bool.and_eq_true, decide_eq_true_eq] at h
  omega
theorem pos_le (x : ByteArray) (L : List S101) : posL x L ≤ L.length := by unfold posL; exact (List.takeWhile_sublist _).length_le
theorem place_step (x : ByteArray) (k : S101) (l : List S101) (h : lessB k.f0 x = true) : posL x (k :: l) = posL x l + 1 := by
  unfold posL
  rw [List.takeWhile_cons_of_pos (p := fun k : S101 => lessB k.f0 x) h]
  rfl
theorem place_stop (x : ByteArray) (k : S101) (l : List S101) (h : ¬ lessB k.f0 x = true) : posL x (k :: l) = 0 := by
  unfold posL
  rw [List.takeWhile_cons_of_neg (p := fun k : S101 => lessB k.f0 x) h]
  rfl
theorem place_loop (x : ByteArray) : ∀ (d : Nat) (pre L : List S101) (k : Nat), L.length = d → (pre ++ L).length ≤ 1000 → d < k → Srt L → provisoref21_place.l0 k (pre ++ L) x (pre.length : Int) = some (((pre.length + posL x L : Nat) : Int), (lkL L x).isSome) := by
  intro d
  induction d with
  | zero =>
    intro pre L k hd hl hk _
    obtain ⟨k, rfl⟩ : ∃ m, k = m + 1 := ⟨k - 1, by omega⟩
    have e : L = [] := List.length_eq_zero_iff.1 hd
    subst e
    simp only [provisoref21_place.l0]
    rw [if_neg (by simp)]
    simp [posL, lkL]
  | succ d ih =>
    intro pre L k hd hl hk hs
    obtain ⟨k, rfl⟩ : ∃ m, k = m + 1 := ⟨k - 1, by omega⟩
    cases L with
    | nil => cases hd
    | cons a l =>
      have hl' : l.length = d := by simpa using hd
      rw [List.length_append, List.length_cons] at hl
      have hrd : rd_T101 (pre ++ a :: l) (pre.length : Int) = a := by
        unfold rd_T101
        rw [Int.toNat_natCast, List.getD_eq_getElem?_getD, List.getElem?_append_right (Nat.le_refl _), Nat.sub_self]
        rfl
      simp only [provisoref21_place.l0]
      rw [if_pos (by simp; omega), if_pos (by omega), hrd]
      by_cases c : lessB a.f0 x = true
      · rw [if_pos (show Op.bytesLess a.f0.toList x.toList = true from c)]
        have hw : wrap64 ((pre.length : Int) + 1) = ((pre ++ [a]).length : Int) := by
          rw [List.length_append, List.length_singleton]
          unfold wrap64
          omega
        have h := ih (pre ++ [a]) l k hl' (by simp; omega) (by omega) (List.pairwise_cons.1 hs).2
        rw [List.append_assoc, List.singleton_append] at h
        rw [hw, h, place_step x a l c]
        have hne : a.f0 ≠ x := fun e => by rw [e, lessB_irr] at c; cases c
        conv => rhs; unfold lkL
        rw [if_neg hne]
        simp; omega
      · rw [if_neg (show ¬ Op.bytesLess a.f0.toList x.toList = true from c), place_stop x a l c]
        by_cases c2 : a.f0 = x
        · rw [c2]
          conv => rhs; unfold lkL
          rw [if_pos c2]
          simp
        · rw [srt_head hs c c2]
          have : (a.f0.toList == x.toList) = false := beq_eq_false_iff_ne.mpr (fun e => c2 (data_inj (by rw [← Lib.toList_data, ← Lib.toList_data]; exact e)))
          rw [this]
          rfl
theorem place_is (K : Nat) (hK : 2000 ≤ K) (L : List S101) (x : ByteArray) (hl : L.length ≤ 17) (hs : Srt L) : provisoref21_place.f K L x = some ((posL x L : Int), (lkL L x).isSome) := by
  have h := place_loop x L.length [] L K rfl (by simpa using by omega) (by omega) hs
  unfold provisoref21_place.f
  simpa using h
theorem put_take (x : ByteArray) (b : List Int) (L : List S101) : putL x b L = L.take (posL x L) ++ [⟨x, b⟩] ++ (match L.drop (posL x L) with | [] => [] | k :: l => if k.f0 = x then l else k :: l) := by
  induction L with
  | nil => rfl
  | cons k l ih =>
    unfold putL
    by_cases c : lessB k.f0 x = true
    · rw [if_pos c, place_step x k l c, ih]
      simp
    · rw [if_neg c, place_stop x k l c]
      simp only [List.take_zero, List.drop_zero, List.nil_append, List.singleton_append]
      split <;> rfl
theorem cut_take (x : ByteArray) (L : List S101) : cutL x L = L.take (posL x L) ++ (match L.drop (posL x L) with | [] => [] | k :: l => if k.f0 = x then l else k :: l) := by
  induction L with
  | nil => rfl
  | cons k l ih =>
    unfold cutL
    by_cases c : lessB k.f0 x = true
    · rw [if_pos c, place_step x k l c, ih]
      simp
    · rw [if_neg c, place_stop x k l c]
      simp only [List.take_zero, List.drop_zero, List.nil_append]
      try (split <;> rfl)
theorem drop_pos (x : ByteArray) (L : List S101) (hs : Srt L) : (match L.drop (posL x L) with | [] => [] | k :: l => if k.f0 = x then l else k :: l) = if (lkL L x).isSome = true then L.drop (posL x L + 1) else L.drop (posL x L) := by
  induction L with
  | nil => simp [posL, lkL]
  | cons k l ih =>
    by_cases c : lessB k.f0 x = true
    · rw [place_step x k l c]
      have hne : k.f0 ≠ x := fun e => by rw [e, lessB_irr] at c; cases c
      have h := ih (List.pairwise_cons.1 hs).2
      conv => rhs; unfold lkL
      rw [if_neg hne]
      simpa using h
    · rw [place_stop x k l c]
      by_cases c2 : k.f0 = x
      · conv => rhs; unfold lkL
        rw [if_pos c2]
        simp [c2]
      · rw [srt_head hs c c2]
        simp [c2]
theorem there_lt (x : ByteArray) (L : List S101) (h : (lkL L x).isSome = true) (hs : Srt L) : posL x L < L.length := by
  induction L with
  | nil => cases h
  | cons k l ih =>
    by_cases c : lessB k.f0 x = true
    · have hne : k.f0 ≠ x := fun e => by rw [e, lessB_irr] at c; cases c
      unfold lkL at h
      rw [if_neg hne] at h
      rw [place_step x k l c]
      have := ih h (List.pairwise_cons.1 hs).2
      simpa using this
    · rw [place_stop x k l c]
      simp
theorem with_is (K : Nat) (hK : 2000 ≤ K) (L : List S101) (x : ByteArray) (b : List Int) (hl : L.length ≤ 17) (hs : Srt L) : provisoref21_with.f K L x b = some (putL x b L) := by
  have hp := pos_le x L
  have hw : wrap64 ((posL x L : Int) + 1) = ((posL x L + 1 : Nat) : Int) := by unfold wrap64; omega
  unfold provisoref21_with.f
  rw [place_is K hK L x hl hs, put_take x b L, drop_pos x L hs]
  simp only [Option.bind_some, hw, Int.toNat_natCast]
  rw [if_pos (by omega), if_pos (by omega), if_pos (by simp; omega), if_pos (by simp; omega)]
  by_cases c : (lkL L x).isSome = true
  · have := there_lt x L c hs
    rw [if_pos c, if_pos c, if_pos (by omega), if_pos (by omega), if_pos (by simp; omega)]
    simp
  · rw [if_neg c, if_neg c, if_pos (by simp; omega)]
    simp
theorem without_is (K : Nat) (hK : 2000 ≤ K) (L : List S101) (x : ByteArray) (hl : L.length ≤ 17) (hs : Srt L) : provisoref21_without.f K L x = some (cutL x L) := by
  have hp := pos_le x L
  have hw : wrap64 ((posL x L : Int) + 1) = ((posL x L + 1 : Nat) : Int) := by unfold wrap64; omega
  unfold provisoref21_without.f
  rw [place_is K hK L x hl hs, cut_take x L, drop_pos x L hs]
  simp only [Option.bind_some, hw, Int.toNat_natCast]
  rw [if_pos (by omega), if_pos (by omega), if_pos (by simp; omega)]
  by_cases c : (lkL L x).isSome = true
  · have := there_lt x L c hs
    rw [if_pos c, if_pos c, if_pos (by omega), if_pos (by omega), if_pos (by simp; omega)]
    simp
  · rw [if_neg c, if_neg c, if_pos (by simp; omega)]
    simp
theorem eqs_loop (xs : List ByteArray) (hl : xs.length ≤ 1000) : ∀ (d i k : Nat), xs.length - i = d → i ≤ xs.length → d < k → slices_Equal_string_string.l0 k xs xs (xs.length : Int) (i : Int) = some true := by
  intro d
  induction d with
  | zero =>
    intro i k hd hi hk
    obtain ⟨k, rfl⟩ : ∃ m, k = m + 1 := ⟨k - 1, by omega⟩
    simp only [slices_Equal_string_string.l0]
    rw [if_neg (by omega)]
  | succ d ih =>
    intro i k hd hi hk
    obtain ⟨k, rfl⟩ : ∃ m, k = m + 1 := ⟨k - 1, by omega⟩
    have hw : wrap64 ((i : Int) + 1) = ((i + 1 : Nat) : Int) := by unfold wrap64; omega
    simp only [slices_Equal_string_string.l0]
    rw [if_pos (by omega), if_pos (by omega), if_pos (by omega), if_pos (by omega), hw]
    simpa using ih (i + 1) k (by omega) (by omega) (by omega)
theorem eqs_is (K : Nat) (hK : 2000 ≤ K) (xs : List ByteArray) (hl : xs.length ≤ 17) : slices_Equal_string_string.f K xs xs = some true := by
  unfold slices_Equal_string_string.f
  rw [if_pos rfl]
  exact eqs_loop xs (by omega) xs.length 0 K (by omega) (by omega) (by omega)
theorem wr_loop (xs : List S52) (hl : xs.length ≤ 2) (hx : ∀ x ∈ xs, x.f1.length ≤ 2097152) : ∀ (d i k : Nat), xs.length - i = d → i ≤ xs.length → d + 2097160 < k → provisoplain_SameWrites.l0 k xs xs (xs.length : Int) (i : Int) = some true := by
  intro d
  induction d with
  | zero =>
    intro i k hd hi hk
    obtain ⟨k, rfl⟩ : ∃ m, k = m + 1 := ⟨k - 1, by omega⟩
    simp only [provisoplain_SameWrites.l0]
    rw [if_neg (by omega)]
  | succ d ih =>
    intro i k hd hi hk
    obtain ⟨k, rfl⟩ : ∃ m, k = m + 1 := ⟨k - 1, by omega⟩
    have hw : wrap64 ((i : Int) + 1) = ((i + 1 : Nat) : Int) := by unfold wrap64; omega
    have hm : (rd_T52 xs (i : Int)).f1.length ≤ 2097152 := by
      unfold rd_T52
      rw [Int.toNat_natCast, List.getD_eq_getElem?_getD, List.getElem?_eq_getElem (by omega)]
      exact hx _ (List.getElem_mem _)
    simp only [provisoplain_SameWrites.l0]
    rw [if_pos (by omega), if_pos (by omega), if_pos (by omega), if_pos (by omega), equal_is _ (by omega) k (by omega), hw]
    simpa using ih (i + 1) k (by omega) (by omega) (by omega)
theorem wr_is (K : Nat) (hK : 2097200 ≤ K) (xs : List S52) (hl : xs.length ≤ 2) (hx : ∀ x ∈ xs, x.f1.length ≤ 2097152) : provisoplain_SameWrites.f K xs xs = some true := by
  unfold provisoplain_SameWrites.f
  rw [if_pos rfl]
  exact wr_loop xs hl hx xs.length 0 K (by omega) (by omega) (by omega)
theorem st_facts : StFacts 140737488355328 isNameB := ⟨rd_facts _ (Nat.le_refl _), isName_siz, fun L x h1 h2 => place_is _ (by omega) L x h1 h2, fun L x b h1 h2 => with_is _ (by omega) L x b h1 h2, fun L x h1 h2 => without_is _ (by omega) L x h1 h2, fun xs h => eqs_is _ (by omega) xs h, fun ws h1 h2 => wr_is _ (by omega) ws h1 h2⟩
theorem l_facts : LFacts 140737488355328 isNameB := ⟨st_facts, fun l hl => untouched_is l (by omega) _ (by omega)⟩
theorem script_ok {l : List S37} (h : ∀ x ∈ l, Ok37 x) (i : Nat) (hi : i < l.length) : l[i].f1.size ≤ maxLen ∧ l[i].f2.length ≤ 140737488351232 ∧ ∀ z ∈ l[i].f2, 0 ≤ z ∧ z ≤ 255 := by
  have h1 := h _ (List.getElem_mem hi)
  unfold Ok37 at h1
  obtain ⟨_, h2, h3, h4, h5⟩ := h1
  refine ⟨by unfold maxLen; omega, by omega, fun z hz => ?_⟩
  have h6 := h5 z hz
  simp [Lit.wf, IntKind.min, IntKind.max, IntKind.signed, IntKind.bits] at h6
  omega
end Go.Proofs.Ytfakdphkklclgaa.Pure

end

section
namespace Go.Proofs.Ytfakdphkklclgaa.Pure
open Go.RowKit Go.Proofs.Ytfakdphkklclgaa.P Go.Proofs.YtfakdphkklclgaaW.PrintWords Go.Proofs.YtfakdphkklclgaaW.PrintLast Go.Proofs.YtfakdphkklclgaaW.PrintMore
set_option linter.unusedSimpArgs false
set_option linter.unusedVariables false
theorem tot_loop (ws : List S52) (hl : ws.length ≤ 2) (hx : ∀ x ∈ ws, x.f1.length ≤ 2097152) : ∀ (d i k : Nat) (acc : Nat), ws.length - i = d → i ≤ ws.length → acc + 2097152 * d ≤ 4194304 → d < k → provisolaw21_total.l0 k (acc : Int) ws (ws.length : Int) (i : Int) = some (((acc + totL (ws.drop i) : Nat)) : Int) := by
  intro d
  induction d with
  | zero =>
    intro i k acc hd hi _ hk
    obtain ⟨k, rfl⟩ : ∃ m, k = m + 1 := ⟨k - 1, by omega⟩
    simp only [provisolaw21_total.l0]
    rw [if_neg (by omega), List.drop_eq_nil_of_le (by omega)]
    simp [totL]
  | succ d ih =>
    intro i k acc hd hi ha hk
    obtain ⟨k, rfl⟩ : ∃ m, k = m + 1 := ⟨k - 1, by omega⟩
    have hlt : i < ws.length := by omega
    have hrd : rd_T52 ws (i : Int) = ws[i] := by unfold rd_T52; rw [Int.toNat_natCast, List.getD_eq_getElem?_getD, List.getElem?_eq_getElem hlt]; rfl
    have hb := hx _ (List.getElem_mem hlt)
    have hw : wrap64 ((i : Int) + 1) = ((i + 1 : Nat) : Int) := by unfold wrap64; omega
    have hw2 : wrap64 ((acc : Int) + (ws[i].f1.length : Int)) = ((acc + ws[i].f1.length : Nat) : Int) := by unfold wrap64; omega
    simp only [provisolaw21_total.l0]
    rw [if_pos (by omega), if_pos (by omega), if_pos (by omega), hrd, hw, hw2, ih (i + 1) k (acc + ws[i].f1.length) (by omega) (by omega) (by omega) (by omega), List.drop_eq_getElem_cons hlt]
    simp only [totL]
    rw [Nat.add_assoc]
theorem tot_is (K : Nat) (hK : 100 ≤ K) (ws : List S52) (hl : ws.length ≤ 2) (hx : ∀ x ∈ ws, x.f1.length ≤ 2097152) : provisolaw21_total.f K ws = some (totL ws : Int) := by
  have h := tot_loop ws hl hx ws.length 0 K 0 (by omega) (by omega) (by omega) (by omega)
  unfold provisolaw21_total.f
  simpa using h
theorem ovl_len (out : List Int) (a : Nat) (bs : List Int) (h : a ≤ out.length) : (ovl out a bs).length = max out.length (a + bs.length) := by
  unfold ovl
  simp
  omega
theorem take_snoc (bs : List Int) (j : Nat) (h : j < bs.length) : bs.take (j + 1) = bs.take j ++ [rd bs (j : Int)] := by
  rw [List.take_succ_eq_append_getElem h]
  unfold rd
  rw [Int.toNat_natCast, List.getD_eq_getElem?_getD, List.getElem?_eq_getElem h]
  rfl
theorem ovl_app1 (out : List Int) (a : Nat) (bs : List Int) (x : Int) (ha : a ≤ out.length) (h : a + bs.length = (ovl out a bs).length) : ovl out a bs ++ [x] = ovl out a (bs ++ [x]) := by
  rw [ovl_len out a bs ha] at h
  unfold ovl
  rw [List.drop_eq_nil_of_le (by omega), List.drop_eq_nil_of_le (by simp; omega)]
  simp
theorem ovl_set (out : List Int) (a : Nat) (bs : List Int) (x : Int) (ha : a ≤ out.length) (h : a + bs.length < (ovl out a bs).length) : (ovl out a bs).set (a + bs.length) x = ovl out a (bs ++ [x]) := by
  rw [ovl_len out a bs ha] at h
  have hlt : a + bs.length < out.length := by omega
  unfold ovl
  have hl : (out.take a ++ bs).length = a + bs.length := by simp; omega
  rw [List.set_append_right _ _ (by omega), hl, Nat.sub_self, List.drop_eq_getElem_cons hlt, List.set_cons_zero, List.length_append, List.length_singleton]
  simp [Nat.add_assoc]
theorem w_add (a j : Nat) (h : a + j ≤ 100000000) : wrap64 ((a : Int) + (j : Int)) = ((a + j : Nat) : Int) := by unfold wrap64; omega
theorem w_dec (n j : Nat) (h : j < n) (hn : n ≤ 100000000) : wrap64 (((n - j : Nat) : Int) - 1) = ((n - (j + 1) : Nat) : Int) := by unfold wrap64; omega
theorem w_inc (j : Nat) (h : j ≤ 100000000) : wrap64 ((j : Int) + 1) = ((j + 1 : Nat) : Int) := by unfold wrap64; omega
theorem lay_in (out : List Int) (a : Nat) (ws : List S52) (W i : Int) (bs : List Int) (ha : a ≤ out.length) (ho : out.length ≤ 8388608) (hb : bs.length ≤ 2097152) (n : Nat) (hn : n ≤ 8388608) : ∀ (d j k : Nat), bs.length - j = d → j ≤ bs.length → j ≤ n →
    provisolaw21_lay.l1 (2 * d + 1 + k) (((n - j : Nat)) : Int) (ovl out a (bs.take j)) ws W i bs (bs.length : Int) (j : Int) (a : Int) bs = if n < bs.length then some (ovl out a (bs.take n)) else provisolaw21_lay.l0 k (((n - bs.length : Nat)) : Int) (ovl out a bs) ws W (wrap64 (i + 1)) := by
  intro d
  induction d with
  | zero =>
    intro j k hd hj hjn
    have e : j = bs.length := by omega
    subst e
    rw [show 2 * 0 + 1 + k = k + 1 by omega]
    simp only [provisolaw21_lay.l1]
    rw [if_neg (by omega), if_neg (by omega), List.take_length]
  | succ d ih =>
    intro j k hd hj hjn
    have hlt : j < bs.length := by omega
    rw [show 2 * (d + 1) + 1 + k = (2 * d + 1 + k + 1) + 1 by omega]
    simp only [provisolaw21_lay.l1]
    rw [if_pos (by omega), if_pos (by omega), if_pos (by omega)]
    by_cases c : j = n
    · subst c
      rw [if_pos (by omega), if_pos hlt]
    · rw [if_neg (by omega)]
      have htl : (bs.take j).length = j := by rw [List.length_take]; omega
      have hol := ovl_len out a (bs.take j) ha
      rw [htl] at hol
      have hsn := take_snoc bs j hlt
      rw [w_add a j (by omega), w_dec n j (by omega) (by omega), if_neg (by omega), decide_eq_false (by omega)]
      simp only [provisolaw21_lay.j2]
      rw [if_neg (by decide), w_inc j (by omega)]
      by_cases c2 : a + j = (ovl out a (bs.take j)).length
      · rw [if_pos (by omega), if_pos (by omega), ovl_app1 out a (bs.take j) _ ha (by rw [htl]; exact c2), ← hsn]
        exact ih (j + 1) k (by omega) (by omega) (by omega)
      · have hs := ovl_set out a (bs.take j) (rd bs (j : Int)) ha (by rw [htl]; omega)
        rw [htl, ← hsn] at hs
        rw [if_neg (by omega), if_pos (by omega), if_pos (by omega), Int.toNat_natCast, hs]
        exact ih (j + 1) k (by omega) (by omega) (by omega)
theorem layL_zero (ws : List S52) (out : List Int) : layL ws 0 out = out := by
  induction ws generalizing out with
  | nil => rfl
  | cons w ws ih =>
    simp only [layL]
    rw [Nat.zero_sub, List.take_zero, ovl_nil, ih]
theorem lay_out (a : Nat) (ws : List S52) (hx : ∀ x ∈ ws, x.f0 = (a : Int) ∧ x.f1.length ≤ 2097152) (hl : ws.length ≤ 2) : ∀ (d i k : Nat) (n : Nat) (out : List Int), ws.length - i = d → i ≤ ws.length → a ≤ out.length → out.length ≤ 1048576 + 2097152 * i → a ≤ 1048576 → n ≤ 8388608 → 4194400 * d < k → provisolaw21_lay.l0 k (n : Int) out ws (ws.length : Int) (i : Int) = some (layL (ws.drop i) n out) := by
  intro d
  induction d with
  | zero =>
    intro i k n out hd hi _ _ _ _ hk
    obtain ⟨k, rfl⟩ : ∃ m, k = m + 1 := ⟨k - 1, by omega⟩
    simp only [provisolaw21_lay.l0]
    rw [if_neg (by omega), List.drop_eq_nil_of_le (by omega)]
    rfl
  | succ d ih =>
    intro i k n out hd hi ha ho hA hn hk
    have hlt : i < ws.length := by omega
    have hrd : rd_T52 ws (i : Int) = ws[i] := by unfold rd_T52; rw [Int.toNat_natCast, List.getD_eq_getElem?_getD, List.getElem?_eq_getElem hlt]; rfl
    obtain ⟨hb0, hb⟩ := hx _ (List.getElem_mem hlt)
    obtain ⟨k, rfl⟩ : ∃ m, k = (2 * ws[i].f1.length + 1 + m) + 1 := ⟨k - 2 * ws[i].f1.length - 2, by omega⟩
    have h := lay_in out a ws (ws.length : Int) (i : Int) ws[i].f1 ha (by omega) hb n hn ws[i].f1.length 0 k (by omega) (by omega) (by omega)
    rw [List.take_zero, ovl_nil, Nat.sub_zero, w_inc i (by omega)] at h
    simp only [provisolaw21_lay.l0]
    rw [if_pos (by omega), if_pos (by omega), if_pos (by omega), hrd, hb0]
    have h' : provisolaw21_lay.l1 (2 * ws[i].f1.length + 1 + k) (n : Int) out ws (ws.length : Int) (i : Int) ws[i].f1 (ws[i].f1.length : Int) 0 (a : Int) ws[i].f1 = _ := h
    rw [h', List.drop_eq_getElem_cons hlt]
    simp only [layL]
    rw [hb0, Int.toNat_natCast]
    by_cases c : n < ws[i].f1.length
    · rw [if_pos c, show n - ws[i].f1.length = 0 by omega, layL_zero]
    · have hol := ovl_len out a ws[i].f1 ha
      rw [if_neg c, List.take_of_length_le (by omega)]
      exact ih (i + 1) k (n - ws[i].f1.length) _ (by omega) (by omega) (by omega) (by omega) hA (by omega) (by omega)
theorem lay_is (K : Nat) (hK : 10000000 ≤ K) (img : List Int) (a : Nat) (ws : List S52) (n : Nat) (hl : ws.length ≤ 2) (hx : ∀ x ∈ ws, x.f0 = (a : Int) ∧ x.f1.length ≤ 2097152) (ha : a ≤ img.length) (hi : img.length ≤ 1048576) (hn : n ≤ totL ws) : provisolaw21_lay.f K img ws (n : Int) = some (layL ws n img) := by
  have ht := tot_le ws hl (fun x h => (hx x h).2)
  have h := lay_out a ws hx hl ws.length 0 K n img (by omega) (by omega) ha (by omega) (by omega) (by omega) (by omega)
  unfold provisolaw21_lay.f slices_Clone_byte_byte.f
  rw [if_pos (by omega)]
  simpa using h
theorem t_facts : TFacts 140737488355328 isNameB := ⟨l_facts, fun ws h1 h2 => tot_is _ (by omega) ws h1 h2, fun img a ws n h1 h2 h3 h4 h5 => lay_is _ (by omega) img a ws n h1 h2 h3 h4 h5⟩
end Go.Proofs.Ytfakdphkklclgaa.Pure

end

section
namespace Go.Proofs.Ytfakdphkklclgaa.Pure
open Go.RowKit Go.Proofs.Ytfakdphkklclgaa.P Go.Proofs.YtfakdphkklclgaaW.PrintWords Go.Proofs.YtfakdphkklclgaaW.PrintLast Go.Proofs.YtfakdphkklclgaaW.PrintMore
set_option linter.unusedSimpArgs false
set_option linter.unusedVariables false
theorem StoreTorn : provisolaw21_StoreTorn.Pure := by
  intro l0 l1 h0 h1
  exact ⟨by have := h1.2.1; omega, ⟨140737488355328, isNameB, t_facts⟩, by have := h0.2.1; omega, fun i hi => script_ok h0.2.2 i hi⟩
end Go.Proofs.Ytfakdphkklclgaa.Pure

end

section
namespace Go.Proofs.Ytfakdphkklclgaa.storeTorn
open Go.ChangeShapes Go.WideShapes Go.ChangeAt Go.RowKit Go.Proofs.YtfakdphkklclgaaW.PrintWords Go.Proofs.Ytfakdphkklclgaa.Sees Go.Proofs.Ytfakdphkklclgaa.P
open Go.ChangeMaps (open_string shut_string)
set_option linter.unusedVariables false
set_option linter.unusedSimpArgs false
theorem own : ownKnob Try.prog.godebug = none := by kernel_rfl
theorem laidOut : laidOutB Try.prog = true := by kernel_rfl
set_option maxRecDepth 100000 in
theorem lifted (os : Os) (started : os.Started) (H : Type) (enc : TypeId × Value → H) (F : Stop.Interp) :
    ReturnsInHanded {} Try.checked os 7 .any ((Rows.OpenSpec.upto Rows.storeTornSpec).pre6 enc Try.prog Try.f7 Rows.storeTornUptoRow.domain false) (((Rows.OpenSpec.upto Rows.storeTornSpec).at F).post enc Try.prog Try.f7 false true false false) := by
  refine returnsInHanded_of_cond_sized (C := Try.checked) (s := Rows.OpenSpec.upto Rows.storeTornSpec) (k := Rows.uptoSmall) rfl own started (by kernel_rfl) Try.func7
    (OpenSpec.witness (enc := enc) (C := Try.checked) (s := Rows.OpenSpec.upto Rows.storeTornSpec) (k := Rows.uptoSmall) rfl false ⟨#[], #[.slice none 0 0, .slice none 0 0], []⟩ 8 (by kernel_rfl) (by kernel_rfl) (by kernel_rfl) (x := ([.nil, .nil], [], [])) (by kernel_rfl) rfl (by kernel_rfl)) ?_
  intro W base args ds gs before hval0 hW hcnd hcondk hsz0 _
  have hsz : (DataW.weightsEach Try.prog (Try.f7.params.toList ++ Rows.storeTornSpec.plain.varTypes Try.prog) (ds ++ gs)).all (· ≤ reachBytes) = true := hsz0
  have hval : ∀ (j : Nat) t v, Try.f7.params[j]? = some t → args[j]? = some v → Value.okWide Try.prog W .any base t v := hval0
  have hW' := hW
  obtain ⟨p, q, hA0, hV, rfl, hfz, hnd⟩ := hW
  have hA : DataW.TrodAll enc Try.prog W 0 (fun _ => true) true Try.f7.params.toList args.toList ds p := hA0
  rw [Try.params7] at hA hval hsz
  obtain ⟨v0, vs0, d0, ds0, p0, q0, hargs, rfl, rfl, h0, r0⟩ := trodAll_cons hA
  obtain ⟨v1, vs1, d1, ds1, p1, q1, rfl, rfl, rfl, h1, r1⟩ := trodAll_cons r0
  obtain ⟨rfl, rfl, rfl⟩ := trodAll_nil r1
  obtain rfl : args = #[v0, v1] := by cases args; simp_all
  obtain ⟨rfl, rfl⟩ := trodVars_none hV
  have k0 := h0
  have lt0 : ∀ x ∈ p0, x.block < W.heap.size := by obtain ⟨m, hm⟩ := k0; exact DataW.trod_lt m _ _ _ hm
  obtain ⟨y0, hy0, oy0⟩ := see_arg (j := 0) (t := 22) (sees_slice (B := 48) Try.underlying22 (by kernel_rfl) (by kernel_rfl) sees37) hsz rfl rfl h0
  obtain ⟨a0, len0, cap0, rfl⟩ := okWide_slice Try.underlying22 (hval 0 22 v0 rfl rfl)
  obtain ⟨rfl, hc0, hr0⟩ := see_slice rfl hy0
  have k1 := h1
  have lt1 : ∀ x ∈ p1, x.block < W.heap.size := by obtain ⟨m, hm⟩ := k1; exact DataW.trod_lt m _ _ _ hm
  obtain ⟨y1, hy1, oy1⟩ := see_arg (j := 1) (t := 73) (sees_slice (B := 8) Try.underlying73 (by kernel_rfl) (by kernel_rfl) (sees_int Try.underlying3)) hsz rfl rfl h1
  obtain ⟨a1, len1, cap1, rfl⟩ := okWide_slice Try.underlying73 (hval 1 73 v1 rfl rfl)
  obtain ⟨rfl, hc1, hr1⟩ := see_slice rfl hy1
  clear hA0 hval0 hsz0 hsz
  have hk := Pure.StoreTorn y0 y1 oy0 oy1
  refine (provisolaw21_StoreTorn.calls _ _ y0 _ _ y1 W hr0 hc0 hr1 hc1 hk).mono ?_
  rintro e W' ⟨rfl, bel0⟩
  have bel : Below W.heap.size W W' := bel0
  exact ⟨_, rfl, _, _, _, [], _, [], hW', trodAll_mk1 (shut_bool Try.underlying4 _), (trodAll_cons_mk (Below.trod laidOut (by kernel_rfl) (of_decide_eq_true (by kernel_rfl)) k0 bel lt0) (trodAll_cons_mk (Below.trod laidOut (by kernel_rfl) (of_decide_eq_true (by kernel_rfl)) k1 bel lt1) trodAll_mk0)), rfl, bel.frame _, fun h => by cases h⟩
theorem over : Rows.storeTornUptoRow.holds Try.pinned (Rows.OpenSpec.upto Rows.storeTornSpec) :=
  OpenClaim.holds_of_cond 7 Try.f7 rfl rfl rfl rfl rfl rfl rfl ⟨rfl, rfl, rfl, rfl, rfl⟩ rfl rfl rfl rfl rfl (by kernel_rfl) Try.func7 (by kernel_rfl)
    (of_decide_eq_true (by kernel_rfl)) (by unfold Func.isWrapper; first | (rw [if_pos (by decide +kernel)]; kernel_rfl) | (rw [if_neg (by decide +kernel)]; exact ⟨rfl, rfl⟩))
    (fun os started H enc _ F => lifted os started H enc F)
theorem proved : Rows.StoreTornUptoSaid := over
end Go.Proofs.Ytfakdphkklclgaa.storeTorn
namespace Go.Proofs.Ytfakdphkklclgaa
theorem storeTorn_holds : Rows.StoreTornUptoSaid := storeTorn.proved
end Go.Proofs.Ytfakdphkklclgaa

end

