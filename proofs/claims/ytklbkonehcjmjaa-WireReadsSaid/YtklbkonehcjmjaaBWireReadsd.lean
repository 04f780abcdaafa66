/- Proved: the law WireReads holds for every input that the row lets in. No condition of ours. -/
import Derived.Test.YtklbkonehcjmjaaBWireReadsc
import Derived.Test.YtklbkonehcjmjaaRows
import Derived.ShutString
import Derived.ChangeOld
import Derived.Lib.SmallJoins
section
namespace Go.Proofs.Ytklbkonehcjmjaa.P
open Go.RowKit Go.Proofs.YtklbkonehcjmjaaW.PrintWords Go.Proofs.YtklbkonehcjmjaaW.PrintLast Go.Proofs.YtklbkonehcjmjaaW.PrintMore
attribute [local go_sem] max2_int min2_int max_two min_two max_three min_three max_four min_four
set_option linter.unusedVariables false
set_option linter.unusedSimpArgs false
set_option maxHeartbeats 3200000 in
set_option maxRecDepth 100000 in
theorem look_7 (KK : Nat) (nm : ByteArray → Bool) (hK : RdFacts KK nm) (w0 : World) (n : Nat) (f : Nat → Ent) (i : Nat) (hi : i < n) (W : World) (h : RSt w0 n f W) (he : (f i).ar = (f i).ap) (who op N : Int) (hp : provisolaw01_pick.f op 9 = some 7) :
    Calls Try.prog 38 #[.pointer (some ⟨(f i).g, 0, none⟩), .pointer (some ⟨(f i).p, 0, none⟩), .agg #[.int .i64 who, .int .i64 op, .int .i64 N]] W fun e w' => LkPost w0 n f i W e w' := by
  have HI := Aside0.mk hi
  have HK := Aside0.mk hK
  have HE := Aside0.mk he
  have hle := (h.all i hi).rd.le
  have HBY := Aside0.mk (h.all i hi).by_
  have HLIM := Aside0.mk (h.all i hi).lim
  have HLE := Aside0.mk hle
  have HP := Aside0.mk hp
  have H0 := Aside0.mk h
  clear hK hi hp he hle
  go_enter Try.func38, Try.ntmps38
  go_wp2_with ((with_reducible refine gate_dst (N := 5) rfl ?_); refine rw_box rfl 68 rfl (cs := #[.int .i64 who, .int .i64 op, .int .i64 N]) rfl (Rws.nil W) ?_; intro b2 w1 hX; have HX := Aside0.mk (hX.mem List.mem_cons_self); have HG := Aside0.mk (hX.lies _ List.mem_cons_self).2; have H := Aside0.mk (h.step hX.below); have HB1 := Aside0.mk hX.below; clear hX h)
  obtain ⟨A, c, hpl, hbs⟩ := H.out.plc HI.out HE.out
  have HSS := Aside0.mk (show ∀ W' : World, Below w1.heap.size w1 W' → W'.cell? ⟨(f i).p, 0, none⟩ = some (.slice A (f i).bs.length c) ∧ W'.cell? ⟨(f i).p, 1, none⟩ = some (.int .i64 ((f i).ar : Int)) ∧ W'.cell? ⟨b2, 2, none⟩ = some (.int .i64 N) from fun W' hW => ⟨blk_cell (blk_below hpl hW) 0, blk_cell (blk_below hpl hW) 1, blk_cell (blk_below HX.out hW) 2⟩)
  have HPL := Aside0.mk hpl
  have HBS := Aside0.mk hbs
  have HB := Aside0.mk (Below.refl w1.heap.size w1)
  clear hpl hbs
  (try simp only [Act.put, List.setIfInBounds_toArray, List.set_cons_zero, List.set_cons_succ])
  refine wp_region_held_drew (S := fun w' => w'.cell? ⟨(f i).p, 0, none⟩ = some (.slice A (f i).bs.length c) ∧ w'.cell? ⟨(f i).p, 1, none⟩ = some (.int .i64 ((f i).ar : Int)) ∧ w'.cell? ⟨b2, 2, none⟩ = some (.int .i64 N)) (by kernel_rfl) ?_ (fun hHeld => ?_)
  · exact HSS.out _ (pw_below_drewN HB.out 1)
  replace HB := Aside0.mk (show Below w1.heap.size w1 w1.drew from pw_below_drewN HB.out 1)
  generalize w1.drew = wd at HB hHeld ⊢
  refine take_dst (i := 0) (v := ?_) 30 rfl rfl (by kernel_rfl) (by kernel_rfl) (by kernel_rfl) (fun _ _ _ h => h) (Or.inl ⟨by rfl, ?_⟩) (by assumption) ?_
  rotate_left
  · intro w hSw
    obtain ⟨q1, q2, q3⟩ := hSw
    go_simp
    try with_reducible rfl
  (try simp only [Act.put, List.setIfInBounds_toArray, List.set_cons_zero, List.set_cons_succ])
  refine take_dst (i := 1) (v := ?_) 31 rfl rfl (by kernel_rfl) (by kernel_rfl) (by kernel_rfl) (fun _ _ _ h => h) (Or.inl ⟨by rfl, ?_⟩) (by assumption) ?_
  rotate_left
  · intro w hSw
    obtain ⟨q1, q2, q3⟩ := hSw
    go_simp
    try with_reducible rfl
  (try simp only [Act.put, List.setIfInBounds_toArray, List.set_cons_zero, List.set_cons_succ])
  refine take_dst (i := 2) (v := ?_) 32 rfl rfl (by kernel_rfl) (by kernel_rfl) (by kernel_rfl) (fun _ _ _ h => h) (Or.inl ⟨by rfl, ?_⟩) (by assumption) ?_
  rotate_left
  · intro w hSw
    obtain ⟨q1, q2, q3⟩ := hSw
    go_simp
    try with_reducible rfl
  (try simp only [Act.put, List.setIfInBounds_toArray, List.set_cons_zero, List.set_cons_succ])
  refine take_dst (i := 3) (v := ?_) 33 rfl rfl (by kernel_rfl) (by kernel_rfl) (by kernel_rfl) (fun _ _ _ h => h) (Or.inl ⟨by rfl, ?_⟩) (by assumption) ?_
  rotate_left
  · intro w hSw
    obtain ⟨q1, q2, q3⟩ := hSw
    go_simp
    try with_reducible rfl
  (try simp only [Act.put, List.setIfInBounds_toArray, List.set_cons_zero, List.set_cons_succ])
  refine take_dst (i := 4) (v := ?_) 9 rfl rfl (by kernel_rfl) (by kernel_rfl) (by kernel_rfl) (fun _ _ _ h => h) (Or.inl ⟨by rfl, ?_⟩) (by assumption) ?_
  rotate_left
  · intro w hSw
    obtain ⟨q1, q2, q3⟩ := hSw
    go_simp
    try with_reducible rfl
  (try simp only [Act.put, List.setIfInBounds_toArray, List.set_cons_zero, List.set_cons_succ])
  refine take_dst (i := 5) (v := ?_) 10 rfl rfl (by kernel_rfl) (by kernel_rfl) (by kernel_rfl) (fun _ _ _ h => h) (Or.inl ⟨by rfl, ?_⟩) (by assumption) ?_
  rotate_left
  · intro w hSw
    obtain ⟨q1, q2, q3⟩ := hSw
    go_simp
    try with_reducible rfl
  (try simp only [Act.put, List.setIfInBounds_toArray, List.set_cons_zero, List.set_cons_succ])
  refine take_dst (i := 6) (v := ?_) 11 rfl rfl (by kernel_rfl) (by kernel_rfl) (by kernel_rfl) (fun _ _ _ h => h) (Or.inl ⟨by rfl, ?_⟩) (by assumption) ?_
  rotate_left
  · intro w hSw
    obtain ⟨q1, q2, q3⟩ := hSw
    go_simp
    try with_reducible rfl
  (try simp only [Act.put, List.setIfInBounds_toArray, List.set_cons_zero, List.set_cons_succ])
  refine wpAnyH_done (by kernel_rfl) ?_ _
  clear HSS HBS HPL hHeld
  have HX1 := Aside0.mk (blk_below HX.out HB.out)
  have H1 := Aside0.mk (H.out.step HB.out)
  have HB2 := Aside0.mk (below_step HB1.out HB.out)
  clear HX H HB HB1
  have hc1 := blk_cell HX1.out 1
  have hc2 := blk_cell HX1.out 2
  go_wp2_with fail
  refine (provisolaw01_pick.calls op 9 7 _ HP.out).mono ?_
  rintro e w3 ⟨rfl, m3, rfl⟩
  have HX := Aside0.mk (show (wd.drewN m3).heap[b2]? = _ from HX1.out)
  have H := Aside0.mk (H1.out.step (pw_below_drewN (Below.refl _ _) m3))
  have HBA := Aside0.mk (pw_below_drewN HB2.out m3)
  clear HX1 H1 HB2 hc1 hc2
  generalize wd.drewN m3 = w4 at HX H HBA ⊢
  have hc0 := blk_cell HX.out 2
  go_wp2_with fail
  refine (Within_s w0 n f i HI.out w4 H.out N).mono ?_
  rintro e w5 ⟨hp, hcase⟩
  obtain ⟨q, hq⟩ : ∃ q, q = takeR (f i).bs (f i).ar N := ⟨_, rfl⟩
  have hql : q.1.length ≤ (f i).bs.length := hq ▸ take_len _ _ _
  have hqs : ∀ x ∈ q.1, x ∈ (f i).bs := fun x hx => take_sub _ _ N x (hq ▸ hx)
  rw [← hq] at hp hcase
  have HQ := Aside0.mk hq
  clear hq hc0
  obtain ⟨sg, k, er⟩ := q
  have HQL := Aside0.mk hql
  have HQS := Aside0.mk hqs
  clear hql hqs
  rcases hcase with ⟨hz, rfl⟩ | ⟨hz, g2, rfl, hg2, hrd⟩
  · have c9 : (er == 0) = false := beq_eq_false_iff_ne.mpr hz
    clear hz
    have HP5 := Aside0.mk hp
    have HX4 := HX
    replace HX := Aside0.mk ((hp.2.2 b2 (blk_lt HX4.out) (fun q => by obtain ⟨cs, hg⟩ := (H.out.all i HI.out).blocks.1; exact typ_ne HX4.out hg (by decide) q)).trans HX4.out)
    clear hp HX4
    go_wp2_with fail
    obtain ⟨A, c, hpl, hbs⟩ := HP5.out.plc HI.out HE.out
    have HSS := Aside0.mk (show ∀ W' : World, Below w5.heap.size w5 W' → W'.cell? ⟨(f i).p, 0, none⟩ = some (.slice A (f i).bs.length c) ∧ W'.cell? ⟨(f i).p, 1, none⟩ = some (.int .i64 ((f i).ar : Int)) ∧ W'.cell? ⟨b2, 2, none⟩ = some (.int .i64 N) from fun W' hW => ⟨blk_cell (blk_below hpl hW) 0, blk_cell (blk_below hpl hW) 1, blk_cell (blk_below HX.out hW) 2⟩)
    have HPL := Aside0.mk hpl
    have HBS := Aside0.mk hbs
    have HB := Aside0.mk (Below.refl w5.heap.size w5)
    clear hpl hbs
    (try simp only [Act.put, List.setIfInBounds_toArray, List.set_cons_zero, List.set_cons_succ])
    refine wp_region_held_drew (S := fun w' => w'.cell? ⟨(f i).p, 0, none⟩ = some (.slice A (f i).bs.length c) ∧ w'.cell? ⟨(f i).p, 1, none⟩ = some (.int .i64 ((f i).ar : Int)) ∧ w'.cell? ⟨b2, 2, none⟩ = some (.int .i64 N)) (by kernel_rfl) ?_ (fun hHeld => ?_)
    · exact HSS.out _ (pw_below_drewN HB.out 1)
    replace HB := Aside0.mk (show Below w5.heap.size w5 w5.drew from pw_below_drewN HB.out 1)
    generalize w5.drew = wd at HB hHeld ⊢
    refine take_dst (i := 0) (v := ?_) 213 rfl rfl (by kernel_rfl) (by kernel_rfl) (by kernel_rfl) (fun _ _ _ h => h) (Or.inl ⟨by rfl, ?_⟩) (by assumption) ?_
    rotate_left
    · intro w hSw
      obtain ⟨q1, q2, q3⟩ := hSw
      go_simp
      try with_reducible rfl
    (try simp only [Act.put, List.setIfInBounds_toArray, List.set_cons_zero, List.set_cons_succ])
    refine take_dst (i := 1) (v := ?_) 214 rfl rfl (by kernel_rfl) (by kernel_rfl) (by kernel_rfl) (fun _ _ _ h => h) (Or.inl ⟨by rfl, ?_⟩) (by assumption) ?_
    rotate_left
    · intro w hSw
      obtain ⟨q1, q2, q3⟩ := hSw
      go_simp
      try with_reducible rfl
    (try simp only [Act.put, List.setIfInBounds_toArray, List.set_cons_zero, List.set_cons_succ])
    refine take_dst (i := 2) (v := ?_) 215 rfl rfl (by kernel_rfl) (by kernel_rfl) (by kernel_rfl) (fun _ _ _ h => h) (Or.inl ⟨by rfl, ?_⟩) (by assumption) ?_
    rotate_left
    · intro w hSw
      obtain ⟨q1, q2, q3⟩ := hSw
      go_simp
      try with_reducible rfl
    (try simp only [Act.put, List.setIfInBounds_toArray, List.set_cons_zero, List.set_cons_succ])
    refine take_dst (i := 3) (v := ?_) 216 rfl rfl (by kernel_rfl) (by kernel_rfl) (by kernel_rfl) (fun _ _ _ h => h) (Or.inl ⟨by rfl, ?_⟩) (by assumption) ?_
    rotate_left
    · intro w hSw
      obtain ⟨q1, q2, q3⟩ := hSw
      go_simp
      try with_reducible rfl
    (try simp only [Act.put, List.setIfInBounds_toArray, List.set_cons_zero, List.set_cons_succ])
    refine take_dst (i := 4) (v := ?_) 217 rfl rfl (by kernel_rfl) (by kernel_rfl) (by kernel_rfl) (fun _ _ _ h => h) (Or.inl ⟨by rfl, ?_⟩) (by assumption) ?_
    rotate_left
    · intro w hSw
      obtain ⟨q1, q2, q3⟩ := hSw
      go_simp
      try with_reducible rfl
    (try simp only [Act.put, List.setIfInBounds_toArray, List.set_cons_zero, List.set_cons_succ])
    refine take_dst (i := 5) (v := ?_) 218 rfl rfl (by kernel_rfl) (by kernel_rfl) (by kernel_rfl) (fun _ _ _ h => h) (Or.inl ⟨by rfl, ?_⟩) (by assumption) ?_
    rotate_left
    · intro w hSw
      obtain ⟨q1, q2, q3⟩ := hSw
      go_simp
      try with_reducible rfl
    (try simp only [Act.put, List.setIfInBounds_toArray, List.set_cons_zero, List.set_cons_succ])
    refine take_dst (i := 6) (v := ?_) 219 rfl rfl (by kernel_rfl) (by kernel_rfl) (by kernel_rfl) (fun _ _ _ h => h) (Or.inl ⟨by rfl, ?_⟩) (by assumption) ?_
    rotate_left
    · intro w hSw
      obtain ⟨q1, q2, q3⟩ := hSw
      go_simp
      try with_reducible rfl
    (try simp only [Act.put, List.setIfInBounds_toArray, List.set_cons_zero, List.set_cons_succ])
    refine take_dst (i := 7) (v := ?_) 220 rfl rfl (by kernel_rfl) (by kernel_rfl) (by kernel_rfl) (fun _ _ _ h => h) (Or.inl ⟨by rfl, ?_⟩) (by assumption) ?_
    rotate_left
    · intro w hSw
      obtain ⟨q1, q2, q3⟩ := hSw
      go_simp
      try with_reducible rfl
    (try simp only [Act.put, List.setIfInBounds_toArray, List.set_cons_zero, List.set_cons_succ])
    refine take_dst (i := 8) (v := ?_) 221 rfl rfl (by kernel_rfl) (by kernel_rfl) (by kernel_rfl) (fun _ _ _ h => h) (Or.inl ⟨by rfl, ?_⟩) (by assumption) ?_
    rotate_left
    · intro w hSw
      obtain ⟨q1, q2, q3⟩ := hSw
      go_simp
      try with_reducible rfl
    (try simp only [Act.put, List.setIfInBounds_toArray, List.set_cons_zero, List.set_cons_succ])
    refine take_dst (i := 9) (v := ?_) 222 rfl rfl (by kernel_rfl) (by kernel_rfl) (by kernel_rfl) (fun _ _ _ h => h) (Or.inl ⟨by rfl, ?_⟩) (by assumption) ?_
    rotate_left
    · intro w hSw
      obtain ⟨q1, q2, q3⟩ := hSw
      go_simp
      try with_reducible rfl
    (try simp only [Act.put, List.setIfInBounds_toArray, List.set_cons_zero, List.set_cons_succ])
    refine wpAnyH_ready (rs := [10]) (by kernel_rfl) (by simp) ?_
    refine AllReadyH.cons rfl (fun K hK => ?_) AllReadyH.nil
    go_simp
    refine (provisoref01_Take.calls KK A c (f i).bs ((f i).ar : Int) N _ _ _ _ ((HBS.out.step HB.out).reads (below_step HP5.out.1.below HB.out)) HBS.out.1 (HK.out.take (f i).bs (f i).ar N HBY.out HLIM.out HLE.out)).mono ?_
    rintro e w6 ⟨v6, rfl, hR6, hb6⟩
    obtain ⟨A6, c6, e6, hc6, hC6⟩ := Kd.R_reads hR6
    subst e6
    rw [← HQ.out] at hR6 hC6 hc6 ⊢
    have HB6 := HB
    replace HB := Aside0.mk (below_step HB6.out hb6)
    have HR6 := Aside0.mk (Kd.R_lower hR6 (below_step HP5.out.1.below HB6.out).size)
    have HC6 := Aside0.mk hc6
    clear hR6 hC6 hc6 hb6 HB6
    go_simp
    refine hK.out _ _ (HSS.out _ HB.out) (fun hHeld => ?_)
    (try simp only [Act.put, List.setIfInBounds_toArray, List.set_cons_zero, List.set_cons_succ])
    clear hK K
    refine take_dst (i := 11) (v := ?_) 212 rfl rfl (by kernel_rfl) (by kernel_rfl) (by kernel_rfl) (fun _ _ _ h => h) (Or.inl ⟨by rfl, ?_⟩) (by assumption) ?_
    rotate_left
    · intro w hSw
      obtain ⟨q1, q2, q3⟩ := hSw
      go_simp
      try with_reducible rfl
    (try simp only [Act.put, List.setIfInBounds_toArray, List.set_cons_zero, List.set_cons_succ])
    refine take_dst (i := 12) (v := ?_) 224 rfl rfl (by kernel_rfl) (by kernel_rfl) (by kernel_rfl) (fun _ _ _ h => h) (Or.inl ⟨by rfl, ?_⟩) (by assumption) ?_
    rotate_left
    · intro w hSw
      obtain ⟨q1, q2, q3⟩ := hSw
      go_simp
      try with_reducible rfl
    (try simp only [Act.put, List.setIfInBounds_toArray, List.set_cons_zero, List.set_cons_succ])
    refine take_dst (i := 13) (v := ?_) 225 rfl rfl (by kernel_rfl) (by kernel_rfl) (by kernel_rfl) (fun _ _ _ h => h) (Or.inl ⟨by rfl, ?_⟩) (by assumption) ?_
    rotate_left
    · intro w hSw
      obtain ⟨q1, q2, q3⟩ := hSw
      go_simp
      try with_reducible rfl
    (try simp only [Act.put, List.setIfInBounds_toArray, List.set_cons_zero, List.set_cons_succ])
    refine take_dst (i := 14) (v := ?_) 226 rfl rfl (by kernel_rfl) (by kernel_rfl) (by kernel_rfl) (fun _ _ _ h => h) (Or.inl ⟨by rfl, ?_⟩) (by assumption) ?_
    rotate_left
    · intro w hSw
      obtain ⟨q1, q2, q3⟩ := hSw
      go_simp
      try with_reducible rfl
    (try simp only [Act.put, List.setIfInBounds_toArray, List.set_cons_zero, List.set_cons_succ])
    refine take_dst (i := 15) (v := ?_) 26 rfl rfl (by kernel_rfl) (by kernel_rfl) (by kernel_rfl) (fun _ _ _ h => h) (Or.inl ⟨by rfl, ?_⟩) (by assumption) ?_
    rotate_left
    · intro w hSw
      obtain ⟨q1, q2, q3⟩ := hSw
      go_simp
      try with_reducible rfl
    (try simp only [Act.put, List.setIfInBounds_toArray, List.set_cons_zero, List.set_cons_succ])
    refine take_dst (i := 16) (v := ?_) 27 rfl rfl (by kernel_rfl) (by kernel_rfl) (by kernel_rfl) (fun _ _ _ h => h) (Or.inl ⟨by rfl, ?_⟩) (by assumption) ?_
    rotate_left
    · intro w hSw
      obtain ⟨q1, q2, q3⟩ := hSw
      go_simp
      try with_reducible rfl
    (try simp only [Act.put, List.setIfInBounds_toArray, List.set_cons_zero, List.set_cons_succ])
    refine take_dst (i := 17) (v := ?_) 28 rfl rfl (by kernel_rfl) (by kernel_rfl) (by kernel_rfl) (fun _ _ _ h => h) (Or.inl ⟨by rfl, ?_⟩) (by assumption) ?_
    rotate_left
    · intro w hSw
      obtain ⟨q1, q2, q3⟩ := hSw
      go_simp
      try with_reducible rfl
    (try simp only [Act.put, List.setIfInBounds_toArray, List.set_cons_zero, List.set_cons_succ])
    refine wpAnyH_done (by kernel_rfl) ?_ _
    have hT := LkPost.turned HI.out HBA.out HP5.out HB.out
    have hpc := blk_cell (blk_below HPL.out HB.out) 1
    have hpf := blk_frozen (blk_below HPL.out HB.out) 1
    have HT := Aside0.mk hT
    clear hT
    go_wp2_with fail
    go_ret3
    exact ⟨k, .inl ⟨rfl, HT.out.1, HT.out.2⟩⟩
  · have c9 : er = 0 := hz
    subst c9
    clear hz
    have HRD := Aside0.mk hrd
    have HG2 := Aside0.mk hg2
    clear hrd hg2
    have HP5 := Aside0.mk hp
    have HX4 := HX
    replace HX := Aside0.mk ((hp.2.2 b2 (blk_lt HX4.out) (fun q => by obtain ⟨cs, hg⟩ := (H.out.all i HI.out).blocks.1; exact typ_ne HX4.out hg (by decide) q)).trans HX4.out)
    clear hp HX4
    go_wp2_with fail
    obtain ⟨A, c, hpl, hbs⟩ := HP5.out.plc HI.out HE.out
    have HSS := Aside0.mk (show ∀ W' : World, Below w5.heap.size w5 W' → W'.cell? ⟨(f i).p, 0, none⟩ = some (.slice A (f i).bs.length c) ∧ W'.cell? ⟨(f i).p, 1, none⟩ = some (.int .i64 ((f i).ar : Int)) ∧ W'.cell? ⟨b2, 2, none⟩ = some (.int .i64 N) from fun W' hW => ⟨blk_cell (blk_below hpl hW) 0, blk_cell (blk_below hpl hW) 1, blk_cell (blk_below HX.out hW) 2⟩)
    have HPL := Aside0.mk hpl
    have HBS := Aside0.mk hbs
    have HB := Aside0.mk (Below.refl w5.heap.size w5)
    clear hpl hbs
    (try simp only [Act.put, List.setIfInBounds_toArray, List.set_cons_zero, List.set_cons_succ])
    refine wp_region_held_drew (S := fun w' => w'.cell? ⟨(f i).p, 0, none⟩ = some (.slice A (f i).bs.length c) ∧ w'.cell? ⟨(f i).p, 1, none⟩ = some (.int .i64 ((f i).ar : Int)) ∧ w'.cell? ⟨b2, 2, none⟩ = some (.int .i64 N)) (by kernel_rfl) ?_ (fun hHeld => ?_)
    · exact HSS.out _ (pw_below_drewN HB.out 1)
    replace HB := Aside0.mk (show Below w5.heap.size w5 w5.drew from pw_below_drewN HB.out 1)
    generalize w5.drew = wd at HB hHeld ⊢
    refine take_dst (i := 0) (v := ?_) 213 rfl rfl (by kernel_rfl) (by kernel_rfl) (by kernel_rfl) (fun _ _ _ h => h) (Or.inl ⟨by rfl, ?_⟩) (by assumption) ?_
    rotate_left
    · intro w hSw
      obtain ⟨q1, q2, q3⟩ := hSw
      go_simp
      try with_reducible rfl
    (try simp only [Act.put, List.setIfInBounds_toArray, List.set_cons_zero, List.set_cons_succ])
    refine take_dst (i := 1) (v := ?_) 214 rfl rfl (by kernel_rfl) (by kernel_rfl) (by kernel_rfl) (fun _ _ _ h => h) (Or.inl ⟨by rfl, ?_⟩) (by assumption) ?_
    rotate_left
    · intro w hSw
      obtain ⟨q1, q2, q3⟩ := hSw
      go_simp
      try with_reducible rfl
    (try simp only [Act.put, List.setIfInBounds_toArray, List.set_cons_zero, List.set_cons_succ])
    refine take_dst (i := 2) (v := ?_) 215 rfl rfl (by kernel_rfl) (by kernel_rfl) (by kernel_rfl) (fun _ _ _ h => h) (Or.inl ⟨by rfl, ?_⟩) (by assumption) ?_
    rotate_left
    · intro w hSw
      obtain ⟨q1, q2, q3⟩ := hSw
      go_simp
      try with_reducible rfl
    (try simp only [Act.put, List.setIfInBounds_toArray, List.set_cons_zero, List.set_cons_succ])
    refine take_dst (i := 3) (v := ?_) 216 rfl rfl (by kernel_rfl) (by kernel_rfl) (by kernel_rfl) (fun _ _ _ h => h) (Or.inl ⟨by rfl, ?_⟩) (by assumption) ?_
    rotate_left
    · intro w hSw
      obtain ⟨q1, q2, q3⟩ := hSw
      go_simp
      try with_reducible rfl
    (try simp only [Act.put, List.setIfInBounds_toArray, List.set_cons_zero, List.set_cons_succ])
    refine take_dst (i := 4) (v := ?_) 217 rfl rfl (by kernel_rfl) (by kernel_rfl) (by kernel_rfl) (fun _ _ _ h => h) (Or.inl ⟨by rfl, ?_⟩) (by assumption) ?_
    rotate_left
    · intro w hSw
      obtain ⟨q1, q2, q3⟩ := hSw
      go_simp
      try with_reducible rfl
    (try simp only [Act.put, List.setIfInBounds_toArray, List.set_cons_zero, List.set_cons_succ])
    refine take_dst (i := 5) (v := ?_) 218 rfl rfl (by kernel_rfl) (by kernel_rfl) (by kernel_rfl) (fun _ _ _ h => h) (Or.inl ⟨by rfl, ?_⟩) (by assumption) ?_
    rotate_left
    · intro w hSw
      obtain ⟨q1, q2, q3⟩ := hSw
      go_simp
      try with_reducible rfl
    (try simp only [Act.put, List.setIfInBounds_toArray, List.set_cons_zero, List.set_cons_succ])
    refine take_dst (i := 6) (v := ?_) 219 rfl rfl (by kernel_rfl) (by kernel_rfl) (by kernel_rfl) (fun _ _ _ h => h) (Or.inl ⟨by rfl, ?_⟩) (by assumption) ?_
    rotate_left
    · intro w hSw
      obtain ⟨q1, q2, q3⟩ := hSw
      go_simp
      try with_reducible rfl
    (try simp only [Act.put, List.setIfInBounds_toArray, List.set_cons_zero, List.set_cons_succ])
    refine take_dst (i := 7) (v := ?_) 220 rfl rfl (by kernel_rfl) (by kernel_rfl) (by kernel_rfl) (fun _ _ _ h => h) (Or.inl ⟨by rfl, ?_⟩) (by assumption) ?_
    rotate_left
    · intro w hSw
      obtain ⟨q1, q2, q3⟩ := hSw
      go_simp
      try with_reducible rfl
    (try simp only [Act.put, List.setIfInBounds_toArray, List.set_cons_zero, List.set_cons_succ])
    refine take_dst (i := 8) (v := ?_) 221 rfl rfl (by kernel_rfl) (by kernel_rfl) (by kernel_rfl) (fun _ _ _ h => h) (Or.inl ⟨by rfl, ?_⟩) (by assumption) ?_
    rotate_left
    · intro w hSw
      obtain ⟨q1, q2, q3⟩ := hSw
      go_simp
      try with_reducible rfl
    (try simp only [Act.put, List.setIfInBounds_toArray, List.set_cons_zero, List.set_cons_succ])
    refine take_dst (i := 9) (v := ?_) 222 rfl rfl (by kernel_rfl) (by kernel_rfl) (by kernel_rfl) (fun _ _ _ h => h) (Or.inl ⟨by rfl, ?_⟩) (by assumption) ?_
    rotate_left
    · intro w hSw
      obtain ⟨q1, q2, q3⟩ := hSw
      go_simp
      try with_reducible rfl
    (try simp only [Act.put, List.setIfInBounds_toArray, List.set_cons_zero, List.set_cons_succ])
    refine wpAnyH_ready (rs := [10]) (by kernel_rfl) (by simp) ?_
    refine AllReadyH.cons rfl (fun K hK => ?_) AllReadyH.nil
    go_simp
    refine (provisoref01_Take.calls KK A c (f i).bs ((f i).ar : Int) N _ _ _ _ ((HBS.out.step HB.out).reads (below_step HP5.out.1.below HB.out)) HBS.out.1 (HK.out.take (f i).bs (f i).ar N HBY.out HLIM.out HLE.out)).mono ?_
    rintro e w6 ⟨v6, rfl, hR6, hb6⟩
    obtain ⟨A6, c6, e6, hc6, hC6⟩ := Kd.R_reads hR6
    subst e6
    rw [← HQ.out] at hR6 hC6 hc6 ⊢
    have HB6 := HB
    replace HB := Aside0.mk (below_step HB6.out hb6)
    have HR6 := Aside0.mk (Kd.R_lower hR6 (below_step HP5.out.1.below HB6.out).size)
    have HC6 := Aside0.mk hc6
    clear hR6 hC6 hc6 hb6 HB6
    go_simp
    refine hK.out _ _ (HSS.out _ HB.out) (fun hHeld => ?_)
    (try simp only [Act.put, List.setIfInBounds_toArray, List.set_cons_zero, List.set_cons_succ])
    clear hK K
    refine take_dst (i := 11) (v := ?_) 212 rfl rfl (by kernel_rfl) (by kernel_rfl) (by kernel_rfl) (fun _ _ _ h => h) (Or.inl ⟨by rfl, ?_⟩) (by assumption) ?_
    rotate_left
    · intro w hSw
      obtain ⟨q1, q2, q3⟩ := hSw
      go_simp
      try with_reducible rfl
    (try simp only [Act.put, List.setIfInBounds_toArray, List.set_cons_zero, List.set_cons_succ])
    refine take_dst (i := 12) (v := ?_) 224 rfl rfl (by kernel_rfl) (by kernel_rfl) (by kernel_rfl) (fun _ _ _ h => h) (Or.inl ⟨by rfl, ?_⟩) (by assumption) ?_
    rotate_left
    · intro w hSw
      obtain ⟨q1, q2, q3⟩ := hSw
      go_simp
      try with_reducible rfl
    (try simp only [Act.put, List.setIfInBounds_toArray, List.set_cons_zero, List.set_cons_succ])
    refine take_dst (i := 13) (v := ?_) 225 rfl rfl (by kernel_rfl) (by kernel_rfl) (by kernel_rfl) (fun _ _ _ h => h) (Or.inl ⟨by rfl, ?_⟩) (by assumption) ?_
    rotate_left
    · intro w hSw
      obtain ⟨q1, q2, q3⟩ := hSw
      go_simp
      try with_reducible rfl
    (try simp only [Act.put, List.setIfInBounds_toArray, List.set_cons_zero, List.set_cons_succ])
    refine take_dst (i := 14) (v := ?_) 226 rfl rfl (by kernel_rfl) (by kernel_rfl) (by kernel_rfl) (fun _ _ _ h => h) (Or.inl ⟨by rfl, ?_⟩) (by assumption) ?_
    rotate_left
    · intro w hSw
      obtain ⟨q1, q2, q3⟩ := hSw
      go_simp
      try with_reducible rfl
    (try simp only [Act.put, List.setIfInBounds_toArray, List.set_cons_zero, List.set_cons_succ])
    refine take_dst (i := 15) (v := ?_) 26 rfl rfl (by kernel_rfl) (by kernel_rfl) (by kernel_rfl) (fun _ _ _ h => h) (Or.inl ⟨by rfl, ?_⟩) (by assumption) ?_
    rotate_left
    · intro w hSw
      obtain ⟨q1, q2, q3⟩ := hSw
      go_simp
      try with_reducible rfl
    (try simp only [Act.put, List.setIfInBounds_toArray, List.set_cons_zero, List.set_cons_succ])
    refine take_dst (i := 16) (v := ?_) 27 rfl rfl (by kernel_rfl) (by kernel_rfl) (by kernel_rfl) (fun _ _ _ h => h) (Or.inl ⟨by rfl, ?_⟩) (by assumption) ?_
    rotate_left
    · intro w hSw
      obtain ⟨q1, q2, q3⟩ := hSw
      go_simp
      try with_reducible rfl
    (try simp only [Act.put, List.setIfInBounds_toArray, List.set_cons_zero, List.set_cons_succ])
    refine take_dst (i := 17) (v := ?_) 28 rfl rfl (by kernel_rfl) (by kernel_rfl) (by kernel_rfl) (fun _ _ _ h => h) (Or.inl ⟨by rfl, ?_⟩) (by assumption) ?_
    rotate_left
    · intro w hSw
      obtain ⟨q1, q2, q3⟩ := hSw
      go_simp
      try with_reducible rfl
    (try simp only [Act.put, List.setIfInBounds_toArray, List.set_cons_zero, List.set_cons_succ])
    refine wpAnyH_done (by kernel_rfl) ?_ _
    have hT := LkPost.turned HI.out HBA.out HP5.out HB.out
    have hpc := blk_cell (blk_below HPL.out HB.out) 1
    have hpf := blk_frozen (blk_below HPL.out HB.out) 1
    have HT := Aside0.mk hT
    clear hT
    go_wp2_with (first | ((with_reducible refine gate_dst (N := 250) rfl ?_); refine rw_box rfl 65 rfl (cs := #[.slice A6 sg.length c6, .int .i64 0]) rfl (Rws.nil (w6.setCell ⟨(f i).p, 1, none⟩ (.int .i64 (k : Int)))) ?_; intro b7 w7 hX7; have HX7 := Aside0.mk hX7; clear hX7))
    go_ret3
    have hz := blk_below HPL.out HB.out
    have hs7 : W.heap.size ≤ (w6.setCell ⟨(f i).p, 1, none⟩ (.int .i64 (k : Int))).heap.size := HT.out.2.1
    have hr7 : RdAt w0.heap.size g2 sg 0 w7 := ((HRD.out.step HB.out).away hz (by decide) (fun q => by
      obtain ⟨cs, hg⟩ := (HRD.out.step HB.out).frozen
      exact typ_ne hg hz (by decide) q) 1 (.int .i64 (k : Int))).step HX7.out.below
    have hb7 := HX7.out.mem List.mem_cons_self
    have hl7 := (HX7.out.lies _ List.mem_cons_self).2
    have hR7 := Kd.R_below (Kd.R_set HR6.out hz (by decide) 1 (.int .i64 (k : Int))) HX7.out.below
    have hsz := H0.out.below.size
    have hq7 : RSt w0 (n + 1) (fun j => if j = n then (⟨g2, b7, sg, 0, 0⟩ : Ent) else upP (upR f i k) i k j) w7 := (HT.out.1.step HX7.out.below).push ⟨g2, b7, sg, 0, 0⟩ ⟨hr7, Nat.le_trans hsz (Nat.le_trans hs7 hl7), ⟨A6, c6, hb7, HC6.out, .inr hR7⟩, fun x hx => HBY.out x (HQS.out x hx), Nat.le_trans HQL.out HLIM.out⟩ (fun j hj => by
        rw [(upP_same (upR f i k) i k j).1, (upR_same f i k j).1]
        obtain ⟨cs, hg⟩ := (H0.out.all j hj).blocks.1
        have h1 := blk_lt hg
        have h2 := HBA.out.size
        have h3 := HG2.out
        show (f j).g ≠ g2
        omega) (fun j hj => by
        rw [(upP_same (upR f i k) i k j).2.1, (upR_same f i k j).2.1]
        obtain ⟨cs, hg⟩ := (H0.out.all j hj).blocks.2
        have h1 := blk_lt hg
        have hl7' : (w6.setCell ⟨(f i).p, 1, none⟩ (.int .i64 (k : Int))).heap.size ≤ b7 := hl7
        show (f j).p ≠ b7
        omega)
    exact ⟨k, .inr ⟨⟨g2, b7, sg, 0, 0⟩, rfl, rfl, Nat.le_trans HBA.out.size HG2.out, Nat.le_trans hs7 hl7, hq7, HT.out.2.below HX7.out.below⟩⟩
set_option maxHeartbeats 3200000 in
set_option maxRecDepth 100000 in
theorem look_8 (KK : Nat) (nm : ByteArray → Bool) (hK : RdFacts KK nm) (w0 : World) (n : Nat) (f : Nat → Ent) (i : Nat) (hi : i < n) (W : World) (h : RSt w0 n f W) (he : (f i).ar = (f i).ap) (who op N : Int) (hp : provisolaw01_pick.f op 9 = some 8) :
    Calls Try.prog 38 #[.pointer (some ⟨(f i).g, 0, none⟩), .pointer (some ⟨(f i).p, 0, none⟩), .agg #[.int .i64 who, .int .i64 op, .int .i64 N]] W fun e w' => LkPost w0 n f i W e w' := by
  have HI := Aside0.mk hi
  have HK := Aside0.mk hK
  have HE := Aside0.mk he
  have hle := (h.all i hi).rd.le
  have HBY := Aside0.mk (h.all i hi).by_
  have HLIM := Aside0.mk (h.all i hi).lim
  have HLE := Aside0.mk hle
  have HP := Aside0.mk hp
  have H0 := Aside0.mk h
  clear hK hi hp he hle
  go_enter Try.func38, Try.ntmps38
  go_wp2_with ((with_reducible refine gate_dst (N := 5) rfl ?_); refine rw_box rfl 68 rfl (cs := #[.int .i64 who, .int .i64 op, .int .i64 N]) rfl (Rws.nil W) ?_; intro b2 w1 hX; have HX := Aside0.mk (hX.mem List.mem_cons_self); have HG := Aside0.mk (hX.lies _ List.mem_cons_self).2; have H := Aside0.mk (h.step hX.below); have HB1 := Aside0.mk hX.below; clear hX h)
  obtain ⟨A, c, hpl, hbs⟩ := H.out.plc HI.out HE.out
  have HSS := Aside0.mk (show ∀ W' : World, Below w1.heap.size w1 W' → W'.cell? ⟨(f i).p, 0, none⟩ = some (.slice A (f i).bs.length c) ∧ W'.cell? ⟨(f i).p, 1, none⟩ = some (.int .i64 ((f i).ar : Int)) ∧ W'.cell? ⟨b2, 2, none⟩ = some (.int .i64 N) from fun W' hW => ⟨blk_cell (blk_below hpl hW) 0, blk_cell (blk_below hpl hW) 1, blk_cell (blk_below HX.out hW) 2⟩)
  have HPL := Aside0.mk hpl
  have HBS := Aside0.mk hbs
  have HB := Aside0.mk (Below.refl w1.heap.size w1)
  clear hpl hbs
  (try simp only [Act.put, List.setIfInBounds_toArray, List.set_cons_zero, List.set_cons_succ])
  refine wp_region_held_drew (S := fun w' => w'.cell? ⟨(f i).p, 0, none⟩ = some (.slice A (f i).bs.length c) ∧ w'.cell? ⟨(f i).p, 1, none⟩ = some (.int .i64 ((f i).ar : Int)) ∧ w'.cell? ⟨b2, 2, none⟩ = some (.int .i64 N)) (by kernel_rfl) ?_ (fun hHeld => ?_)
  · exact HSS.out _ (pw_below_drewN HB.out 1)
  replace HB := Aside0.mk (show Below w1.heap.size w1 w1.drew from pw_below_drewN HB.out 1)
  generalize w1.drew = wd at HB hHeld ⊢
  refine take_dst (i := 0) (v := ?_) 30 rfl rfl (by kernel_rfl) (by kernel_rfl) (by kernel_rfl) (fun _ _ _ h => h) (Or.inl ⟨by rfl, ?_⟩) (by assumption) ?_
  rotate_left
  · intro w hSw
    obtain ⟨q1, q2, q3⟩ := hSw
    go_simp
    try with_reducible rfl
  (try simp only [Act.put, List.setIfInBounds_toArray, List.set_cons_zero, List.set_cons_succ])
  refine take_dst (i := 1) (v := ?_) 31 rfl rfl (by kernel_rfl) (by kernel_rfl) (by kernel_rfl) (fun _ _ _ h => h) (Or.inl ⟨by rfl, ?_⟩) (by assumption) ?_
  rotate_left
  · intro w hSw
    obtain ⟨q1, q2, q3⟩ := hSw
    go_simp
    try with_reducible rfl
  (try simp only [Act.put, List.setIfInBounds_toArray, List.set_cons_zero, List.set_cons_succ])
  refine take_dst (i := 2) (v := ?_) 32 rfl rfl (by kernel_rfl) (by kernel_rfl) (by kernel_rfl) (fun _ _ _ h => h) (Or.inl ⟨by rfl, ?_⟩) (by assumption) ?_
  rotate_left
  · intro w hSw
    obtain ⟨q1, q2, q3⟩ := hSw
    go_simp
    try with_reducible rfl
  (try simp only [Act.put, List.setIfInBounds_toArray, List.set_cons_zero, List.set_cons_succ])
  refine take_dst (i := 3) (v := ?_) 33 rfl rfl (by kernel_rfl) (by kernel_rfl) (by kernel_rfl) (fun _ _ _ h => h) (Or.inl ⟨by rfl, ?_⟩) (by assumption) ?_
  rotate_left
  · intro w hSw
    obtain ⟨q1, q2, q3⟩ := hSw
    go_simp
    try with_reducible rfl
  (try simp only [Act.put, List.setIfInBounds_toArray, List.set_cons_zero, List.set_cons_succ])
  refine take_dst (i := 4) (v := ?_) 9 rfl rfl (by kernel_rfl) (by kernel_rfl) (by kernel_rfl) (fun _ _ _ h => h) (Or.inl ⟨by rfl, ?_⟩) (by assumption) ?_
  rotate_left
  · intro w hSw
    obtain ⟨q1, q2, q3⟩ := hSw
    go_simp
    try with_reducible rfl
  (try simp only [Act.put, List.setIfInBounds_toArray, List.set_cons_zero, List.set_cons_succ])
  refine take_dst (i := 5) (v := ?_) 10 rfl rfl (by kernel_rfl) (by kernel_rfl) (by kernel_rfl) (fun _ _ _ h => h) (Or.inl ⟨by rfl, ?_⟩) (by assumption) ?_
  rotate_left
  · intro w hSw
    obtain ⟨q1, q2, q3⟩ := hSw
    go_simp
    try with_reducible rfl
  (try simp only [Act.put, List.setIfInBounds_toArray, List.set_cons_zero, List.set_cons_succ])
  refine take_dst (i := 6) (v := ?_) 11 rfl rfl (by kernel_rfl) (by kernel_rfl) (by kernel_rfl) (fun _ _ _ h => h) (Or.inl ⟨by rfl, ?_⟩) (by assumption) ?_
  rotate_left
  · intro w hSw
    obtain ⟨q1, q2, q3⟩ := hSw
    go_simp
    try with_reducible rfl
  (try simp only [Act.put, List.setIfInBounds_toArray, List.set_cons_zero, List.set_cons_succ])
  refine wpAnyH_done (by kernel_rfl) ?_ _
  clear HSS HBS HPL hHeld
  have HX1 := Aside0.mk (blk_below HX.out HB.out)
  have H1 := Aside0.mk (H.out.step HB.out)
  have HB2 := Aside0.mk (below_step HB1.out HB.out)
  clear HX H HB HB1
  have hc1 := blk_cell HX1.out 1
  have hc2 := blk_cell HX1.out 2
  go_wp2_with fail
  refine (provisolaw01_pick.calls op 9 8 _ HP.out).mono ?_
  rintro e w3 ⟨rfl, m3, rfl⟩
  have HX := Aside0.mk (show (wd.drewN m3).heap[b2]? = _ from HX1.out)
  have H := Aside0.mk (H1.out.step (pw_below_drewN (Below.refl _ _) m3))
  have HBA := Aside0.mk (pw_below_drewN HB2.out m3)
  clear HX1 H1 HB2 hc1 hc2
  generalize wd.drewN m3 = w4 at HX H HBA ⊢
  by_cases c8 : (f i).ar < (f i).bs.length
  · have c9 : decide (((f i).ar : Int) < ((f i).bs.length : Int)) = true := decide_eq_true (by omega)
    have c9n : decide ((f i).ar < (f i).bs.length) = true := decide_eq_true (by omega)
    clear c8
    go_wp2_with fail
    obtain ⟨A, c, hpl, hbs⟩ := H.out.plc HI.out HE.out
    have HSS := Aside0.mk (show ∀ W' : World, Below w4.heap.size w4 W' → W'.cell? ⟨(f i).p, 0, none⟩ = some (.slice A (f i).bs.length c) ∧ W'.cell? ⟨(f i).p, 1, none⟩ = some (.int .i64 ((f i).ar : Int)) ∧ W'.cell? ⟨b2, 2, none⟩ = some (.int .i64 N) from fun W' hW => ⟨blk_cell (blk_below hpl hW) 0, blk_cell (blk_below hpl hW) 1, blk_cell (blk_below HX.out hW) 2⟩)
    have HPL := Aside0.mk hpl
    have HBS := Aside0.mk hbs
    have HB := Aside0.mk (Below.refl w4.heap.size w4)
    clear hpl hbs
    (try simp only [Act.put, List.setIfInBounds_toArray, List.set_cons_zero, List.set_cons_succ])
    refine wp_region_held_drew (S := fun w' => w'.cell? ⟨(f i).p, 0, none⟩ = some (.slice A (f i).bs.length c) ∧ w'.cell? ⟨(f i).p, 1, none⟩ = some (.int .i64 ((f i).ar : Int)) ∧ w'.cell? ⟨b2, 2, none⟩ = some (.int .i64 N)) (by kernel_rfl) ?_ (fun hHeld => ?_)
    · exact HSS.out _ (pw_below_drewN HB.out 1)
    replace HB := Aside0.mk (show Below w4.heap.size w4 w4.drew from pw_below_drewN HB.out 1)
    generalize w4.drew = wd at HB hHeld ⊢
    refine take_dst (i := 0) (v := ?_) 37 rfl rfl (by kernel_rfl) (by kernel_rfl) (by kernel_rfl) (fun _ _ _ h => h) (Or.inl ⟨by rfl, ?_⟩) (by assumption) ?_
    rotate_left
    · intro w hSw
      obtain ⟨q1, q2, q3⟩ := hSw
      go_simp
      try with_reducible rfl
    (try simp only [Act.put, List.setIfInBounds_toArray, List.set_cons_zero, List.set_cons_succ])
    refine take_dst (i := 1) (v := ?_) 38 rfl rfl (by kernel_rfl) (by kernel_rfl) (by kernel_rfl) (fun _ _ _ h => h) (Or.inl ⟨by rfl, ?_⟩) (by assumption) ?_
    rotate_left
    · intro w hSw
      obtain ⟨q1, q2, q3⟩ := hSw
      go_simp
      try with_reducible rfl
    (try simp only [Act.put, List.setIfInBounds_toArray, List.set_cons_zero, List.set_cons_succ])
    refine take_dst (i := 2) (v := ?_) 39 rfl rfl (by kernel_rfl) (by kernel_rfl) (by kernel_rfl) (fun _ _ _ h => h) (Or.inl ⟨by rfl, ?_⟩) (by assumption) ?_
    rotate_left
    · intro w hSw
      obtain ⟨q1, q2, q3⟩ := hSw
      go_simp
      try with_reducible rfl
    (try simp only [Act.put, List.setIfInBounds_toArray, List.set_cons_zero, List.set_cons_succ])
    refine take_dst (i := 3) (v := ?_) 40 rfl rfl (by kernel_rfl) (by kernel_rfl) (by kernel_rfl) (fun _ _ _ h => h) (Or.inl ⟨by rfl, ?_⟩) (by assumption) ?_
    rotate_left
    · intro w hSw
      obtain ⟨q1, q2, q3⟩ := hSw
      go_simp
      try with_reducible rfl
    (try simp only [Act.put, List.setIfInBounds_toArray, List.set_cons_zero, List.set_cons_succ])
    refine take_dst (i := 4) (v := ?_) 41 rfl rfl (by kernel_rfl) (by kernel_rfl) (by kernel_rfl) (fun _ _ _ h => h) (Or.inl ⟨by rfl, ?_⟩) (by assumption) ?_
    rotate_left
    · intro w hSw
      obtain ⟨q1, q2, q3⟩ := hSw
      go_simp
      try with_reducible rfl
    (try simp only [Act.put, List.setIfInBounds_toArray, List.set_cons_zero, List.set_cons_succ])
    refine take_dst (i := 5) (v := ?_) 42 rfl rfl (by kernel_rfl) (by kernel_rfl) (by kernel_rfl) (fun _ _ _ h => h) (Or.inl ⟨by rfl, ?_⟩) (by assumption) ?_
    rotate_left
    · intro w hSw
      obtain ⟨q1, q2, q3⟩ := hSw
      go_simp
      try with_reducible rfl
    (try simp only [Act.put, List.setIfInBounds_toArray, List.set_cons_zero, List.set_cons_succ])
    refine take_dst (i := 6) (v := ?_) 43 rfl rfl (by kernel_rfl) (by kernel_rfl) (by kernel_rfl) (fun _ _ _ h => h) (Or.inl ⟨by rfl, ?_⟩) (by assumption) ?_
    rotate_left
    · intro w hSw
      obtain ⟨q1, q2, q3⟩ := hSw
      go_simp
      try with_reducible rfl
    (try simp only [Act.put, List.setIfInBounds_toArray, List.set_cons_zero, List.set_cons_succ])
    refine take_dst (i := 7) (v := ?_) 44 rfl rfl (by kernel_rfl) (by kernel_rfl) (by kernel_rfl) (fun _ _ _ h => h) (Or.inl ⟨by rfl, ?_⟩) (by assumption) ?_
    rotate_left
    · intro w hSw
      obtain ⟨q1, q2, q3⟩ := hSw
      go_simp
      try with_reducible rfl
    (try simp only [Act.put, List.setIfInBounds_toArray, List.set_cons_zero, List.set_cons_succ])
    refine take_dst (i := 8) (v := ?_) 45 rfl rfl (by kernel_rfl) (by kernel_rfl) (by kernel_rfl) (fun _ _ _ h => h) (Or.inl ⟨by rfl, ?_⟩) (by assumption) ?_
    rotate_left
    · intro w hSw
      obtain ⟨q1, q2, q3⟩ := hSw
      go_simp
      try with_reducible rfl
    (try simp only [Act.put, List.setIfInBounds_toArray, List.set_cons_zero, List.set_cons_succ])
    refine take_dst (i := 9) (v := ?_) 46 rfl rfl (by kernel_rfl) (by kernel_rfl) (by kernel_rfl) (fun _ _ _ h => h) (Or.inl ⟨by rfl, ?_⟩) (by assumption) ?_
    rotate_left
    · intro w hSw
      obtain ⟨q1, q2, q3⟩ := hSw
      go_simp
      try with_reducible rfl
    (try simp only [Act.put, List.setIfInBounds_toArray, List.set_cons_zero, List.set_cons_succ])
    refine wpAnyH_done (by kernel_rfl) ?_ _
    go_wp2_with fail
    have hend := End_rd ((H.out.step HB.out).all i HI.out).rd
    rw [if_neg (by have := of_decide_eq_true c9n; omega)] at hend
    refine hend.mono ?_
    clear hend
    rintro e w5 ⟨rfl, m5, rfl⟩
    replace HB := Aside0.mk (pw_below_drewN HB.out m5)
    go_wp2_with fail
    go_ret3
    exact LkPost.same H0.out HE.out (below_step HBA.out HB.out)
  · have c9 : decide (((f i).ar : Int) < ((f i).bs.length : Int)) = false := decide_eq_false (by omega)
    have c9n : decide ((f i).ar < (f i).bs.length) = false := decide_eq_false (by omega)
    clear c8
    go_wp2_with fail
    obtain ⟨A, c, hpl, hbs⟩ := H.out.plc HI.out HE.out
    have HSS := Aside0.mk (show ∀ W' : World, Below w4.heap.size w4 W' → W'.cell? ⟨(f i).p, 0, none⟩ = some (.slice A (f i).bs.length c) ∧ W'.cell? ⟨(f i).p, 1, none⟩ = some (.int .i64 ((f i).ar : Int)) ∧ W'.cell? ⟨b2, 2, none⟩ = some (.int .i64 N) from fun W' hW => ⟨blk_cell (blk_below hpl hW) 0, blk_cell (blk_below hpl hW) 1, blk_cell (blk_below HX.out hW) 2⟩)
    have HPL := Aside0.mk hpl
    have HBS := Aside0.mk hbs
    have HB := Aside0.mk (Below.refl w4.heap.size w4)
    clear hpl hbs
    (try simp only [Act.put, List.setIfInBounds_toArray, List.set_cons_zero, List.set_cons_succ])
    refine wp_region_held_drew (S := fun w' => w'.cell? ⟨(f i).p, 0, none⟩ = some (.slice A (f i).bs.length c) ∧ w'.cell? ⟨(f i).p, 1, none⟩ = some (.int .i64 ((f i).ar : Int)) ∧ w'.cell? ⟨b2, 2, none⟩ = some (.int .i64 N)) (by kernel_rfl) ?_ (fun hHeld => ?_)
    · exact HSS.out _ (pw_below_drewN HB.out 1)
    replace HB := Aside0.mk (show Below w4.heap.size w4 w4.drew from pw_below_drewN HB.out 1)
    generalize w4.drew = wd at HB hHeld ⊢
    refine take_dst (i := 0) (v := ?_) 37 rfl rfl (by kernel_rfl) (by kernel_rfl) (by kernel_rfl) (fun _ _ _ h => h) (Or.inl ⟨by rfl, ?_⟩) (by assumption) ?_
    rotate_left
    · intro w hSw
      obtain ⟨q1, q2, q3⟩ := hSw
      go_simp
      try with_reducible rfl
    (try simp only [Act.put, List.setIfInBounds_toArray, List.set_cons_zero, List.set_cons_succ])
    refine take_dst (i := 1) (v := ?_) 38 rfl rfl (by kernel_rfl) (by kernel_rfl) (by kernel_rfl) (fun _ _ _ h => h) (Or.inl ⟨by rfl, ?_⟩) (by assumption) ?_
    rotate_left
    · intro w hSw
      obtain ⟨q1, q2, q3⟩ := hSw
      go_simp
      try with_reducible rfl
    (try simp only [Act.put, List.setIfInBounds_toArray, List.set_cons_zero, List.set_cons_succ])
    refine take_dst (i := 2) (v := ?_) 39 rfl rfl (by kernel_rfl) (by kernel_rfl) (by kernel_rfl) (fun _ _ _ h => h) (Or.inl ⟨by rfl, ?_⟩) (by assumption) ?_
    rotate_left
    · intro w hSw
      obtain ⟨q1, q2, q3⟩ := hSw
      go_simp
      try with_reducible rfl
    (try simp only [Act.put, List.setIfInBounds_toArray, List.set_cons_zero, List.set_cons_succ])
    refine take_dst (i := 3) (v := ?_) 40 rfl rfl (by kernel_rfl) (by kernel_rfl) (by kernel_rfl) (fun _ _ _ h => h) (Or.inl ⟨by rfl, ?_⟩) (by assumption) ?_
    rotate_left
    · intro w hSw
      obtain ⟨q1, q2, q3⟩ := hSw
      go_simp
      try with_reducible rfl
    (try simp only [Act.put, List.setIfInBounds_toArray, List.set_cons_zero, List.set_cons_succ])
    refine take_dst (i := 4) (v := ?_) 41 rfl rfl (by kernel_rfl) (by kernel_rfl) (by kernel_rfl) (fun _ _ _ h => h) (Or.inl ⟨by rfl, ?_⟩) (by assumption) ?_
    rotate_left
    · intro w hSw
      obtain ⟨q1, q2, q3⟩ := hSw
      go_simp
      try with_reducible rfl
    (try simp only [Act.put, List.setIfInBounds_toArray, List.set_cons_zero, List.set_cons_succ])
    refine take_dst (i := 5) (v := ?_) 42 rfl rfl (by kernel_rfl) (by kernel_rfl) (by kernel_rfl) (fun _ _ _ h => h) (Or.inl ⟨by rfl, ?_⟩) (by assumption) ?_
    rotate_left
    · intro w hSw
      obtain ⟨q1, q2, q3⟩ := hSw
      go_simp
      try with_reducible rfl
    (try simp only [Act.put, List.setIfInBounds_toArray, List.set_cons_zero, List.set_cons_succ])
    refine take_dst (i := 6) (v := ?_) 43 rfl rfl (by kernel_rfl) (by kernel_rfl) (by kernel_rfl) (fun _ _ _ h => h) (Or.inl ⟨by rfl, ?_⟩) (by assumption) ?_
    rotate_left
    · intro w hSw
      obtain ⟨q1, q2, q3⟩ := hSw
      go_simp
      try with_reducible rfl
    (try simp only [Act.put, List.setIfInBounds_toArray, List.set_cons_zero, List.set_cons_succ])
    refine take_dst (i := 7) (v := ?_) 44 rfl rfl (by kernel_rfl) (by kernel_rfl) (by kernel_rfl) (fun _ _ _ h => h) (Or.inl ⟨by rfl, ?_⟩) (by assumption) ?_
    rotate_left
    · intro w hSw
      obtain ⟨q1, q2, q3⟩ := hSw
      go_simp
      try with_reducible rfl
    (try simp only [Act.put, List.setIfInBounds_toArray, List.set_cons_zero, List.set_cons_succ])
    refine take_dst (i := 8) (v := ?_) 45 rfl rfl (by kernel_rfl) (by kernel_rfl) (by kernel_rfl) (fun _ _ _ h => h) (Or.inl ⟨by rfl, ?_⟩) (by assumption) ?_
    rotate_left
    · intro w hSw
      obtain ⟨q1, q2, q3⟩ := hSw
      go_simp
      try with_reducible rfl
    (try simp only [Act.put, List.setIfInBounds_toArray, List.set_cons_zero, List.set_cons_succ])
    refine take_dst (i := 9) (v := ?_) 46 rfl rfl (by kernel_rfl) (by kernel_rfl) (by kernel_rfl) (fun _ _ _ h => h) (Or.inl ⟨by rfl, ?_⟩) (by assumption) ?_
    rotate_left
    · intro w hSw
      obtain ⟨q1, q2, q3⟩ := hSw
      go_simp
      try with_reducible rfl
    (try simp only [Act.put, List.setIfInBounds_toArray, List.set_cons_zero, List.set_cons_succ])
    refine wpAnyH_done (by kernel_rfl) ?_ _
    go_wp2_with fail
    have hend := End_rd ((H.out.step HB.out).all i HI.out).rd
    rw [if_pos (by have := of_decide_eq_false c9n; have := HLE.out; omega)] at hend
    refine hend.mono ?_
    clear hend
    rintro e w5 ⟨rfl, m5, rfl⟩
    replace HB := Aside0.mk (pw_below_drewN HB.out m5)
    go_wp2_with fail
    go_ret3
    exact LkPost.same H0.out HE.out (below_step HBA.out HB.out)
end Go.Proofs.Ytklbkonehcjmjaa.P

end

section
namespace Go.Proofs.Ytklbkonehcjmjaa.P
open Go.RowKit Go.Proofs.YtklbkonehcjmjaaW.PrintWords Go.Proofs.YtklbkonehcjmjaaW.PrintLast Go.Proofs.YtklbkonehcjmjaaW.PrintMore
attribute [local go_sem] max2_int min2_int max_two min_two max_three min_three max_four min_four
set_option linter.unusedVariables false
set_option linter.unusedSimpArgs false
set_option maxHeartbeats 3200000 in
set_option maxRecDepth 100000 in
theorem look_5 (KK : Nat) (nm : ByteArray → Bool) (hK : RdFacts KK nm) (w0 : World) (n : Nat) (f : Nat → Ent) (i : Nat) (hi : i < n) (W : World) (h : RSt w0 n f W) (he : (f i).ar = (f i).ap) (who op N : Int) (hp : provisolaw01_pick.f op 9 = some 5) :
    Calls Try.prog 38 #[.pointer (some ⟨(f i).g, 0, none⟩), .pointer (some ⟨(f i).p, 0, none⟩), .agg #[.int .i64 who, .int .i64 op, .int .i64 N]] W fun e w' => LkPost w0 n f i W e w' := by
  have HI := Aside0.mk hi
  have HK := Aside0.mk hK
  have HE := Aside0.mk he
  have hle := (h.all i hi).rd.le
  have HBY := Aside0.mk (h.all i hi).by_
  have HLIM := Aside0.mk (h.all i hi).lim
  have HLE := Aside0.mk hle
  have HP := Aside0.mk hp
  have H0 := Aside0.mk h
  clear hK hi hp he hle
  go_enter Try.func38, Try.ntmps38
  go_wp2_with ((with_reducible refine gate_dst (N := 5) rfl ?_); refine rw_box rfl 68 rfl (cs := #[.int .i64 who, .int .i64 op, .int .i64 N]) rfl (Rws.nil W) ?_; intro b2 w1 hX; have HX := Aside0.mk (hX.mem List.mem_cons_self); have HG := Aside0.mk (hX.lies _ List.mem_cons_self).2; have H := Aside0.mk (h.step hX.below); have HB1 := Aside0.mk hX.below; clear hX h)
  obtain ⟨A, c, hpl, hbs⟩ := H.out.plc HI.out HE.out
  have HSS := Aside0.mk (show ∀ W' : World, Below w1.heap.size w1 W' → W'.cell? ⟨(f i).p, 0, none⟩ = some (.slice A (f i).bs.length c) ∧ W'.cell? ⟨(f i).p, 1, none⟩ = some (.int .i64 ((f i).ar : Int)) ∧ W'.cell? ⟨b2, 2, none⟩ = some (.int .i64 N) from fun W' hW => ⟨blk_cell (blk_below hpl hW) 0, blk_cell (blk_below hpl hW) 1, blk_cell (blk_below HX.out hW) 2⟩)
  have HPL := Aside0.mk hpl
  have HBS := Aside0.mk hbs
  have HB := Aside0.mk (Below.refl w1.heap.size w1)
  clear hpl hbs
  (try simp only [Act.put, List.setIfInBounds_toArray, List.set_cons_zero, List.set_cons_succ])
  refine wp_region_held_drew (S := fun w' => w'.cell? ⟨(f i).p, 0, none⟩ = some (.slice A (f i).bs.length c) ∧ w'.cell? ⟨(f i).p, 1, none⟩ = some (.int .i64 ((f i).ar : Int)) ∧ w'.cell? ⟨b2, 2, none⟩ = some (.int .i64 N)) (by kernel_rfl) ?_ (fun hHeld => ?_)
  · exact HSS.out _ (pw_below_drewN HB.out 1)
  replace HB := Aside0.mk (show Below w1.heap.size w1 w1.drew from pw_below_drewN HB.out 1)
  generalize w1.drew = wd at HB hHeld ⊢
  refine take_dst (i := 0) (v := ?_) 30 rfl rfl (by kernel_rfl) (by kernel_rfl) (by kernel_rfl) (fun _ _ _ h => h) (Or.inl ⟨by rfl, ?_⟩) (by assumption) ?_
  rotate_left
  · intro w hSw
    obtain ⟨q1, q2, q3⟩ := hSw
    go_simp
    try with_reducible rfl
  (try simp only [Act.put, List.setIfInBounds_toArray, List.set_cons_zero, List.set_cons_succ])
  refine take_dst (i := 1) (v := ?_) 31 rfl rfl (by kernel_rfl) (by kernel_rfl) (by kernel_rfl) (fun _ _ _ h => h) (Or.inl ⟨by rfl, ?_⟩) (by assumption) ?_
  rotate_left
  · intro w hSw
    obtain ⟨q1, q2, q3⟩ := hSw
    go_simp
    try with_reducible rfl
  (try simp only [Act.put, List.setIfInBounds_toArray, List.set_cons_zero, List.set_cons_succ])
  refine take_dst (i := 2) (v := ?_) 32 rfl rfl (by kernel_rfl) (by kernel_rfl) (by kernel_rfl) (fun _ _ _ h => h) (Or.inl ⟨by rfl, ?_⟩) (by assumption) ?_
  rotate_left
  · intro w hSw
    obtain ⟨q1, q2, q3⟩ := hSw
    go_simp
    try with_reducible rfl
  (try simp only [Act.put, List.setIfInBounds_toArray, List.set_cons_zero, List.set_cons_succ])
  refine take_dst (i := 3) (v := ?_) 33 rfl rfl (by kernel_rfl) (by kernel_rfl) (by kernel_rfl) (fun _ _ _ h => h) (Or.inl ⟨by rfl, ?_⟩) (by assumption) ?_
  rotate_left
  · intro w hSw
    obtain ⟨q1, q2, q3⟩ := hSw
    go_simp
    try with_reducible rfl
  (try simp only [Act.put, List.setIfInBounds_toArray, List.set_cons_zero, List.set_cons_succ])
  refine take_dst (i := 4) (v := ?_) 9 rfl rfl (by kernel_rfl) (by kernel_rfl) (by kernel_rfl) (fun _ _ _ h => h) (Or.inl ⟨by rfl, ?_⟩) (by assumption) ?_
  rotate_left
  · intro w hSw
    obtain ⟨q1, q2, q3⟩ := hSw
    go_simp
    try with_reducible rfl
  (try simp only [Act.put, List.setIfInBounds_toArray, List.set_cons_zero, List.set_cons_succ])
  refine take_dst (i := 5) (v := ?_) 10 rfl rfl (by kernel_rfl) (by kernel_rfl) (by kernel_rfl) (fun _ _ _ h => h) (Or.inl ⟨by rfl, ?_⟩) (by assumption) ?_
  rotate_left
  · intro w hSw
    obtain ⟨q1, q2, q3⟩ := hSw
    go_simp
    try with_reducible rfl
  (try simp only [Act.put, List.setIfInBounds_toArray, List.set_cons_zero, List.set_cons_succ])
  refine take_dst (i := 6) (v := ?_) 11 rfl rfl (by kernel_rfl) (by kernel_rfl) (by kernel_rfl) (fun _ _ _ h => h) (Or.inl ⟨by rfl, ?_⟩) (by assumption) ?_
  rotate_left
  · intro w hSw
    obtain ⟨q1, q2, q3⟩ := hSw
    go_simp
    try with_reducible rfl
  (try simp only [Act.put, List.setIfInBounds_toArray, List.set_cons_zero, List.set_cons_succ])
  refine wpAnyH_done (by kernel_rfl) ?_ _
  clear HSS HBS HPL hHeld
  have HX1 := Aside0.mk (blk_below HX.out HB.out)
  have H1 := Aside0.mk (H.out.step HB.out)
  have HB2 := Aside0.mk (below_step HB1.out HB.out)
  clear HX H HB HB1
  have hc1 := blk_cell HX1.out 1
  have hc2 := blk_cell HX1.out 2
  go_wp2_with fail
  refine (provisolaw01_pick.calls op 9 5 _ HP.out).mono ?_
  rintro e w3 ⟨rfl, m3, rfl⟩
  have HX := Aside0.mk (show (wd.drewN m3).heap[b2]? = _ from HX1.out)
  have H := Aside0.mk (H1.out.step (pw_below_drewN (Below.refl _ _) m3))
  have HBA := Aside0.mk (pw_below_drewN HB2.out m3)
  clear HX1 H1 HB2 hc1 hc2
  generalize wd.drewN m3 = w4 at HX H HBA ⊢
  have hc0 := blk_cell HX.out 2
  go_wp2_with fail
  refine (Take_s w0 n f i HI.out w4 H.out N).mono ?_
  rintro e w5 ⟨v5, rfl, hp, hR5⟩
  obtain ⟨q, hq⟩ : ∃ q, q = takeR (f i).bs (f i).ar N := ⟨_, rfl⟩
  have hql : q.1.length ≤ (f i).bs.length := hq ▸ take_len _ _ _
  have hqs : ∀ x ∈ q.1, x ∈ (f i).bs := fun x hx => take_sub _ _ N x (hq ▸ hx)
  rw [← hq] at hp hR5 ⊢
  have HQ := Aside0.mk hq
  clear hq hc0
  obtain ⟨sg, k, er⟩ := q
  have HQL := Aside0.mk hql
  have HQS := Aside0.mk hqs
  clear hql hqs
  have HP5 := Aside0.mk hp
  have HX4 := HX
  replace HX := Aside0.mk ((hp.2.2 b2 (blk_lt HX4.out) (fun q => by obtain ⟨cs, hg⟩ := (H.out.all i HI.out).blocks.1; exact typ_ne HX4.out hg (by decide) q)).trans HX4.out)
  clear hp HX4
  obtain ⟨A5, c5, e5, hc5, hC5⟩ := Kd.R_reads hR5
  subst e5
  have HR5 := Aside0.mk (Kd.R_lower hR5 H.out.below.size)
  have HC5 := Aside0.mk hc5
  clear hR5 hc5 hC5
  go_wp2_with fail
  obtain ⟨A, c, hpl, hbs⟩ := HP5.out.plc HI.out HE.out
  have HSS := Aside0.mk (show ∀ W' : World, Below w5.heap.size w5 W' → W'.cell? ⟨(f i).p, 0, none⟩ = some (.slice A (f i).bs.length c) ∧ W'.cell? ⟨(f i).p, 1, none⟩ = some (.int .i64 ((f i).ar : Int)) ∧ W'.cell? ⟨b2, 2, none⟩ = some (.int .i64 N) from fun W' hW => ⟨blk_cell (blk_below hpl hW) 0, blk_cell (blk_below hpl hW) 1, blk_cell (blk_below HX.out hW) 2⟩)
  have HPL := Aside0.mk hpl
  have HBS := Aside0.mk hbs
  have HB := Aside0.mk (Below.refl w5.heap.size w5)
  clear hpl hbs
  (try simp only [Act.put, List.setIfInBounds_toArray, List.set_cons_zero, List.set_cons_succ])
  refine wp_region_held_drew (S := fun w' => w'.cell? ⟨(f i).p, 0, none⟩ = some (.slice A (f i).bs.length c) ∧ w'.cell? ⟨(f i).p, 1, none⟩ = some (.int .i64 ((f i).ar : Int)) ∧ w'.cell? ⟨b2, 2, none⟩ = some (.int .i64 N)) (by kernel_rfl) ?_ (fun hHeld => ?_)
  · exact HSS.out _ (pw_below_drewN HB.out 1)
  replace HB := Aside0.mk (show Below w5.heap.size w5 w5.drew from pw_below_drewN HB.out 1)
  generalize w5.drew = wd at HB hHeld ⊢
  refine take_dst (i := 0) (v := ?_) 145 rfl rfl (by kernel_rfl) (by kernel_rfl) (by kernel_rfl) (fun _ _ _ h => h) (Or.inl ⟨by rfl, ?_⟩) (by assumption) ?_
  rotate_left
  · intro w hSw
    obtain ⟨q1, q2, q3⟩ := hSw
    go_simp
    try with_reducible rfl
  (try simp only [Act.put, List.setIfInBounds_toArray, List.set_cons_zero, List.set_cons_succ])
  refine take_dst (i := 1) (v := ?_) 146 rfl rfl (by kernel_rfl) (by kernel_rfl) (by kernel_rfl) (fun _ _ _ h => h) (Or.inl ⟨by rfl, ?_⟩) (by assumption) ?_
  rotate_left
  · intro w hSw
    obtain ⟨q1, q2, q3⟩ := hSw
    go_simp
    try with_reducible rfl
  (try simp only [Act.put, List.setIfInBounds_toArray, List.set_cons_zero, List.set_cons_succ])
  refine take_dst (i := 2) (v := ?_) 147 rfl rfl (by kernel_rfl) (by kernel_rfl) (by kernel_rfl) (fun _ _ _ h => h) (Or.inl ⟨by rfl, ?_⟩) (by assumption) ?_
  rotate_left
  · intro w hSw
    obtain ⟨q1, q2, q3⟩ := hSw
    go_simp
    try with_reducible rfl
  (try simp only [Act.put, List.setIfInBounds_toArray, List.set_cons_zero, List.set_cons_succ])
  refine take_dst (i := 3) (v := ?_) 148 rfl rfl (by kernel_rfl) (by kernel_rfl) (by kernel_rfl) (fun _ _ _ h => h) (Or.inl ⟨by rfl, ?_⟩) (by assumption) ?_
  rotate_left
  · intro w hSw
    obtain ⟨q1, q2, q3⟩ := hSw
    go_simp
    try with_reducible rfl
  (try simp only [Act.put, List.setIfInBounds_toArray, List.set_cons_zero, List.set_cons_succ])
  refine take_dst (i := 4) (v := ?_) 149 rfl rfl (by kernel_rfl) (by kernel_rfl) (by kernel_rfl) (fun _ _ _ h => h) (Or.inl ⟨by rfl, ?_⟩) (by assumption) ?_
  rotate_left
  · intro w hSw
    obtain ⟨q1, q2, q3⟩ := hSw
    go_simp
    try with_reducible rfl
  (try simp only [Act.put, List.setIfInBounds_toArray, List.set_cons_zero, List.set_cons_succ])
  refine take_dst (i := 5) (v := ?_) 150 rfl rfl (by kernel_rfl) (by kernel_rfl) (by kernel_rfl) (fun _ _ _ h => h) (Or.inl ⟨by rfl, ?_⟩) (by assumption) ?_
  rotate_left
  · intro w hSw
    obtain ⟨q1, q2, q3⟩ := hSw
    go_simp
    try with_reducible rfl
  (try simp only [Act.put, List.setIfInBounds_toArray, List.set_cons_zero, List.set_cons_succ])
  refine take_dst (i := 6) (v := ?_) 151 rfl rfl (by kernel_rfl) (by kernel_rfl) (by kernel_rfl) (fun _ _ _ h => h) (Or.inl ⟨by rfl, ?_⟩) (by assumption) ?_
  rotate_left
  · intro w hSw
    obtain ⟨q1, q2, q3⟩ := hSw
    go_simp
    try with_reducible rfl
  (try simp only [Act.put, List.setIfInBounds_toArray, List.set_cons_zero, List.set_cons_succ])
  refine take_dst (i := 7) (v := ?_) 152 rfl rfl (by kernel_rfl) (by kernel_rfl) (by kernel_rfl) (fun _ _ _ h => h) (Or.inl ⟨by rfl, ?_⟩) (by assumption) ?_
  rotate_left
  · intro w hSw
    obtain ⟨q1, q2, q3⟩ := hSw
    go_simp
    try with_reducible rfl
  (try simp only [Act.put, List.setIfInBounds_toArray, List.set_cons_zero, List.set_cons_succ])
  refine take_dst (i := 8) (v := ?_) 153 rfl rfl (by kernel_rfl) (by kernel_rfl) (by kernel_rfl) (fun _ _ _ h => h) (Or.inl ⟨by rfl, ?_⟩) (by assumption) ?_
  rotate_left
  · intro w hSw
    obtain ⟨q1, q2, q3⟩ := hSw
    go_simp
    try with_reducible rfl
  (try simp only [Act.put, List.setIfInBounds_toArray, List.set_cons_zero, List.set_cons_succ])
  refine take_dst (i := 9) (v := ?_) 154 rfl rfl (by kernel_rfl) (by kernel_rfl) (by kernel_rfl) (fun _ _ _ h => h) (Or.inl ⟨by rfl, ?_⟩) (by assumption) ?_
  rotate_left
  · intro w hSw
    obtain ⟨q1, q2, q3⟩ := hSw
    go_simp
    try with_reducible rfl
  (try simp only [Act.put, List.setIfInBounds_toArray, List.set_cons_zero, List.set_cons_succ])
  refine wpAnyH_ready (rs := [10]) (by kernel_rfl) (by simp) ?_
  refine AllReadyH.cons rfl (fun K hK => ?_) AllReadyH.nil
  go_simp
  refine (provisoref01_Take.calls KK A c (f i).bs ((f i).ar : Int) N _ _ _ _ ((HBS.out.step HB.out).reads (below_step HP5.out.1.below HB.out)) HBS.out.1 (HK.out.take (f i).bs (f i).ar N HBY.out HLIM.out HLE.out)).mono ?_
  rintro e w6 ⟨v6, rfl, hR6, hb6⟩
  obtain ⟨A6, c6, e6, hc6, hC6⟩ := Kd.R_reads hR6
  subst e6
  rw [← HQ.out] at hR6 hC6 hc6 ⊢
  have HB6 := HB
  replace HB := Aside0.mk (below_step HB6.out hb6)
  have HR6 := Aside0.mk (Kd.R_lower hR6 (below_step HP5.out.1.below HB6.out).size)
  have HC6 := Aside0.mk hc6
  clear hR6 hC6 hc6 hb6 HB6
  go_simp
  refine hK.out _ _ (HSS.out _ HB.out) (fun hHeld => ?_)
  (try simp only [Act.put, List.setIfInBounds_toArray, List.set_cons_zero, List.set_cons_succ])
  clear hK K
  refine take_dst (i := 11) (v := ?_) 144 rfl rfl (by kernel_rfl) (by kernel_rfl) (by kernel_rfl) (fun _ _ _ h => h) (Or.inl ⟨by rfl, ?_⟩) (by assumption) ?_
  rotate_left
  · intro w hSw
    obtain ⟨q1, q2, q3⟩ := hSw
    go_simp
    try with_reducible rfl
  (try simp only [Act.put, List.setIfInBounds_toArray, List.set_cons_zero, List.set_cons_succ])
  refine take_dst (i := 12) (v := ?_) 156 rfl rfl (by kernel_rfl) (by kernel_rfl) (by kernel_rfl) (fun _ _ _ h => h) (Or.inl ⟨by rfl, ?_⟩) (by assumption) ?_
  rotate_left
  · intro w hSw
    obtain ⟨q1, q2, q3⟩ := hSw
    go_simp
    try with_reducible rfl
  (try simp only [Act.put, List.setIfInBounds_toArray, List.set_cons_zero, List.set_cons_succ])
  refine take_dst (i := 13) (v := ?_) 157 rfl rfl (by kernel_rfl) (by kernel_rfl) (by kernel_rfl) (fun _ _ _ h => h) (Or.inl ⟨by rfl, ?_⟩) (by assumption) ?_
  rotate_left
  · intro w hSw
    obtain ⟨q1, q2, q3⟩ := hSw
    go_simp
    try with_reducible rfl
  (try simp only [Act.put, List.setIfInBounds_toArray, List.set_cons_zero, List.set_cons_succ])
  refine take_dst (i := 14) (v := ?_) 158 rfl rfl (by kernel_rfl) (by kernel_rfl) (by kernel_rfl) (fun _ _ _ h => h) (Or.inl ⟨by rfl, ?_⟩) (by assumption) ?_
  rotate_left
  · intro w hSw
    obtain ⟨q1, q2, q3⟩ := hSw
    go_simp
    try with_reducible rfl
  (try simp only [Act.put, List.setIfInBounds_toArray, List.set_cons_zero, List.set_cons_succ])
  refine take_dst (i := 15) (v := ?_) 16 rfl rfl (by kernel_rfl) (by kernel_rfl) (by kernel_rfl) (fun _ _ _ h => h) (Or.inl ⟨by rfl, ?_⟩) (by assumption) ?_
  rotate_left
  · intro w hSw
    obtain ⟨q1, q2, q3⟩ := hSw
    go_simp
    try with_reducible rfl
  (try simp only [Act.put, List.setIfInBounds_toArray, List.set_cons_zero, List.set_cons_succ])
  refine take_dst (i := 16) (v := ?_) 17 rfl rfl (by kernel_rfl) (by kernel_rfl) (by kernel_rfl) (fun _ _ _ h => h) (Or.inl ⟨by rfl, ?_⟩) (by assumption) ?_
  rotate_left
  · intro w hSw
    obtain ⟨q1, q2, q3⟩ := hSw
    go_simp
    try with_reducible rfl
  (try simp only [Act.put, List.setIfInBounds_toArray, List.set_cons_zero, List.set_cons_succ])
  refine take_dst (i := 17) (v := ?_) 18 rfl rfl (by kernel_rfl) (by kernel_rfl) (by kernel_rfl) (fun _ _ _ h => h) (Or.inl ⟨by rfl, ?_⟩) (by assumption) ?_
  rotate_left
  · intro w hSw
    obtain ⟨q1, q2, q3⟩ := hSw
    go_simp
    try with_reducible rfl
  (try simp only [Act.put, List.setIfInBounds_toArray, List.set_cons_zero, List.set_cons_succ])
  refine wpAnyH_done (by kernel_rfl) ?_ _
  have hT := LkPost.turned HI.out HBA.out HP5.out HB.out
  have hpc := blk_cell (blk_below HPL.out HB.out) 1
  have hpf := blk_frozen (blk_below HPL.out HB.out) 1
  have HT := Aside0.mk hT
  clear hT
  have hz := blk_below HPL.out HB.out
  have HR5' := Aside0.mk (Kd.R_reads' (Kd.R_set (Kd.R_below HR5.out HB.out) hz (by decide) 1 (.int .i64 (k : Int)))).2.2
  have HR6' := Aside0.mk (Kd.R_reads' (Kd.R_set HR6.out hz (by decide) 1 (.int .i64 (k : Int)))).2.2
  clear hz
  go_wp2_with fail
  refine (slices_Equal_byte_byte.calls KK A5 c5 sg A6 c6 sg true _ HR5'.out HC5.out HR6'.out HC6.out (HK.out.eq sg (by have := HQL.out; have := HLIM.out; omega))).mono ?_
  rintro e w7 ⟨rfl, m7, rfl⟩
  have hd : Below (w6.setCell ⟨(f i).p, 1, none⟩ (.int .i64 (k : Int))).heap.size (w6.setCell ⟨(f i).p, 1, none⟩ (.int .i64 (k : Int))) ((w6.setCell ⟨(f i).p, 1, none⟩ (.int .i64 (k : Int))).drewN m7) := pw_below_drewN (Below.refl _ _) m7
  have HD := Aside0.mk hd
  clear hd
  go_wp2_with fail
  go_ret3
  exact ⟨k, .inl ⟨rfl, HT.out.1.step HD.out, HT.out.2.below HD.out⟩⟩
set_option maxHeartbeats 3200000 in
set_option maxRecDepth 100000 in
theorem look_6 (KK : Nat) (nm : ByteArray → Bool) (hK : RdFacts KK nm) (w0 : World) (n : Nat) (f : Nat → Ent) (i : Nat) (hi : i < n) (W : World) (h : RSt w0 n f W) (he : (f i).ar = (f i).ap) (who op N : Int) (hp : provisolaw01_pick.f op 9 = some 6) :
    Calls Try.prog 38 #[.pointer (some ⟨(f i).g, 0, none⟩), .pointer (some ⟨(f i).p, 0, none⟩), .agg #[.int .i64 who, .int .i64 op, .int .i64 N]] W fun e w' => LkPost w0 n f i W e w' := by
  have HI := Aside0.mk hi
  have HK := Aside0.mk hK
  have HE := Aside0.mk he
  have hle := (h.all i hi).rd.le
  have HBY := Aside0.mk (h.all i hi).by_
  have HLIM := Aside0.mk (h.all i hi).lim
  have HLE := Aside0.mk hle
  have HP := Aside0.mk hp
  have H0 := Aside0.mk h
  clear hK hi hp he hle
  go_enter Try.func38, Try.ntmps38
  go_wp2_with ((with_reducible refine gate_dst (N := 5) rfl ?_); refine rw_box rfl 68 rfl (cs := #[.int .i64 who, .int .i64 op, .int .i64 N]) rfl (Rws.nil W) ?_; intro b2 w1 hX; have HX := Aside0.mk (hX.mem List.mem_cons_self); have HG := Aside0.mk (hX.lies _ List.mem_cons_self).2; have H := Aside0.mk (h.step hX.below); have HB1 := Aside0.mk hX.below; clear hX h)
  obtain ⟨A, c, hpl, hbs⟩ := H.out.plc HI.out HE.out
  have HSS := Aside0.mk (show ∀ W' : World, Below w1.heap.size w1 W' → W'.cell? ⟨(f i).p, 0, none⟩ = some (.slice A (f i).bs.length c) ∧ W'.cell? ⟨(f i).p, 1, none⟩ = some (.int .i64 ((f i).ar : Int)) ∧ W'.cell? ⟨b2, 2, none⟩ = some (.int .i64 N) from fun W' hW => ⟨blk_cell (blk_below hpl hW) 0, blk_cell (blk_below hpl hW) 1, blk_cell (blk_below HX.out hW) 2⟩)
  have HPL := Aside0.mk hpl
  have HBS := Aside0.mk hbs
  have HB := Aside0.mk (Below.refl w1.heap.size w1)
  clear hpl hbs
  (try simp only [Act.put, List.setIfInBounds_toArray, List.set_cons_zero, List.set_cons_succ])
  refine wp_region_held_drew (S := fun w' => w'.cell? ⟨(f i).p, 0, none⟩ = some (.slice A (f i).bs.length c) ∧ w'.cell? ⟨(f i).p, 1, none⟩ = some (.int .i64 ((f i).ar : Int)) ∧ w'.cell? ⟨b2, 2, none⟩ = some (.int .i64 N)) (by kernel_rfl) ?_ (fun hHeld => ?_)
  · exact HSS.out _ (pw_below_drewN HB.out 1)
  replace HB := Aside0.mk (show Below w1.heap.size w1 w1.drew from pw_below_drewN HB.out 1)
  generalize w1.drew = wd at HB hHeld ⊢
  refine take_dst (i := 0) (v := ?_) 30 rfl rfl (by kernel_rfl) (by kernel_rfl) (by kernel_rfl) (fun _ _ _ h => h) (Or.inl ⟨by rfl, ?_⟩) (by assumption) ?_
  rotate_left
  · intro w hSw
    obtain ⟨q1, q2, q3⟩ := hSw
    go_simp
    try with_reducible rfl
  (try simp only [Act.put, List.setIfInBounds_toArray, List.set_cons_zero, List.set_cons_succ])
  refine take_dst (i := 1) (v := ?_) 31 rfl rfl (by kernel_rfl) (by kernel_rfl) (by kernel_rfl) (fun _ _ _ h => h) (Or.inl ⟨by rfl, ?_⟩) (by assumption) ?_
  rotate_left
  · intro w hSw
    obtain ⟨q1, q2, q3⟩ := hSw
    go_simp
    try with_reducible rfl
  (try simp only [Act.put, List.setIfInBounds_toArray, List.set_cons_zero, List.set_cons_succ])
  refine take_dst (i := 2) (v := ?_) 32 rfl rfl (by kernel_rfl) (by kernel_rfl) (by kernel_rfl) (fun _ _ _ h => h) (Or.inl ⟨by rfl, ?_⟩) (by assumption) ?_
  rotate_left
  · intro w hSw
    obtain ⟨q1, q2, q3⟩ := hSw
    go_simp
    try with_reducible rfl
  (try simp only [Act.put, List.setIfInBounds_toArray, List.set_cons_zero, List.set_cons_succ])
  refine take_dst (i := 3) (v := ?_) 33 rfl rfl (by kernel_rfl) (by kernel_rfl) (by kernel_rfl) (fun _ _ _ h => h) (Or.inl ⟨by rfl, ?_⟩) (by assumption) ?_
  rotate_left
  · intro w hSw
    obtain ⟨q1, q2, q3⟩ := hSw
    go_simp
    try with_reducible rfl
  (try simp only [Act.put, List.setIfInBounds_toArray, List.set_cons_zero, List.set_cons_succ])
  refine take_dst (i := 4) (v := ?_) 9 rfl rfl (by kernel_rfl) (by kernel_rfl) (by kernel_rfl) (fun _ _ _ h => h) (Or.inl ⟨by rfl, ?_⟩) (by assumption) ?_
  rotate_left
  · intro w hSw
    obtain ⟨q1, q2, q3⟩ := hSw
    go_simp
    try with_reducible rfl
  (try simp only [Act.put, List.setIfInBounds_toArray, List.set_cons_zero, List.set_cons_succ])
  refine take_dst (i := 5) (v := ?_) 10 rfl rfl (by kernel_rfl) (by kernel_rfl) (by kernel_rfl) (fun _ _ _ h => h) (Or.inl ⟨by rfl, ?_⟩) (by assumption) ?_
  rotate_left
  · intro w hSw
    obtain ⟨q1, q2, q3⟩ := hSw
    go_simp
    try with_reducible rfl
  (try simp only [Act.put, List.setIfInBounds_toArray, List.set_cons_zero, List.set_cons_succ])
  refine take_dst (i := 6) (v := ?_) 11 rfl rfl (by kernel_rfl) (by kernel_rfl) (by kernel_rfl) (fun _ _ _ h => h) (Or.inl ⟨by rfl, ?_⟩) (by assumption) ?_
  rotate_left
  · intro w hSw
    obtain ⟨q1, q2, q3⟩ := hSw
    go_simp
    try with_reducible rfl
  (try simp only [Act.put, List.setIfInBounds_toArray, List.set_cons_zero, List.set_cons_succ])
  refine wpAnyH_done (by kernel_rfl) ?_ _
  clear HSS HBS HPL hHeld
  have HX1 := Aside0.mk (blk_below HX.out HB.out)
  have H1 := Aside0.mk (H.out.step HB.out)
  have HB2 := Aside0.mk (below_step HB1.out HB.out)
  clear HX H HB HB1
  have hc1 := blk_cell HX1.out 1
  have hc2 := blk_cell HX1.out 2
  go_wp2_with fail
  refine (provisolaw01_pick.calls op 9 6 _ HP.out).mono ?_
  rintro e w3 ⟨rfl, m3, rfl⟩
  have HX := Aside0.mk (show (wd.drewN m3).heap[b2]? = _ from HX1.out)
  have H := Aside0.mk (H1.out.step (pw_below_drewN (Below.refl _ _) m3))
  have HBA := Aside0.mk (pw_below_drewN HB2.out m3)
  clear HX1 H1 HB2 hc1 hc2
  generalize wd.drewN m3 = w4 at HX H HBA ⊢
  go_wp2_with fail
  refine (Name_s KK nm HK.out w0 n f i HI.out w4 H.out).mono ?_
  rintro e w5 ⟨rfl, hp⟩
  obtain ⟨q, hq⟩ : ∃ q, q = nameR nm (f i).bs (f i).ar := ⟨_, rfl⟩
  rw [← hq] at hp ⊢
  have HQ := Aside0.mk hq
  clear hq
  obtain ⟨sg, k, er⟩ := q
  have HP5 := Aside0.mk hp
  have HX4 := HX
  replace HX := Aside0.mk ((hp.2.2 b2 (blk_lt HX4.out) (fun q => by obtain ⟨cs, hg⟩ := (H.out.all i HI.out).blocks.1; exact typ_ne HX4.out hg (by decide) q)).trans HX4.out)
  clear hp HX4
  go_wp2_with fail
  obtain ⟨A, c, hpl, hbs⟩ := HP5.out.plc HI.out HE.out
  have HSS := Aside0.mk (show ∀ W' : World, Below w5.heap.size w5 W' → W'.cell? ⟨(f i).p, 0, none⟩ = some (.slice A (f i).bs.length c) ∧ W'.cell? ⟨(f i).p, 1, none⟩ = some (.int .i64 ((f i).ar : Int)) ∧ W'.cell? ⟨b2, 2, none⟩ = some (.int .i64 N) from fun W' hW => ⟨blk_cell (blk_below hpl hW) 0, blk_cell (blk_below hpl hW) 1, blk_cell (blk_below HX.out hW) 2⟩)
  have HPL := Aside0.mk hpl
  have HBS := Aside0.mk hbs
  have HB := Aside0.mk (Below.refl w5.heap.size w5)
  clear hpl hbs
  (try simp only [Act.put, List.setIfInBounds_toArray, List.set_cons_zero, List.set_cons_succ])
  refine wp_region_held_drew (S := fun w' => w'.cell? ⟨(f i).p, 0, none⟩ = some (.slice A (f i).bs.length c) ∧ w'.cell? ⟨(f i).p, 1, none⟩ = some (.int .i64 ((f i).ar : Int)) ∧ w'.cell? ⟨b2, 2, none⟩ = some (.int .i64 N)) (by kernel_rfl) ?_ (fun hHeld => ?_)
  · exact HSS.out _ (pw_below_drewN HB.out 1)
  replace HB := Aside0.mk (show Below w5.heap.size w5 w5.drew from pw_below_drewN HB.out 1)
  generalize w5.drew = wd at HB hHeld ⊢
  refine take_dst (i := 0) (v := ?_) 179 rfl rfl (by kernel_rfl) (by kernel_rfl) (by kernel_rfl) (fun _ _ _ h => h) (Or.inl ⟨by rfl, ?_⟩) (by assumption) ?_
  rotate_left
  · intro w hSw
    obtain ⟨q1, q2, q3⟩ := hSw
    go_simp
    try with_reducible rfl
  (try simp only [Act.put, List.setIfInBounds_toArray, List.set_cons_zero, List.set_cons_succ])
  refine take_dst (i := 1) (v := ?_) 180 rfl rfl (by kernel_rfl) (by kernel_rfl) (by kernel_rfl) (fun _ _ _ h => h) (Or.inl ⟨by rfl, ?_⟩) (by assumption) ?_
  rotate_left
  · intro w hSw
    obtain ⟨q1, q2, q3⟩ := hSw
    go_simp
    try with_reducible rfl
  (try simp only [Act.put, List.setIfInBounds_toArray, List.set_cons_zero, List.set_cons_succ])
  refine take_dst (i := 2) (v := ?_) 181 rfl rfl (by kernel_rfl) (by kernel_rfl) (by kernel_rfl) (fun _ _ _ h => h) (Or.inl ⟨by rfl, ?_⟩) (by assumption) ?_
  rotate_left
  · intro w hSw
    obtain ⟨q1, q2, q3⟩ := hSw
    go_simp
    try with_reducible rfl
  (try simp only [Act.put, List.setIfInBounds_toArray, List.set_cons_zero, List.set_cons_succ])
  refine take_dst (i := 3) (v := ?_) 182 rfl rfl (by kernel_rfl) (by kernel_rfl) (by kernel_rfl) (fun _ _ _ h => h) (Or.inl ⟨by rfl, ?_⟩) (by assumption) ?_
  rotate_left
  · intro w hSw
    obtain ⟨q1, q2, q3⟩ := hSw
    go_simp
    try with_reducible rfl
  (try simp only [Act.put, List.setIfInBounds_toArray, List.set_cons_zero, List.set_cons_succ])
  refine take_dst (i := 4) (v := ?_) 183 rfl rfl (by kernel_rfl) (by kernel_rfl) (by kernel_rfl) (fun _ _ _ h => h) (Or.inl ⟨by rfl, ?_⟩) (by assumption) ?_
  rotate_left
  · intro w hSw
    obtain ⟨q1, q2, q3⟩ := hSw
    go_simp
    try with_reducible rfl
  (try simp only [Act.put, List.setIfInBounds_toArray, List.set_cons_zero, List.set_cons_succ])
  refine take_dst (i := 5) (v := ?_) 184 rfl rfl (by kernel_rfl) (by kernel_rfl) (by kernel_rfl) (fun _ _ _ h => h) (Or.inl ⟨by rfl, ?_⟩) (by assumption) ?_
  rotate_left
  · intro w hSw
    obtain ⟨q1, q2, q3⟩ := hSw
    go_simp
    try with_reducible rfl
  (try simp only [Act.put, List.setIfInBounds_toArray, List.set_cons_zero, List.set_cons_succ])
  refine take_dst (i := 6) (v := ?_) 185 rfl rfl (by kernel_rfl) (by kernel_rfl) (by kernel_rfl) (fun _ _ _ h => h) (Or.inl ⟨by rfl, ?_⟩) (by assumption) ?_
  rotate_left
  · intro w hSw
    obtain ⟨q1, q2, q3⟩ := hSw
    go_simp
    try with_reducible rfl
  (try simp only [Act.put, List.setIfInBounds_toArray, List.set_cons_zero, List.set_cons_succ])
  refine take_dst (i := 7) (v := ?_) 186 rfl rfl (by kernel_rfl) (by kernel_rfl) (by kernel_rfl) (fun _ _ _ h => h) (Or.inl ⟨by rfl, ?_⟩) (by assumption) ?_
  rotate_left
  · intro w hSw
    obtain ⟨q1, q2, q3⟩ := hSw
    go_simp
    try with_reducible rfl
  (try simp only [Act.put, List.setIfInBounds_toArray, List.set_cons_zero, List.set_cons_succ])
  refine wpAnyH_ready (rs := [8]) (by kernel_rfl) (by simp) ?_
  refine AllReadyH.cons rfl (fun K hK => ?_) AllReadyH.nil
  go_simp
  refine (Name_d KK nm HK.out (f i).bs HBY.out HLIM.out (f i).ar HLE.out A c _ ((HBS.out.step HB.out).reads (below_step HP5.out.1.below HB.out)) HBS.out.1).mono ?_
  rintro e w6 ⟨rfl, hb6⟩
  have HB6 := HB
  replace HB := Aside0.mk (below_step HB6.out hb6)
  rw [← HQ.out]
  clear hb6 HB6
  go_simp
  refine hK.out _ _ (HSS.out _ HB.out) (fun hHeld => ?_)
  (try simp only [Act.put, List.setIfInBounds_toArray, List.set_cons_zero, List.set_cons_succ])
  clear hK K
  refine take_dst (i := 9) (v := ?_) 178 rfl rfl (by kernel_rfl) (by kernel_rfl) (by kernel_rfl) (fun _ _ _ h => h) (Or.inl ⟨by rfl, ?_⟩) (by assumption) ?_
  rotate_left
  · intro w hSw
    obtain ⟨q1, q2, q3⟩ := hSw
    go_simp
    try with_reducible rfl
  (try simp only [Act.put, List.setIfInBounds_toArray, List.set_cons_zero, List.set_cons_succ])
  refine take_dst (i := 10) (v := ?_) 188 rfl rfl (by kernel_rfl) (by kernel_rfl) (by kernel_rfl) (fun _ _ _ h => h) (Or.inl ⟨by rfl, ?_⟩) (by assumption) ?_
  rotate_left
  · intro w hSw
    obtain ⟨q1, q2, q3⟩ := hSw
    go_simp
    try with_reducible rfl
  (try simp only [Act.put, List.setIfInBounds_toArray, List.set_cons_zero, List.set_cons_succ])
  refine take_dst (i := 11) (v := ?_) 189 rfl rfl (by kernel_rfl) (by kernel_rfl) (by kernel_rfl) (fun _ _ _ h => h) (Or.inl ⟨by rfl, ?_⟩) (by assumption) ?_
  rotate_left
  · intro w hSw
    obtain ⟨q1, q2, q3⟩ := hSw
    go_simp
    try with_reducible rfl
  (try simp only [Act.put, List.setIfInBounds_toArray, List.set_cons_zero, List.set_cons_succ])
  refine take_dst (i := 12) (v := ?_) 190 rfl rfl (by kernel_rfl) (by kernel_rfl) (by kernel_rfl) (fun _ _ _ h => h) (Or.inl ⟨by rfl, ?_⟩) (by assumption) ?_
  rotate_left
  · intro w hSw
    obtain ⟨q1, q2, q3⟩ := hSw
    go_simp
    try with_reducible rfl
  (try simp only [Act.put, List.setIfInBounds_toArray, List.set_cons_zero, List.set_cons_succ])
  refine take_dst (i := 13) (v := ?_) 21 rfl rfl (by kernel_rfl) (by kernel_rfl) (by kernel_rfl) (fun _ _ _ h => h) (Or.inl ⟨by rfl, ?_⟩) (by assumption) ?_
  rotate_left
  · intro w hSw
    obtain ⟨q1, q2, q3⟩ := hSw
    go_simp
    try with_reducible rfl
  (try simp only [Act.put, List.setIfInBounds_toArray, List.set_cons_zero, List.set_cons_succ])
  refine take_dst (i := 14) (v := ?_) 22 rfl rfl (by kernel_rfl) (by kernel_rfl) (by kernel_rfl) (fun _ _ _ h => h) (Or.inl ⟨by rfl, ?_⟩) (by assumption) ?_
  rotate_left
  · intro w hSw
    obtain ⟨q1, q2, q3⟩ := hSw
    go_simp
    try with_reducible rfl
  (try simp only [Act.put, List.setIfInBounds_toArray, List.set_cons_zero, List.set_cons_succ])
  refine take_dst (i := 15) (v := ?_) 23 rfl rfl (by kernel_rfl) (by kernel_rfl) (by kernel_rfl) (fun _ _ _ h => h) (Or.inl ⟨by rfl, ?_⟩) (by assumption) ?_
  rotate_left
  · intro w hSw
    obtain ⟨q1, q2, q3⟩ := hSw
    go_simp
    try with_reducible rfl
  (try simp only [Act.put, List.setIfInBounds_toArray, List.set_cons_zero, List.set_cons_succ])
  refine wpAnyH_done (by kernel_rfl) ?_ _
  have hT := LkPost.turned HI.out HBA.out HP5.out HB.out
  have hpc := blk_cell (blk_below HPL.out HB.out) 1
  have hpf := blk_frozen (blk_below HPL.out HB.out) 1
  have HT := Aside0.mk hT
  clear hT
  go_wp2_with fail
  go_ret3
  exact ⟨k, .inl ⟨rfl, HT.out.1, HT.out.2⟩⟩
end Go.Proofs.Ytklbkonehcjmjaa.P

end

section
namespace Go.Proofs.Ytklbkonehcjmjaa.P
open Go.RowKit Go.Proofs.YtklbkonehcjmjaaW.PrintWords Go.Proofs.YtklbkonehcjmjaaW.PrintLast Go.Proofs.YtklbkonehcjmjaaW.PrintMore
attribute [local go_sem] max2_int min2_int max_two min_two max_three min_three max_four min_four
set_option linter.unusedVariables false
set_option linter.unusedSimpArgs false
theorem look_calls (KK : Nat) (nm : ByteArray → Bool) (hK : RdFacts KK nm) (w0 : World) (n : Nat) (f : Nat → Ent) (i : Nat) (hi : i < n) (W : World) (h : RSt w0 n f W) (he : (f i).ar = (f i).ap) (who op N : Int) :
    Calls Try.prog 38 #[.pointer (some ⟨(f i).g, 0, none⟩), .pointer (some ⟨(f i).p, 0, none⟩), .agg #[.int .i64 who, .int .i64 op, .int .i64 N]] W fun e w' => LkPost w0 n f i W e w' := by
  obtain ⟨k, hk, hp⟩ := pick_some op 9 (by decide) (by decide)
  have hc : k = 0 ∨ k = 1 ∨ k = 2 ∨ k = 3 ∨ k = 4 ∨ k = 5 ∨ k = 6 ∨ k = 7 ∨ k = 8 := by omega
  rcases hc with rfl | rfl | rfl | rfl | rfl | rfl | rfl | rfl | rfl
  · exact look_0 KK nm hK w0 n f i hi W h he who op N hp
  · exact look_1 KK nm hK w0 n f i hi W h he who op N hp
  · exact look_2 KK nm hK w0 n f i hi W h he who op N hp
  · exact look_3 KK nm hK w0 n f i hi W h he who op N hp
  · exact look_4 KK nm hK w0 n f i hi W h he who op N hp
  · exact look_5 KK nm hK w0 n f i hi W h he who op N hp
  · exact look_6 KK nm hK w0 n f i hi W h he who op N hp
  · exact look_7 KK nm hK w0 n f i hi W h he who op N hp
  · exact look_8 KK nm hK w0 n f i hi W h he who op N hp
theorem R_typed_step {α : Type} {d : Kd α} {e base : Nat} {ok : Nat → Prop} {v : Value} {xs : List α} {W W1 : World} (hE : d.E = []) (h : d.R e W base ok v xs) (hk : ∀ (k : Nat) (cs : Array Value), W.heap[k]? = some (Obj.cells cs e (0, 0)) → W1.heap[k]? = W.heap[k]?) : d.R e W1 base ok v xs :=
  Kd.R_mono (Kd.R_move (Kd.R_bound h) (fun k q => by
    obtain ⟨_, _, _, t, ht, cells, hc⟩ := q
    rw [hE] at ht
    obtain rfl := List.mem_singleton.1 ht
    exact hk k cells hc)) (fun _ q => q.1)
def Keeps (W W1 : World) : Prop := ∀ (k : Nat) (cs : Array Value) (t : TypeId), W.heap[k]? = some (Obj.cells cs t (0, 0)) → (t = 5 ∨ t = 79 ∨ t = 65) → W1.heap[k]? = W.heap[k]?
theorem EntAt.keeps {w0 W W1 : World} {e : Ent} (h : EntAt w0 e W) (hk : Keeps W W1) : EntAt w0 e W1 := by
  obtain ⟨⟨r1, r2, v, r3, r4⟩, ge, ⟨A, c, p1, p2, p3⟩, hb, hl⟩ := h
  exact ⟨⟨r1, r2, v, (hk _ _ _ r3 (.inr (.inl rfl))).trans r3, R_typed_step rfl r4 (fun k cs q => hk k cs _ q (.inl rfl))⟩, ge, ⟨A, c, (hk _ _ _ p1 (.inr (.inr rfl))).trans p1, p2, p3.imp id (fun q => R_typed_step rfl q (fun k cs q => hk k cs _ q (.inl rfl)))⟩, hb, hl⟩
theorem RSt.keeps {w0 W W1 : World} {n : Nat} {f : Nat → Ent} (h : RSt w0 n f W) (hk : Keeps W W1) (hb : Below w0.heap.size w0 W1) : RSt w0 n f W1 := ⟨hb, fun i hi => (h.all i hi).keeps hk, h.ng, h.np⟩
def kptr : Kd Nat := Kd.scalar (fun b : Nat => Value.pointer (some ⟨b, 0, none⟩)) (fun _ => rfl)
def rowG (n : Nat) (f : Nat → Ent) : List Nat := (List.range n).map fun i => (f i).g
def rowP (n : Nat) (f : Nat → Ent) : List Nat := (List.range n).map fun i => (f i).p
theorem rowG_len (n : Nat) (f : Nat → Ent) : (rowG n f).length = n := by simp [rowG]
theorem rowP_len (n : Nat) (f : Nat → Ent) : (rowP n f).length = n := by simp [rowP]
theorem rowG_at {n : Nat} (f : Nat → Ent) {i : Nat} (hi : i < n) : rdOf 0 (rowG n f) (i : Int) = (f i).g := by
  simp [rdOf, rowG, List.getD_eq_getElem?_getD, hi]
theorem rowP_at {n : Nat} (f : Nat → Ent) {i : Nat} (hi : i < n) : rdOf 0 (rowP n f) (i : Int) = (f i).p := by
  simp [rdOf, rowP, List.getD_eq_getElem?_getD, hi]
theorem rowG_same {n : Nat} {f f2 : Nat → Ent} (h : ∀ i, i < n → (f2 i).g = (f i).g) : rowG n f2 = rowG n f := List.map_congr_left fun i hi => h i (List.mem_range.1 hi)
theorem rowP_same {n : Nat} {f f2 : Nat → Ent} (h : ∀ i, i < n → (f2 i).p = (f i).p) : rowP n f2 = rowP n f := List.map_congr_left fun i hi => h i (List.mem_range.1 hi)
theorem rowG_succ (n : Nat) (f : Nat → Ent) : rowG (n + 1) f = rowG n f ++ [(f n).g] := by simp [rowG, List.range_succ]
theorem rowP_succ (n : Nat) (f : Nat → Ent) : rowP (n + 1) f = rowP n f ++ [(f n).p] := by simp [rowP, List.range_succ]
structure LSt (w : World) (n : Nat) (f : Nat → Ent) (v9 v10 : Value) (W : World) : Prop where
  st : RSt w n f W
  eq : ∀ j, j < n → (f j).ar = (f j).ap
  rg : kptr.R 31 W w.heap.size (fun _ => True) v9 (rowG n f)
  rp : kptr.R 63 W w.heap.size (fun _ => True) v10 (rowP n f)
theorem LSt.step {w W W1 : World} {n : Nat} {f : Nat → Ent} {v9 v10 : Value} (h : LSt w n f v9 v10 W) (hb : Below W.heap.size W W1) : LSt w n f v9 v10 W1 := ⟨h.st.step hb, h.eq, Kd.R_below h.rg hb, Kd.R_below h.rp hb⟩
theorem LSt.rows {w W W1 : World} {n : Nat} {f : Nat → Ent} {v9 v10 : Value} (h : LSt w n f v9 v10 W) {i : Nat} (hi : i < n) (hk : Kept W W1 (fun b => b = (f i).g ∨ b = (f i).p)) : kptr.R 31 W1 w.heap.size (fun _ => True) v9 (rowG n f) ∧ kptr.R 63 W1 w.heap.size (fun _ => True) v10 (rowP n f) := by
  obtain ⟨⟨c1, h1⟩, ⟨c2, h2⟩⟩ := (h.st.all i hi).blocks
  refine ⟨R_typed_step rfl h.rg (fun k cs q => hk.2 k (blk_lt q) (fun e => ?_)), R_typed_step rfl h.rp (fun k cs q => hk.2 k (blk_lt q) (fun e => ?_))⟩
  · rcases e with e | e
    · exact typ_ne q h1 (by decide) e
    · exact typ_ne q h2 (by decide) e
  · rcases e with e | e
    · exact typ_ne q h1 (by decide) e
    · exact typ_ne q h2 (by decide) e
theorem upPR (f : Nat → Ent) (i k j : Nat) : (upP (upR f i k) i k j).g = (f j).g ∧ (upP (upR f i k) i k j).p = (f j).p ∧ ((f j).ar = (f j).ap → (upP (upR f i k) i k j).ar = (upP (upR f i k) i k j).ap) := by
  refine ⟨(upP_same _ i k j).1.trans (upR_same f i k j).1, (upP_same _ i k j).2.1.trans (upR_same f i k j).2.1, fun h => ?_⟩
  unfold upP upR
  by_cases e : j = i
  · rw [if_pos e, if_pos rfl]
  · rw [if_neg e, if_neg e]; exact h
theorem LSt.looked {w W W1 : World} {n : Nat} {f : Nat → Ent} {v9 v10 : Value} (h : LSt w n f v9 v10 W) {i k : Nat} (hi : i < n) (hs : RSt w n (upP (upR f i k) i k) W1) (hk : Kept W W1 (fun b => b = (f i).g ∨ b = (f i).p)) : LSt w n (upP (upR f i k) i k) v9 v10 W1 := by
  obtain ⟨h1, h2⟩ := h.rows hi hk
  refine ⟨hs, fun j hj => (upPR f i k j).2.2 (h.eq j hj), ?_, ?_⟩
  · rw [rowG_same (f2 := upP (upR f i k) i k) (fun j _ => (upPR f i k j).1)]; exact h1
  · rw [rowP_same (f2 := upP (upR f i k) i k) (fun j _ => (upPR f i k j).2.1)]; exact h2
structure LMid (w : World) (n : Nat) (f : Nat → Ent) (v9 v10 : Value) (gs ps : List Nat) (W : World) : Prop where
  st : RSt w (n + 1) f W
  eq : ∀ j, j < n + 1 → (f j).ar = (f j).ap
  rg : kptr.R 31 W w.heap.size (fun _ => True) v9 gs
  rp : kptr.R 63 W w.heap.size (fun _ => True) v10 ps
theorem LSt.more {w W W1 : World} {n : Nat} {f : Nat → Ent} {v9 v10 : Value} (h : LSt w n f v9 v10 W) {i k : Nat} (hi : i < n) (e2 : Ent) (he : e2.ar = e2.ap) (hs : RSt w (n + 1) (fun j => if j = n then e2 else upP (upR f i k) i k j) W1) (hk : Kept W W1 (fun b => b = (f i).g ∨ b = (f i).p)) :
    ∃ f2, LMid w n f2 v9 v10 (rowG n f2) (rowP n f2) W1 ∧ (f2 n).g = e2.g ∧ (f2 n).p = e2.p := by
  obtain ⟨h1, h2⟩ := h.rows hi hk
  refine ⟨fun j => if j = n then e2 else upP (upR f i k) i k j, ⟨hs, fun j hj => ?_, ?_, ?_⟩, by simp, by simp⟩
  · by_cases q : j = n
    · rw [if_pos q]; exact he
    · rw [if_neg q]; exact (upPR f i k j).2.2 (h.eq j (by omega))
  · rw [rowG_same (f := f) (fun j hj => by rw [if_neg (by omega)]; exact (upPR f i k j).1)]; exact h1
  · rw [rowP_same (f := f) (fun j hj => by rw [if_neg (by omega)]; exact (upPR f i k j).2.1)]; exact h2
theorem grown_keeps {W W1 : World} {v : Value} {t : TypeId} (ht : ∀ k, v.ownBlock = some k → ∃ cells, W.heap[k]? = some (.cells cells t (0, 0))) (hn : t ≠ 5 ∧ t ≠ 79 ∧ t ≠ 65) (hg : W.grownBy W1 v.ownBlock) : Keeps W W1 := fun k cs u hc hu => hg.block k (blk_lt hc) (fun q => by
  obtain ⟨ds, hd⟩ := ht k q.symm
  rw [hc] at hd
  injection hd with hd
  injection hd with _ hd _
  subst hd
  rcases hu with rfl | rfl | rfl
  · exact hn.1 rfl
  · exact hn.2.1 rfl
  · exact hn.2.2 rfl)
theorem LMid.gotG {w W W1 : World} {n : Nat} {f : Nat → Ent} {v9 v10 v : Value} {gs ps gs' : List Nat} (h : LMid w n f v9 v10 gs ps W) (hr : kptr.R 31 W1 w.heap.size (fun _ => True) v gs') (hb : Below w.heap.size w W1) (hg : W.grownBy W1 v9.ownBlock) : LMid w n f v v10 gs' ps W1 :=
  ⟨h.st.keeps (grown_keeps (Kd.R_typed h.rg) (by decide) hg) hb, h.eq, hr, Kd.R_over' h.rp (Kd.R_typed h.rg) (fun q hq => by rw [show kptr.E = [] from rfl] at hq; rw [List.mem_singleton.1 hq]; decide) hg⟩
theorem LMid.gotP {w W W1 : World} {n : Nat} {f : Nat → Ent} {v9 v10 v : Value} {gs ps ps' : List Nat} (h : LMid w n f v9 v10 gs ps W) (hr : kptr.R 63 W1 w.heap.size (fun _ => True) v ps') (hb : Below w.heap.size w W1) (hg : W.grownBy W1 v10.ownBlock) : LMid w n f v9 v gs ps' W1 :=
  ⟨h.st.keeps (grown_keeps (Kd.R_typed h.rp) (by decide) hg) hb, h.eq, Kd.R_over' h.rg (Kd.R_typed h.rp) (fun q hq => by rw [show kptr.E = [] from rfl] at hq; rw [List.mem_singleton.1 hq]; decide) hg, hr⟩
theorem LMid.done {w W : World} {n : Nat} {f : Nat → Ent} {v9 v10 : Value} (h : LMid w n f v9 v10 (rowG n f ++ [(f n).g]) (rowP n f ++ [(f n).p]) W) : LSt w (n + 1) f v9 v10 W := ⟨h.st, h.eq, by rw [rowG_succ]; exact h.rg, by rw [rowP_succ]; exact h.rp⟩
theorem ptr_lit (W : World) (t g : Nat) : kptr.R t (W.alloc (.cells #[.pointer (some ⟨g, 0, none⟩)] t (0, 0))) W.heap.size (fun _ => True) (.slice (some ⟨W.heap.size, 0, none⟩) 1 1) [g] :=
  ⟨fun _ _ => trivial, [.pointer (some ⟨g, 0, none⟩)], ⟨rfl, .inr ⟨W.heap.size, 1, _, rfl, Nat.le_refl _, blk_new _ _, Nat.le_refl _, by decide, rfl, rfl⟩⟩, Kd.reps_scalar (enc := fun b : Nat => Value.pointer (some ⟨b, 0, none⟩)) [g]⟩
theorem ptr_fits {n : Nat} (h : n ≤ 8796093022208) : Builtin.nextslicecap (n + 1) n * 8 ≤ 281474976710656 := growslice_fits (Nat.lt_succ_self n) (by omega)
theorem RdAt.low {base g : Nat} {bs : List Int} {at_ : Nat} {W : World} (h : RdAt base g bs at_ W) {p : Addr} (hp : p.block < base) (u : Value) : RdAt base g bs at_ (W.setCell p u) := by
  obtain ⟨h1, h2, v, h3, h4⟩ := h
  exact ⟨h1, h2, v, blk_far h3 (by omega) _, Kd.R_mono (Kd.R_far (Kd.R_bound h4) (fun k hk => by have := hk.2.1; omega) u) (fun _ hk => hk.1)⟩
theorem RdAt.lower {base base' g : Nat} {bs : List Int} {at_ : Nat} {W : World} (h : RdAt base g bs at_ W) (hb : base' ≤ base) : RdAt base' g bs at_ W := by
  obtain ⟨h1, h2, v, h3, h4⟩ := h
  exact ⟨h1, Nat.le_trans hb h2, v, h3, Kd.R_lower h4 hb⟩
theorem start_st {w wr : World} {b0 g c0 : Nat} {A0 : Option Addr} {l0 : List Int} (hb : Below w.heap.size w wr) (hw : w.heap.size ≤ b0) (hr : RdAt b0 g l0 0 wr) (hC : Kd.C (Kd.int .u8) w A0 l0.length l0) (hc : l0.length ≤ c0) (hby : ∀ x ∈ l0, 0 ≤ x ∧ x ≤ 255) (hl : l0.length ≤ 140737488351232) :
    LSt w 1 (fun _ => ⟨g, wr.heap.size + 1, l0, 0, 0⟩) (.slice (some ⟨wr.heap.size, 0, none⟩) 1 1) (.slice (some ⟨wr.heap.size + 1 + 1, 0, none⟩) 1 1)
      (((wr.alloc (.cells #[.pointer (some ⟨g, 0, none⟩)] 31 (0, 0))).alloc (.cells #[.slice A0 l0.length c0, .int .i64 0] 65 (0, 0))).alloc (.cells #[.pointer (some ⟨wr.heap.size + 1, 0, none⟩)] 63 (0, 0))) := by
  have h1 : Below wr.heap.size wr (wr.alloc (.cells #[.pointer (some ⟨g, 0, none⟩)] 31 (0, 0))) := below_alloc (Below.refl _ _) _
  have z1 : (wr.alloc (.cells #[.pointer (some ⟨g, 0, none⟩)] 31 (0, 0))).heap.size = wr.heap.size + 1 := by simp
  have q1 := Kd.R_lower (ptr_lit wr 31 g) hb.size
  have hr1 := hr.step h1
  have hb1 := below_step hb h1
  generalize (wr.alloc (.cells #[.pointer (some ⟨g, 0, none⟩)] 31 (0, 0))) = w1 at *
  have h2 : Below w1.heap.size w1 (w1.alloc (.cells #[.slice A0 l0.length c0, .int .i64 0] 65 (0, 0))) := below_alloc (Below.refl _ _) _
  have z2 : (w1.alloc (.cells #[.slice A0 l0.length c0, .int .i64 0] 65 (0, 0))).heap.size = w1.heap.size + 1 := by simp
  have q2 := blk_new w1 (.cells #[.slice A0 l0.length c0, .int .i64 0] 65 (0, 0))
  have hr2 := hr1.step h2
  have q1' := Kd.R_below q1 h2
  have hb2 := below_step hb1 h2
  generalize (w1.alloc (.cells #[.slice A0 l0.length c0, .int .i64 0] 65 (0, 0))) = w2 at *
  have h3 : Below w2.heap.size w2 (w2.alloc (.cells #[.pointer (some ⟨wr.heap.size + 1, 0, none⟩)] 63 (0, 0))) := below_alloc (Below.refl _ _) _
  have q3 := Kd.R_lower (ptr_lit w2 63 (wr.heap.size + 1)) (Nat.le_trans hb1.size h2.size)
  rw [z1] at q2 z2
  rw [z2] at q3
  have hsz := hb.size
  refine ⟨⟨below_step hb2 h3, fun i hi => ⟨(hr2.step h3).lower hw, ?_, ⟨A0, c0, blk_below q2 h3, hc, .inl hC⟩, hby, hl⟩, fun i j _ _ _ => by omega, fun i j _ _ _ => by omega⟩, fun _ _ => rfl, ?_, ?_⟩
  · show w.heap.size ≤ wr.heap.size + 1
    omega
  · exact Kd.R_below q1' h3
  · exact q3
end Go.Proofs.Ytklbkonehcjmjaa.P

end

section
namespace Go.Proofs.Ytklbkonehcjmjaa.P
open Go.RowKit Go.Proofs.YtklbkonehcjmjaaW.PrintWords Go.Proofs.YtklbkonehcjmjaaW.PrintLast Go.Proofs.YtklbkonehcjmjaaW.PrintMore
attribute [local go_sem] max2_int min2_int max_two min_two max_three min_three max_four min_four
set_option linter.unusedVariables false
set_option linter.unusedSimpArgs false
def provisolaw01_WireReads.Facts (l0 : List Int) (l1 : List S68) : Prop := (∃ (K : Nat) (nm : ByteArray → Bool), RdFacts K nm ∧ provisoplain_Untouched.f K (l0 ++ [165, 90, 195, 60]) l0 = some true) ∧ l0.length ≤ 140737488351232 ∧ (∀ x ∈ l0, 0 ≤ x ∧ x ≤ 255) ∧ l1.length ≤ 5864062014805
set_option maxHeartbeats 6400000 in
set_option maxRecDepth 100000 in
theorem provisolaw01_WireReads.calls (A0 : Option Addr) (c0 : Nat) (l0 : List Int) (A1 : Option Addr) (c1 : Nat) (l1 : List S68) (w : World) (hr0 : Kd.C (Kd.int .u8) w A0 l0.length l0) (hc0 : l0.length ≤ c0) (hr1 : Kd.C k68 w A1 l1.length l1) (hc1 : l1.length ≤ c1) (h : provisolaw01_WireReads.Facts l0 l1) :
    Calls Try.prog 8 #[.slice A0 l0.length c0, .slice A1 l1.length c1] w fun e w' => e = .returned (.bool true) ∧ Below w.heap.size w w' := by
  obtain ⟨⟨KK, nm, hK, hU⟩, hlim, hby, hl1⟩ := h
  have HK := Aside0.mk hK
  have HU := Aside0.mk hU
  have HLIM := Aside0.mk hlim
  have HBY := Aside0.mk hby
  have HL1 := Aside0.mk hl1
  have HR0 := Aside0.mk hr0
  have HC0 := Aside0.mk hc0
  have HR1 := Aside0.mk hr1
  clear hK hU hlim hby hl1 hr0 hc0 hr1 hc1
  go_enter Try.func8, Try.ntmps8
  go_wp2_with fail
  refine (Roomy_calls A0 c0 l0 w HR0.out HC0.out HLIM.out).mono ?_
  rintro e_ w3 ⟨A, c, rfl, hcap, hR, hb⟩
  have HCAP := Aside0.mk hcap
  obtain ⟨ad, hAd, _⟩ := Kd.at_int (Kd.R_reads' hR).2.2 0 (by omega) (by simp; omega)
  subst hAd
  obtain ⟨ga, rfl⟩ := Kd.R_head hR
  have HRr := Aside0.mk (Kd.R_mono (Kd.R_bound hR) (ok' := fun k => w.heap.size ≤ k ∧ k < w3.heap.size) (fun k hk => ⟨hk.2.1, hk.2.2.1⟩))
  have HGA : Aside0 (w.heap.size ≤ ga ∧ ga < w3.heap.size) := ⟨HRr.out.1 ga rfl⟩
  have HB := Aside0.mk hb
  have hgv : Kd.C (Kd.int .u8) w3 (some ⟨ga, 0, none⟩) l0.length l0 := by
    have h9 := Kd.C_take (Kd.R_reads' hR).2.2 (m := l0.length) (by simp)
    rwa [List.take_left] at h9
  have HGV := Aside0.mk hgv
  clear hR hb hgv hcap
  go_wp2_with fail
  refine (Over_calls (some ⟨ga, 0, none⟩) c l0 w3 HGV.out (by have := HCAP.out; omega) (by have := HLIM.out; omega)).mono ?_
  rintro e_ w4 ⟨g, rfl, hrd, hb⟩
  have HRD := Aside0.mk hrd
  replace HRr := Aside0.mk (Kd.R_below HRr.out hb)
  have HB4 := Aside0.mk (below_step HB.out hb)
  clear hrd hb
  have hlen4 : (l0 ++ [165, 90, 195, 60]).length = l0.length + 4 := by simp
  have hun := provisoplain_Untouched.calls KK (some ⟨ga, 0, none⟩) c (l0 ++ [165, 90, 195, 60]) A0 c0 l0 true w4 (Kd.R_reads' HRr.out).2.2 (by rw [hlen4]; exact HCAP.out) (Kd.C_below HR0.out HB4.out) HC0.out HU.out
  rw [hlen4] at hun
  go_wp2_with fail
  clear hlen4
  refine hun.mono ?_
  clear hun
  rintro e_ w6 ⟨rfl, q0⟩
  have q2 := q0.below
  replace HRr := Aside0.mk (Kd.R_below HRr.out q2)
  replace HRD := Aside0.mk (HRD.out.step q2)
  replace HB4 := Aside0.mk (below_step HB4.out q2)
  clear q0 q2
  go_wp2_with fail
  go_loopw [36, 8] (fun v36 v8 wr => ∃ i : Nat, v36 = .int .i64 (i : Int) ∧ i ≤ l0.length ∧ Aside0 (Below w.heap.size w wr) ∧ Aside0 (RdAt w3.heap.size g l0 0 wr) ∧ Aside0 (∃ ys : List Int, Kd.R (Kd.int .u8) 5 wr w.heap.size (fun k => w.heap.size ≤ k ∧ k < w3.heap.size) (.slice (some ⟨ga, 0, none⟩) (l0.length + 4) c) ys)) (fun v36 _ _ => ((l0.length : Int) - intOf v36).toNat)
  case atStart => exact ⟨0, rfl, Nat.zero_le _, HB4, HRD, ⟨_, Kd.R_mono HRr.out (fun k hk => hk)⟩⟩
  case round =>
    clear HRr HRD HB4
    obtain ⟨i, rfl, hi, HB4, HRD, HRr⟩ := hrel
    by_cases c1 : i < l0.length
    · have c1b : decide ((i : Int) < (l0.length : Int)) = true := decide_eq_true (by omega)
      have p1 : (0 ≤ (i : Int)) = True := eq_true (by omega)
      have p2 : ((i : Int) < (l0.length : Int)) = True := eq_true (by omega)
      have HI : Aside0 (i < l0.length) := ⟨c1⟩
      obtain ⟨ys, hR⟩ := HRr.out
      obtain ⟨hc1, hf1⟩ := Kd.R_celln 0 hR (i : Int) (by omega) (by omega)
      rw [Int.toNat_natCast] at hc1 hf1
      have HR := Aside0.mk hR
      obtain ⟨z, hz⟩ : ∃ z, rdOf 0 ys (i : Int) = z := ⟨_, rfl⟩
      rw [hz] at hc1
      have HW9 : Aside0 (wrap64 ((i : Int) + 1) = ((i + 1 : Nat) : Int)) := ⟨by have := HLIM.out; unfold wrap64; omega⟩
      clear hR hz HRr c1
      go_wp2_with fail
      have hrow := Kd.R_putn HR.out (i : Int) (bits BinOp.xor IntKind.u8 z 255)
      rw [Int.toNat_natCast] at hrow
      have HROW := Aside0.mk hrow
      have HRD2 := Aside0.mk (HRD.out.low (p := ⟨ga, i, none⟩) HGA.out.2 (.int .u8 (bits BinOp.xor IntKind.u8 z 255)))
      have HB5 := Aside0.mk (HB4.out.setCell (p := ⟨ga, i, none⟩) HGA.out.1 (.int .u8 (bits BinOp.xor IntKind.u8 z 255)))
      clear hrow
      go_roundw
      case rel => exact ⟨i + 1, (by rw [HW9.out]), HI.out, HB5, HRD2, ⟨_, HROW.out⟩⟩
      case measure => rw [HW9.out]; have := HI.out; show ((l0.length : Int) - ((i + 1 : Nat) : Int)).toNat < ((l0.length : Int) - (i : Int)).toNat; omega
    · have c1b : decide ((i : Int) < (l0.length : Int)) = false := decide_eq_false (by omega)
      have c1n : decide (i < l0.length) = false := decide_eq_false c1
      clear c1 hi HRr
      go_wp2_with fail
      have HST := Aside0.mk (start_st HB4.out (Nat.le_trans HGA.out.1 (Nat.le_of_lt HGA.out.2)) HRD.out HR0.out HC0.out HBY.out HLIM.out)
      clear HRD HB4 c1b c1n
      generalize wr.heap.size = nr at HST ⊢
      generalize (((wr.alloc (.cells #[.pointer (some ⟨g, 0, none⟩)] 31 (0, 0))).alloc (.cells #[.slice A0 l0.length c0, .int .i64 0] 65 (0, 0))).alloc (.cells #[.pointer (some ⟨nr + 1, 0, none⟩)] 63 (0, 0))) = wq at HST ⊢
      go_loopw [54, 9, 10] (fun v54 v9 v10 wr => ∃ (i n : Nat) (f : Nat → Ent), v54 = .int .i64 (i : Int) ∧ i ≤ l1.length ∧ Aside0 (1 ≤ n ∧ n ≤ i + 1) ∧ (∃ A9 c9 A10 c10, v9 = .slice A9 n c9 ∧ v10 = .slice A10 n c10) ∧ Aside0 (LSt w n f v9 v10 wr)) (fun v54 _ _ _ => ((l1.length : Int) - intOf v54).toNat)
      case atStart => exact ⟨0, 1, _, rfl, Nat.zero_le _, ⟨by omega⟩, ⟨_, _, _, _, rfl, rfl⟩, HST⟩
      case round =>
        clear HST
        obtain ⟨i, n, f, rfl, hi, HN, ⟨A9, c9, A10, c10, rfl, rfl⟩, HST⟩ := hrel
        by_cases c1 : i < l1.length
        · have c1b : decide ((i : Int) < (l1.length : Int)) = true := decide_eq_true (by omega)
          have c1n : decide (i < l1.length) = true := decide_eq_true c1
          have p1 : (0 ≤ (i : Int)) = True := eq_true (by omega)
          have p2 : ((i : Int) < (l1.length : Int)) = True := eq_true (by omega)
          have HI : Aside0 (i < l1.length) := ⟨c1⟩
          have HW9 : Aside0 (wrap64 ((i : Int) + 1) = ((i + 1 : Nat) : Int)) := ⟨by have := HL1.out; unfold wrap64; omega⟩
          obtain ⟨ad, e1, hx0, hx1, hx2⟩ := at_T68 HR1.out (i : Int) (by omega) (by omega)
          cases e1
          have hbx := HST.out.st.below
          replace hx0 := (hbx.cell (World.block_lt_of_cell? w _ hx0)).trans hx0
          replace hx1 := (hbx.cell (World.block_lt_of_cell? w _ hx1)).trans hx1
          replace hx2 := (hbx.cell (World.block_lt_of_cell? w _ hx2)).trans hx2
          simp only [Int.toNat_natCast] at hx0 hx1 hx2
          generalize rd_T68 l1 (i : Int) = x at hx0 hx1 hx2
          clear hbx c1
          go_wp2_with fail
          have hx := blk_new wr (.cells #[.int .i64 x.f0, .int .i64 x.f1, .int .i64 x.f2] 68 (0, 0))
          replace HST := Aside0.mk (HST.out.step (below_alloc (Below.refl wr.heap.size wr) (.cells #[.int .i64 x.f0, .int .i64 x.f1, .int .i64 x.f2] 68 (0, 0))))
          clear hx0 hx1 hx2
          generalize (wr.alloc (.cells #[.int .i64 x.f0, .int .i64 x.f1, .int .i64 x.f2] 68 (0, 0))) = wz at hx HST ⊢
          generalize wr.heap.size = bx at hx ⊢
          obtain ⟨i2, hi2, hpk⟩ := pick_some x.f0 n (by have := HN.out; omega) (by have := HN.out; have := HL1.out; omega)
          refine (provisolaw01_pick.calls x.f0 (n : Int) _ _ hpk).mono ?_
          rintro e_ wy ⟨rfl, my, rfl⟩
          have HX := Aside0.mk (show (wz.drewN my).heap[bx]? = _ from hx)
          replace HST := Aside0.mk (HST.out.step (pw_below_drewN (Below.refl _ _) my))
          have HI2 := Aside0.mk hi2
          clear hx hpk
          generalize wz.drewN my = w7 at HST HX ⊢
          obtain ⟨gA, rfl⟩ : ∃ gA, A9 = some ⟨gA, 0, none⟩ := by
            obtain ⟨ad, c, e⟩ := Kd.R_slice1 HST.out.rg (by rw [rowG_len]; omega)
            injection e with e _ _
            subst e
            obtain ⟨ga, rfl⟩ := Kd.R_head HST.out.rg
            exact ⟨ga, rfl⟩
          obtain ⟨gP, rfl⟩ : ∃ gP, A10 = some ⟨gP, 0, none⟩ := by
            obtain ⟨ad, c, e⟩ := Kd.R_slice1 HST.out.rp (by rw [rowP_len]; omega)
            injection e with e _ _
            subst e
            obtain ⟨ga, rfl⟩ := Kd.R_head HST.out.rp
            exact ⟨ga, rfl⟩
          have HSS := Aside0.mk (show ∀ W' : World, kptr.R 31 W' w.heap.size (fun _ => True) (.slice (some ⟨gA, 0, none⟩) n c9) (rowG n f) → kptr.R 63 W' w.heap.size (fun _ => True) (.slice (some ⟨gP, 0, none⟩) n c10) (rowP n f) → W'.heap[bx]? = some (.cells #[.int .i64 x.f0, .int .i64 x.f1, .int .i64 x.f2] 68 (0, 0)) → (W'.cell? ⟨gA, i2, none⟩ = some (.pointer (some ⟨(f i2).g, 0, none⟩)) ∧ W'.cell? ⟨gP, i2, none⟩ = some (.pointer (some ⟨(f i2).p, 0, none⟩)) ∧ W'.cell? ⟨bx, 0, none⟩ = some (.int .i64 x.f0) ∧ W'.cell? ⟨bx, 1, none⟩ = some (.int .i64 x.f1) ∧ W'.cell? ⟨bx, 2, none⟩ = some (.int .i64 x.f2)) from fun W' h1 h2 h3 => by
            have q1 := (Kd.R_celln 0 h1 (i2 : Int) (by omega) (by omega)).1
            have q2 := (Kd.R_celln 0 h2 (i2 : Int) (by omega) (by omega)).1
            rw [rowG_at f hi2, Int.toNat_natCast] at q1
            rw [rowP_at f hi2, Int.toNat_natCast] at q2
            exact ⟨q1, q2, blk_cell h3 0, blk_cell h3 1, blk_cell h3 2⟩)
          have p3 : (0 ≤ (i2 : Int)) = True := eq_true (by omega)
          have p4 : ((i2 : Int) < (n : Int)) = True := eq_true (by omega)
          have p5 : (i2 < n) = True := eq_true hi2
          go_wp2_with fail
          (try simp only [Act.put, List.setIfInBounds_toArray, List.set_cons_zero, List.set_cons_succ])
          refine wp_region_held_drew (S := (fun w' => w'.cell? ⟨gA, i2, none⟩ = some (.pointer (some ⟨(f i2).g, 0, none⟩)) ∧ w'.cell? ⟨gP, i2, none⟩ = some (.pointer (some ⟨(f i2).p, 0, none⟩)) ∧ w'.cell? ⟨bx, 0, none⟩ = some (.int .i64 x.f0) ∧ w'.cell? ⟨bx, 1, none⟩ = some (.int .i64 x.f1) ∧ w'.cell? ⟨bx, 2, none⟩ = some (.int .i64 x.f2))) (by kernel_rfl) ?_ (fun hHeld => ?_)
          · exact HSS.out _ (Kd.R_drewN HST.out.rg 1) (Kd.R_drewN HST.out.rp 1) HX.out
          replace HST := Aside0.mk (HST.out.step (show Below w7.heap.size w7 w7.drew from pw_below_drewN (Below.refl _ _) 1))
          replace HX := Aside0.mk (show w7.drew.heap[bx]? = _ from HX.out)
          clear p1 p2 hi2
          generalize w7.drew = wd at HST HX hHeld ⊢
          refine take_dst (i := 0) (v := ?_) 64 rfl rfl (by kernel_rfl) (by kernel_rfl) (by kernel_rfl) (fun _ _ _ h => h) (Or.inl ⟨by rfl, ?_⟩) (by assumption) ?_
          rotate_left
          · intro w hSw
            obtain ⟨q1, q2, q3, q4, q5⟩ := hSw
            go_simp
            try with_reducible rfl
          (try simp only [Act.put, List.setIfInBounds_toArray, List.set_cons_zero, List.set_cons_succ])
          refine take_dst (i := 1) (v := ?_) 65 rfl rfl (by kernel_rfl) (by kernel_rfl) (by kernel_rfl) (fun _ _ _ h => h) (Or.inl ⟨by rfl, ?_⟩) (by assumption) ?_
          rotate_left
          · intro w hSw
            obtain ⟨q1, q2, q3, q4, q5⟩ := hSw
            go_simp
            try with_reducible rfl
          (try simp only [Act.put, List.setIfInBounds_toArray, List.set_cons_zero, List.set_cons_succ])
          refine take_dst (i := 2) (v := ?_) 66 rfl rfl (by kernel_rfl) (by kernel_rfl) (by kernel_rfl) (fun _ _ _ h => h) (Or.inl ⟨by rfl, ?_⟩) (by assumption) ?_
          rotate_left
          · intro w hSw
            obtain ⟨q1, q2, q3, q4, q5⟩ := hSw
            go_simp
            try with_reducible rfl
          (try simp only [Act.put, List.setIfInBounds_toArray, List.set_cons_zero, List.set_cons_succ])
          refine take_dst (i := 3) (v := ?_) 67 rfl rfl (by kernel_rfl) (by kernel_rfl) (by kernel_rfl) (fun _ _ _ h => h) (Or.inl ⟨by rfl, ?_⟩) (by assumption) ?_
          rotate_left
          · intro w hSw
            obtain ⟨q1, q2, q3, q4, q5⟩ := hSw
            go_simp
            try with_reducible rfl
          (try simp only [Act.put, List.setIfInBounds_toArray, List.set_cons_zero, List.set_cons_succ])
          refine take_dst (i := 4) (v := ?_) 68 rfl rfl (by kernel_rfl) (by kernel_rfl) (by kernel_rfl) (fun _ _ _ h => h) (Or.inl ⟨by rfl, ?_⟩) (by assumption) ?_
          rotate_left
          · intro w hSw
            obtain ⟨q1, q2, q3, q4, q5⟩ := hSw
            go_simp
            try with_reducible rfl
          (try simp only [Act.put, List.setIfInBounds_toArray, List.set_cons_zero, List.set_cons_succ])
          refine take_dst (i := 5) (v := ?_) 69 rfl rfl (by kernel_rfl) (by kernel_rfl) (by kernel_rfl) (fun _ _ _ h => h) (Or.inl ⟨by rfl, ?_⟩) (by assumption) ?_
          rotate_left
          · intro w hSw
            obtain ⟨q1, q2, q3, q4, q5⟩ := hSw
            go_simp
            try with_reducible rfl
          (try simp only [Act.put, List.setIfInBounds_toArray, List.set_cons_zero, List.set_cons_succ])
          refine take_dst (i := 6) (v := ?_) 70 rfl rfl (by kernel_rfl) (by kernel_rfl) (by kernel_rfl) (fun _ _ _ h => h) (Or.inl ⟨by rfl, ?_⟩) (by assumption) ?_
          rotate_left
          · intro w hSw
            obtain ⟨q1, q2, q3, q4, q5⟩ := hSw
            go_simp
            try with_reducible rfl
          (try simp only [Act.put, List.setIfInBounds_toArray, List.set_cons_zero, List.set_cons_succ])
          refine take_dst (i := 7) (v := ?_) 71 rfl rfl (by kernel_rfl) (by kernel_rfl) (by kernel_rfl) (fun _ _ _ h => h) (Or.inl ⟨by rfl, ?_⟩) (by assumption) ?_
          rotate_left
          · intro w hSw
            obtain ⟨q1, q2, q3, q4, q5⟩ := hSw
            go_simp
            try with_reducible rfl
          (try simp only [Act.put, List.setIfInBounds_toArray, List.set_cons_zero, List.set_cons_succ])
          refine take_dst (i := 8) (v := ?_) 72 rfl rfl (by kernel_rfl) (by kernel_rfl) (by kernel_rfl) (fun _ _ _ h => h) (Or.inl ⟨by rfl, ?_⟩) (by assumption) ?_
          rotate_left
          · intro w hSw
            obtain ⟨q1, q2, q3, q4, q5⟩ := hSw
            go_simp
            try with_reducible rfl
          (try simp only [Act.put, List.setIfInBounds_toArray, List.set_cons_zero, List.set_cons_succ])
          refine wpAnyH_ready (rs := [9]) (by kernel_rfl) (by simp) ?_
          refine AllReadyH.cons rfl (fun K hK => ?_) AllReadyH.nil
          go_simp
          refine (look_calls KK nm HK.out w n f i2 HI2.out _ HST.out.st (HST.out.eq _ HI2.out) x.f0 x.f1 x.f2).mono ?_
          intro e w8 hpost
          obtain ⟨k, ⟨rfl, hs, hk⟩ | ⟨e2, rfl, he2, hg2, hp2, hs, hk⟩⟩ := hpost
          · have hrows := HST.out.rows HI2.out hk
            have hx8 : w8.heap[bx]? = _ := (hk.2 bx (blk_lt HX.out) (fun q => by
              obtain ⟨⟨c1, h1⟩, ⟨c2, h2⟩⟩ := (HST.out.st.all i2 HI2.out).blocks
              rcases q with q | q
              · exact typ_ne HX.out h1 (by decide) q
              · exact typ_ne HX.out h2 (by decide) q)).trans HX.out
            have HS8 := Aside0.mk (HSS.out _ hrows.1 hrows.2 hx8)
            have HLS := Aside0.mk (HST.out.looked HI2.out hs hk)
            clear hrows hx8 hs hk HST HSS hHeld
            go_simp
            refine hK.out _ _ HS8.out (fun hHeld => ?_)
            (try simp only [Act.put, List.setIfInBounds_toArray, List.set_cons_zero, List.set_cons_succ])
            clear hK K HS8
            refine take_dst (i := 10) (v := ?_) 63 rfl rfl (by kernel_rfl) (by kernel_rfl) (by kernel_rfl) (fun _ _ _ h => h) (Or.inl ⟨by rfl, ?_⟩) (by assumption) ?_
            rotate_left
            · intro w hSw
              obtain ⟨q1, q2, q3, q4, q5⟩ := hSw
              go_simp
              try with_reducible rfl
            (try simp only [Act.put, List.setIfInBounds_toArray, List.set_cons_zero, List.set_cons_succ])
            refine take_dst (i := 11) (v := ?_) 74 rfl rfl (by kernel_rfl) (by kernel_rfl) (by kernel_rfl) (fun _ _ _ h => h) (Or.inl ⟨by rfl, ?_⟩) (by assumption) ?_
            rotate_left
            · intro w hSw
              obtain ⟨q1, q2, q3, q4, q5⟩ := hSw
              go_simp
              try with_reducible rfl
            (try simp only [Act.put, List.setIfInBounds_toArray, List.set_cons_zero, List.set_cons_succ])
            refine take_dst (i := 12) (v := ?_) 75 rfl rfl (by kernel_rfl) (by kernel_rfl) (by kernel_rfl) (fun _ _ _ h => h) (Or.inl ⟨by rfl, ?_⟩) (by assumption) ?_
            rotate_left
            · intro w hSw
              obtain ⟨q1, q2, q3, q4, q5⟩ := hSw
              go_simp
              try with_reducible rfl
            (try simp only [Act.put, List.setIfInBounds_toArray, List.set_cons_zero, List.set_cons_succ])
            refine take_dst (i := 13) (v := ?_) 76 rfl rfl (by kernel_rfl) (by kernel_rfl) (by kernel_rfl) (fun _ _ _ h => h) (Or.inl ⟨by rfl, ?_⟩) (by assumption) ?_
            rotate_left
            · intro w hSw
              obtain ⟨q1, q2, q3, q4, q5⟩ := hSw
              go_simp
              try with_reducible rfl
            (try simp only [Act.put, List.setIfInBounds_toArray, List.set_cons_zero, List.set_cons_succ])
            refine take_dst (i := 14) (v := ?_) 14 rfl rfl (by kernel_rfl) (by kernel_rfl) (by kernel_rfl) (fun _ _ _ h => h) (Or.inl ⟨by rfl, ?_⟩) (by assumption) ?_
            rotate_left
            · intro w hSw
              obtain ⟨q1, q2, q3, q4, q5⟩ := hSw
              go_simp
              try with_reducible rfl
            (try simp only [Act.put, List.setIfInBounds_toArray, List.set_cons_zero, List.set_cons_succ])
            refine take_dst (i := 15) (v := ?_) 15 rfl rfl (by kernel_rfl) (by kernel_rfl) (by kernel_rfl) (fun _ _ _ h => h) (Or.inl ⟨by rfl, ?_⟩) (by assumption) ?_
            rotate_left
            · intro w hSw
              obtain ⟨q1, q2, q3, q4, q5⟩ := hSw
              go_simp
              try with_reducible rfl
            (try simp only [Act.put, List.setIfInBounds_toArray, List.set_cons_zero, List.set_cons_succ])
            refine take_dst (i := 16) (v := ?_) 16 rfl rfl (by kernel_rfl) (by kernel_rfl) (by kernel_rfl) (fun _ _ _ h => h) (Or.inl ⟨by rfl, ?_⟩) (by assumption) ?_
            rotate_left
            · intro w hSw
              obtain ⟨q1, q2, q3, q4, q5⟩ := hSw
              go_simp
              try with_reducible rfl
            (try simp only [Act.put, List.setIfInBounds_toArray, List.set_cons_zero, List.set_cons_succ])
            refine wpAnyH_done (by kernel_rfl) ?_ _
            go_wp2_with fail
            go_roundw
            case rel => exact ⟨i + 1, n, _, (by rw [HW9.out]), HI.out, ⟨by have := HN.out; omega⟩, ⟨_, _, _, _, rfl, rfl⟩, HLS⟩
            case measure => rw [HW9.out]; have := HI.out; show ((l1.length : Int) - ((i + 1 : Nat) : Int)).toNat < ((l1.length : Int) - (i : Int)).toNat; omega
          · have hrows := HST.out.rows HI2.out hk
            have hx8 : w8.heap[bx]? = _ := (hk.2 bx (blk_lt HX.out) (fun q => by
              obtain ⟨⟨c1, h1⟩, ⟨c2, h2⟩⟩ := (HST.out.st.all i2 HI2.out).blocks
              rcases q with q | q
              · exact typ_ne HX.out h1 (by decide) q
              · exact typ_ne HX.out h2 (by decide) q)).trans HX.out
            have HS8 := Aside0.mk (HSS.out _ hrows.1 hrows.2 hx8)
            obtain ⟨f2, hmid, hfg, hfp⟩ := HST.out.more HI2.out e2 he2 hs hk
            have HMID := Aside0.mk hmid
            clear hrows hx8 hs hk HST HSS hHeld hmid he2 hg2 hp2
            go_simp
            refine hK.out _ _ HS8.out (fun hHeld => ?_)
            (try simp only [Act.put, List.setIfInBounds_toArray, List.set_cons_zero, List.set_cons_succ])
            clear hK K HS8
            rw [← hfg, ← hfp] at *
            clear hfg hfp
            refine take_dst (i := 10) (v := ?_) 63 rfl rfl (by kernel_rfl) (by kernel_rfl) (by kernel_rfl) (fun _ _ _ h => h) (Or.inl ⟨by rfl, ?_⟩) (by assumption) ?_
            rotate_left
            · intro w hSw
              obtain ⟨q1, q2, q3, q4, q5⟩ := hSw
              go_simp
              try with_reducible rfl
            (try simp only [Act.put, List.setIfInBounds_toArray, List.set_cons_zero, List.set_cons_succ])
            refine take_dst (i := 11) (v := ?_) 74 rfl rfl (by kernel_rfl) (by kernel_rfl) (by kernel_rfl) (fun _ _ _ h => h) (Or.inl ⟨by rfl, ?_⟩) (by assumption) ?_
            rotate_left
            · intro w hSw
              obtain ⟨q1, q2, q3, q4, q5⟩ := hSw
              go_simp
              try with_reducible rfl
            (try simp only [Act.put, List.setIfInBounds_toArray, List.set_cons_zero, List.set_cons_succ])
            refine take_dst (i := 12) (v := ?_) 75 rfl rfl (by kernel_rfl) (by kernel_rfl) (by kernel_rfl) (fun _ _ _ h => h) (Or.inl ⟨by rfl, ?_⟩) (by assumption) ?_
            rotate_left
            · intro w hSw
              obtain ⟨q1, q2, q3, q4, q5⟩ := hSw
              go_simp
              try with_reducible rfl
            (try simp only [Act.put, List.setIfInBounds_toArray, List.set_cons_zero, List.set_cons_succ])
            refine take_dst (i := 13) (v := ?_) 76 rfl rfl (by kernel_rfl) (by kernel_rfl) (by kernel_rfl) (fun _ _ _ h => h) (Or.inl ⟨by rfl, ?_⟩) (by assumption) ?_
            rotate_left
            · intro w hSw
              obtain ⟨q1, q2, q3, q4, q5⟩ := hSw
              go_simp
              try with_reducible rfl
            (try simp only [Act.put, List.setIfInBounds_toArray, List.set_cons_zero, List.set_cons_succ])
            refine take_dst (i := 14) (v := ?_) 14 rfl rfl (by kernel_rfl) (by kernel_rfl) (by kernel_rfl) (fun _ _ _ h => h) (Or.inl ⟨by rfl, ?_⟩) (by assumption) ?_
            rotate_left
            · intro w hSw
              obtain ⟨q1, q2, q3, q4, q5⟩ := hSw
              go_simp
              try with_reducible rfl
            (try simp only [Act.put, List.setIfInBounds_toArray, List.set_cons_zero, List.set_cons_succ])
            refine take_dst (i := 15) (v := ?_) 15 rfl rfl (by kernel_rfl) (by kernel_rfl) (by kernel_rfl) (fun _ _ _ h => h) (Or.inl ⟨by rfl, ?_⟩) (by assumption) ?_
            rotate_left
            · intro w hSw
              obtain ⟨q1, q2, q3, q4, q5⟩ := hSw
              go_simp
              try with_reducible rfl
            (try simp only [Act.put, List.setIfInBounds_toArray, List.set_cons_zero, List.set_cons_succ])
            refine take_dst (i := 16) (v := ?_) 16 rfl rfl (by kernel_rfl) (by kernel_rfl) (by kernel_rfl) (fun _ _ _ h => h) (Or.inl ⟨by rfl, ?_⟩) (by assumption) ?_
            rotate_left
            · intro w hSw
              obtain ⟨q1, q2, q3, q4, q5⟩ := hSw
              go_simp
              try with_reducible rfl
            (try simp only [Act.put, List.setIfInBounds_toArray, List.set_cons_zero, List.set_cons_succ])
            refine wpAnyH_done (by kernel_rfl) ?_ _
            clear hHeld
            have HNL := Aside0.mk (show n ≤ 8796093022208 by have := HN.out; have := HL1.out; omega)
            go_wp2_with (first | (at_builtin; refine R_append1 kptr (w0 := w) w.heap.size rfl (.tmp 81) (.tmp 83) 62 31 (.pointer none) 8 rfl Try.underlying62 (by kernel_rfl) rfl (by decide) (by decide) (.slice (some ⟨gA, 0, none⟩) n c9) (rowG n f2) (f2 n).g [.pointer (some ⟨(f2 n).g, 0, none⟩)] (fun _ => True) (fun _ => False) rfl rfl rfl (fun _ hk => hk.elim) (fun _ _ => trivial) HMID.out.rg HMID.out.st.below HMID.out.st.below.size (by rw [rowG_len]; have := HNL.out; unfold maxLen; omega) (by rw [rowG_len]; exact ptr_fits HNL.out) ?_; intro v7 w9 ho hb hg hat; replace HMID := Aside0.mk (HMID.out.gotG ho hb hg); obtain ⟨A7, c7, e7⟩ := Kd.R_slice ho; rw [List.length_append, rowG_len] at e7; subst e7; clear ho hb hg hat) | (at_builtin; refine R_append1 kptr (w0 := w) w.heap.size rfl (.tmp 85) (.tmp 87) 66 63 (.pointer none) 8 rfl Try.underlying66 (by kernel_rfl) rfl (by decide) (by decide) (.slice (some ⟨gP, 0, none⟩) n c10) (rowP n f2) (f2 n).p [.pointer (some ⟨(f2 n).p, 0, none⟩)] (fun _ => True) (fun _ => False) rfl rfl rfl (fun _ hk => hk.elim) (fun _ _ => trivial) HMID.out.rp HMID.out.st.below HMID.out.st.below.size (by rw [rowP_len]; have := HNL.out; unfold maxLen; omega) (by rw [rowP_len]; exact ptr_fits HNL.out) ?_; intro v8 w10 ho hb hg hat; replace HMID := Aside0.mk (HMID.out.gotP ho hb hg); obtain ⟨A8, c8, e8⟩ := Kd.R_slice ho; rw [List.length_append, rowP_len] at e8; subst e8; clear ho hb hg hat))
            go_roundw
            case rel => exact ⟨i + 1, n + 1, _, (by rw [HW9.out]), HI.out, ⟨by have := HN.out; omega⟩, ⟨_, _, _, _, rfl, rfl⟩, ⟨HMID.out.done⟩⟩
            case measure => rw [HW9.out]; have := HI.out; show ((l1.length : Int) - ((i + 1 : Nat) : Int)).toNat < ((l1.length : Int) - (i : Int)).toNat; omega
        · have c1b : decide ((i : Int) < (l1.length : Int)) = false := decide_eq_false (by omega)
          have c1n : decide (i < l1.length) = false := decide_eq_false c1
          clear c1
          have HNL := Aside0.mk (show n ≤ 8796093022208 by have := HN.out; have := HL1.out; omega)
          have HN1 := Aside0.mk (show 1 ≤ n by have := HN.out; omega)
          clear hi HN
          obtain ⟨gA, rfl⟩ : ∃ gA, A9 = some ⟨gA, 0, none⟩ := by
            obtain ⟨ad, c, e⟩ := Kd.R_slice1 HST.out.rg (by rw [rowG_len]; exact HN1.out)
            injection e with e _ _
            subst e
            obtain ⟨ga, rfl⟩ := Kd.R_head HST.out.rg
            exact ⟨ga, rfl⟩
          obtain ⟨gP, rfl⟩ : ∃ gP, A10 = some ⟨gP, 0, none⟩ := by
            obtain ⟨ad, c, e⟩ := Kd.R_slice1 HST.out.rp (by rw [rowP_len]; exact HN1.out)
            injection e with e _ _
            subst e
            obtain ⟨ga, rfl⟩ := Kd.R_head HST.out.rp
            exact ⟨ga, rfl⟩
          go_wp2_with fail
          obtain ⟨wq2, rfl⟩ : ∃ wq2, wq2 = wr := ⟨_, rfl⟩
          go_loopw [92] (fun v92 wr => ∃ j : Nat, v92 = .int .i64 (j : Int) ∧ j ≤ n ∧ Aside0 (LSt w n f (.slice (some ⟨gA, 0, none⟩) n c9) (.slice (some ⟨gP, 0, none⟩) n c10) wr)) (fun v92 _ => ((n : Int) - intOf v92).toNat)
          case atStart => exact ⟨0, rfl, Nat.zero_le _, HST⟩
          case round =>
            clear HST c1b c1n
            obtain ⟨j, rfl, hj, HST⟩ := hrel
            by_cases c2 : j < n
            · have c2b : decide ((j : Int) < (n : Int)) = true := decide_eq_true (by omega)
              have c2n : decide (j < n) = true := decide_eq_true c2
              have p3 : (0 ≤ (j : Int)) = True := eq_true (by omega)
              have p4 : ((j : Int) < (n : Int)) = True := eq_true (by omega)
              have p5 : (j < n) = True := eq_true c2
              have HJ := Aside0.mk c2
              have HW8 : Aside0 (wrap64 ((j : Int) + 1) = ((j + 1 : Nat) : Int)) := ⟨by have := HNL.out; unfold wrap64; omega⟩
              have q9 := (Kd.R_celln 0 HST.out.rg (j : Int) (by omega) (by omega)).1
              rw [rowG_at f c2, Int.toNat_natCast] at q9
              obtain ⟨Ap, cp, hpl, hbs⟩ := HST.out.st.plc c2 (HST.out.eq j c2)
              have HSS := Aside0.mk (show ∀ W' : World, Below wr.heap.size wr W' → W'.cell? ⟨gP, j, none⟩ = some (.pointer (some ⟨(f j).p, 0, none⟩)) ∧ W'.cell? ⟨(f j).p, 0, none⟩ = some (.slice Ap (f j).bs.length cp) ∧ W'.cell? ⟨(f j).p, 1, none⟩ = some (.int .i64 ((f j).ar : Int)) from fun W' hW => by
                have q2 := (Kd.R_celln 0 (Kd.R_below HST.out.rp hW) (j : Int) (by omega) (by omega)).1
                rw [rowP_at f c2, Int.toNat_natCast] at q2
                exact ⟨q2, blk_cell (blk_below hpl hW) 0, blk_cell (blk_below hpl hW) 1⟩)
              have HB := Aside0.mk (Below.refl wr.heap.size wr)
              have hle := (HST.out.st.all j c2).rd.le
              have hlim9 := (HST.out.st.all j c2).lim
              have hwr : IntKind.i64.wrap (((f j).bs.length : Int) - ((f j).ar : Int)) = ((f j).bs.length : Int) - ((f j).ar : Int) := by rw [IntKind.wrap_i64]; omega
              clear c2 hpl hbs hle hlim9
              go_wp2_with fail
              (try simp only [Act.put, List.setIfInBounds_toArray, List.set_cons_zero, List.set_cons_succ])
              refine wp_region_held_drew (S := fun w' => w'.cell? ⟨gP, j, none⟩ = some (.pointer (some ⟨(f j).p, 0, none⟩)) ∧ w'.cell? ⟨(f j).p, 0, none⟩ = some (.slice Ap (f j).bs.length cp) ∧ w'.cell? ⟨(f j).p, 1, none⟩ = some (.int .i64 ((f j).ar : Int))) (by kernel_rfl) ?_ (fun hHeld => ?_)
              · exact HSS.out _ (pw_below_drewN HB.out 1)
              replace HB := Aside0.mk (show Below wr.heap.size wr wr.drew from pw_below_drewN HB.out 1)
              generalize wr.drew = wd at HB hHeld ⊢
              refine take_dst (i := 0) (v := ?_) 97 rfl rfl (by kernel_rfl) (by kernel_rfl) (by kernel_rfl) (fun _ _ _ h => h) (Or.inl ⟨by rfl, ?_⟩) (by assumption) ?_
              rotate_left
              · intro w hSw
                obtain ⟨q1, q2, q3⟩ := hSw
                go_simp
                try with_reducible rfl
              (try simp only [Act.put, List.setIfInBounds_toArray, List.set_cons_zero, List.set_cons_succ])
              refine take_dst (i := 2) (v := ?_) 99 rfl rfl (by kernel_rfl) (by kernel_rfl) (by kernel_rfl) (fun _ _ _ h => h) (Or.inl ⟨by rfl, ?_⟩) (by assumption) ?_
              rotate_left
              · intro w hSw
                obtain ⟨q1, q2, q3⟩ := hSw
                go_simp
                try with_reducible rfl
              (try simp only [Act.put, List.setIfInBounds_toArray, List.set_cons_zero, List.set_cons_succ])
              refine take_dst (i := 3) (v := ?_) 100 rfl rfl (by kernel_rfl) (by kernel_rfl) (by kernel_rfl) (fun _ _ _ h => h) (Or.inl ⟨by rfl, ?_⟩) (by assumption) ?_
              rotate_left
              · intro w hSw
                obtain ⟨q1, q2, q3⟩ := hSw
                go_simp
                try with_reducible rfl
              (try simp only [Act.put, List.setIfInBounds_toArray, List.set_cons_zero, List.set_cons_succ])
              refine take_dst (i := 4) (v := ?_) 101 rfl rfl (by kernel_rfl) (by kernel_rfl) (by kernel_rfl) (fun _ _ _ h => h) (Or.inl ⟨by rfl, ?_⟩) (by assumption) ?_
              rotate_left
              · intro w hSw
                obtain ⟨q1, q2, q3⟩ := hSw
                go_simp
                try with_reducible rfl
              (try simp only [Act.put, List.setIfInBounds_toArray, List.set_cons_zero, List.set_cons_succ])
              refine take_dst (i := 5) (v := ?_) 102 rfl rfl (by kernel_rfl) (by kernel_rfl) (by kernel_rfl) (fun _ _ _ h => h) (Or.inl ⟨by rfl, ?_⟩) (by assumption) ?_
              rotate_left
              · intro w hSw
                obtain ⟨q1, q2, q3⟩ := hSw
                go_simp
                try with_reducible rfl
              (try simp only [Act.put, List.setIfInBounds_toArray, List.set_cons_zero, List.set_cons_succ])
              refine take_dst (i := 6) (v := ?_) 103 rfl rfl (by kernel_rfl) (by kernel_rfl) (by kernel_rfl) (fun _ _ _ h => h) (Or.inl ⟨by rfl, ?_⟩) (by assumption) ?_
              rotate_left
              · intro w hSw
                obtain ⟨q1, q2, q3⟩ := hSw
                go_simp
                try with_reducible rfl
              (try simp only [Act.put, List.setIfInBounds_toArray, List.set_cons_zero, List.set_cons_succ])
              refine take_dst (i := 7) (v := ?_) 104 rfl rfl (by kernel_rfl) (by kernel_rfl) (by kernel_rfl) (fun _ _ _ h => h) (Or.inl ⟨by rfl, ?_⟩) (by assumption) ?_
              rotate_left
              · intro w hSw
                obtain ⟨q1, q2, q3⟩ := hSw
                go_simp
                try with_reducible rfl
              (try simp only [Act.put, List.setIfInBounds_toArray, List.set_cons_zero, List.set_cons_succ])
              refine take_dst (i := 8) (v := ?_) 105 rfl rfl (by kernel_rfl) (by kernel_rfl) (by kernel_rfl) (fun _ _ _ h => h) (Or.inl ⟨by rfl, ?_⟩) (by assumption) ?_
              rotate_left
              · intro w hSw
                obtain ⟨q1, q2, q3⟩ := hSw
                go_simp
                try with_reducible rfl
              (try simp only [Act.put, List.setIfInBounds_toArray, List.set_cons_zero, List.set_cons_succ])
              refine wpAnyH_ready (rs := [1]) (by kernel_rfl) (by simp) ?_
              refine AllReadyH.cons rfl (fun K hK => ?_) AllReadyH.nil
              go_simp
              refine (At_rd ((HST.out.step HB.out).st.all j HJ.out).rd).mono ?_
              rintro e w5 ⟨rfl, m5, rfl⟩
              replace HB := Aside0.mk (pw_below_drewN HB.out m5)
              go_simp
              refine hK.out _ _ (HSS.out _ HB.out) (fun hHeld => ?_)
              (try simp only [Act.put, List.setIfInBounds_toArray, List.set_cons_zero, List.set_cons_succ])
              clear hK K
              generalize wd.drewN m5 = wd at HB hHeld ⊢
              refine take_dst (i := 9) (v := ?_) 106 rfl rfl (by kernel_rfl) (by kernel_rfl) (by kernel_rfl) (fun _ _ _ h => h) (Or.inl ⟨by rfl, ?_⟩) (by assumption) ?_
              rotate_left
              · intro w hSw
                obtain ⟨q1, q2, q3⟩ := hSw
                go_simp
                try with_reducible rfl
              (try simp only [Act.put, List.setIfInBounds_toArray, List.set_cons_zero, List.set_cons_succ])
              refine take_dst (i := 10) (v := ?_) 107 rfl rfl (by kernel_rfl) (by kernel_rfl) (by kernel_rfl) (fun _ _ _ h => h) (Or.inl ⟨by rfl, ?_⟩) (by assumption) ?_
              rotate_left
              · intro w hSw
                obtain ⟨q1, q2, q3⟩ := hSw
                go_simp
                try with_reducible rfl
              (try simp only [Act.put, List.setIfInBounds_toArray, List.set_cons_zero, List.set_cons_succ])
              refine take_dst (i := 11) (v := ?_) 108 rfl rfl (by kernel_rfl) (by kernel_rfl) (by kernel_rfl) (fun _ _ _ h => h) (Or.inl ⟨by rfl, ?_⟩) (by assumption) ?_
              rotate_left
              · intro w hSw
                obtain ⟨q1, q2, q3⟩ := hSw
                go_simp
                try with_reducible rfl
              (try simp only [Act.put, List.setIfInBounds_toArray, List.set_cons_zero, List.set_cons_succ])
              refine take_dst (i := 13) (v := ?_) 110 rfl rfl (by kernel_rfl) (by kernel_rfl) (by kernel_rfl) (fun _ _ _ h => h) (Or.inl ⟨by rfl, ?_⟩) (by assumption) ?_
              rotate_left
              · intro w hSw
                obtain ⟨q1, q2, q3⟩ := hSw
                go_simp
                try with_reducible rfl
              (try simp only [Act.put, List.setIfInBounds_toArray, List.set_cons_zero, List.set_cons_succ])
              refine take_dst (i := 14) (v := ?_) 111 rfl rfl (by kernel_rfl) (by kernel_rfl) (by kernel_rfl) (fun _ _ _ h => h) (Or.inl ⟨by rfl, ?_⟩) (by assumption) ?_
              rotate_left
              · intro w hSw
                obtain ⟨q1, q2, q3⟩ := hSw
                go_simp
                try with_reducible rfl
              (try simp only [Act.put, List.setIfInBounds_toArray, List.set_cons_zero, List.set_cons_succ])
              refine take_dst (i := 15) (v := ?_) 112 rfl rfl (by kernel_rfl) (by kernel_rfl) (by kernel_rfl) (fun _ _ _ h => h) (Or.inl ⟨by rfl, ?_⟩) (by assumption) ?_
              rotate_left
              · intro w hSw
                obtain ⟨q1, q2, q3⟩ := hSw
                go_simp
                try with_reducible rfl
              (try simp only [Act.put, List.setIfInBounds_toArray, List.set_cons_zero, List.set_cons_succ])
              refine take_dst (i := 16) (v := ?_) 113 rfl rfl (by kernel_rfl) (by kernel_rfl) (by kernel_rfl) (fun _ _ _ h => h) (Or.inl ⟨by rfl, ?_⟩) (by assumption) ?_
              rotate_left
              · intro w hSw
                obtain ⟨q1, q2, q3⟩ := hSw
                go_simp
                try with_reducible rfl
              (try simp only [Act.put, List.setIfInBounds_toArray, List.set_cons_zero, List.set_cons_succ])
              refine take_dst (i := 17) (v := ?_) 114 rfl rfl (by kernel_rfl) (by kernel_rfl) (by kernel_rfl) (fun _ _ _ h => h) (Or.inl ⟨by rfl, ?_⟩) (by assumption) ?_
              rotate_left
              · intro w hSw
                obtain ⟨q1, q2, q3⟩ := hSw
                go_simp
                try with_reducible rfl
              (try simp only [Act.put, List.setIfInBounds_toArray, List.set_cons_zero, List.set_cons_succ])
              refine take_dst (i := 18) (v := ?_) 115 rfl rfl (by kernel_rfl) (by kernel_rfl) (by kernel_rfl) (fun _ _ _ h => h) (Or.inl ⟨by rfl, ?_⟩) (by assumption) ?_
              rotate_left
              · intro w hSw
                obtain ⟨q1, q2, q3⟩ := hSw
                go_simp
                try with_reducible rfl
              (try simp only [Act.put, List.setIfInBounds_toArray, List.set_cons_zero, List.set_cons_succ])
              refine take_dst (i := 19) (v := ?_) 116 rfl rfl (by kernel_rfl) (by kernel_rfl) (by kernel_rfl) (fun _ _ _ h => h) (Or.inl ⟨by rfl, ?_⟩) (by assumption) ?_
              rotate_left
              · intro w hSw
                obtain ⟨q1, q2, q3⟩ := hSw
                go_simp
                try with_reducible rfl
              (try simp only [Act.put, List.setIfInBounds_toArray, List.set_cons_zero, List.set_cons_succ])
              refine take_dst (i := 20) (v := ?_) 117 rfl rfl (by kernel_rfl) (by kernel_rfl) (by kernel_rfl) (fun _ _ _ h => h) (Or.inl ⟨by rfl, ?_⟩) (by assumption) ?_
              rotate_left
              · intro w hSw
                obtain ⟨q1, q2, q3⟩ := hSw
                go_simp
                try with_reducible rfl
              (try simp only [Act.put, List.setIfInBounds_toArray, List.set_cons_zero, List.set_cons_succ])
              refine take_dst (i := 21) (v := ?_) 118 rfl rfl (by kernel_rfl) (by kernel_rfl) (by kernel_rfl) (fun _ _ _ h => h) (Or.inl ⟨by rfl, ?_⟩) (by assumption) ?_
              rotate_left
              · intro w hSw
                obtain ⟨q1, q2, q3⟩ := hSw
                go_simp
                try with_reducible rfl
              (try simp only [Act.put, List.setIfInBounds_toArray, List.set_cons_zero, List.set_cons_succ])
              refine take_dst (i := 22) (v := ?_) 119 rfl rfl (by kernel_rfl) (by kernel_rfl) (by kernel_rfl) (fun _ _ _ h => h) (Or.inl ⟨by rfl, ?_⟩) (by assumption) ?_
              rotate_left
              · intro w hSw
                obtain ⟨q1, q2, q3⟩ := hSw
                go_simp
                try with_reducible rfl
              (try simp only [Act.put, List.setIfInBounds_toArray, List.set_cons_zero, List.set_cons_succ])
              refine take_dst (i := 23) (v := ?_) 120 rfl rfl (by kernel_rfl) (by kernel_rfl) (by kernel_rfl) (fun _ _ _ h => h) (Or.inl ⟨by rfl, ?_⟩) (by assumption) ?_
              rotate_left
              · intro w hSw
                obtain ⟨q1, q2, q3⟩ := hSw
                go_simp
                try with_reducible rfl
              (try simp only [Act.put, List.setIfInBounds_toArray, List.set_cons_zero, List.set_cons_succ])
              refine take_dst (i := 24) (v := ?_) 121 rfl rfl (by kernel_rfl) (by kernel_rfl) (by kernel_rfl) (fun _ _ _ h => h) (Or.inl ⟨by rfl, ?_⟩) (by assumption) ?_
              rotate_left
              · intro w hSw
                obtain ⟨q1, q2, q3⟩ := hSw
                go_simp
                try with_reducible rfl
              (try simp only [Act.put, List.setIfInBounds_toArray, List.set_cons_zero, List.set_cons_succ])
              refine take_dst (i := 25) (v := ?_) 122 rfl rfl (by kernel_rfl) (by kernel_rfl) (by kernel_rfl) (fun _ _ _ h => h) (Or.inl ⟨by rfl, ?_⟩) (by assumption) ?_
              rotate_left
              · intro w hSw
                obtain ⟨q1, q2, q3⟩ := hSw
                go_simp
                try with_reducible rfl
              (try simp only [Act.put, List.setIfInBounds_toArray, List.set_cons_zero, List.set_cons_succ])
              refine take_dst (i := 26) (v := ?_) 123 rfl rfl (by kernel_rfl) (by kernel_rfl) (by kernel_rfl) (fun _ _ _ h => h) (Or.inl ⟨by rfl, ?_⟩) (by assumption) ?_
              rotate_left
              · intro w hSw
                obtain ⟨q1, q2, q3⟩ := hSw
                go_simp
                try with_reducible rfl
              (try simp only [Act.put, List.setIfInBounds_toArray, List.set_cons_zero, List.set_cons_succ])
              refine take_dst (i := 27) (v := ?_) 124 rfl rfl (by kernel_rfl) (by kernel_rfl) (by kernel_rfl) (fun _ _ _ h => h) (Or.inl ⟨by rfl, ?_⟩) (by assumption) ?_
              rotate_left
              · intro w hSw
                obtain ⟨q1, q2, q3⟩ := hSw
                go_simp
                try with_reducible rfl
              (try simp only [Act.put, List.setIfInBounds_toArray, List.set_cons_zero, List.set_cons_succ])
              refine take_dst (i := 28) (v := ?_) 125 rfl rfl (by kernel_rfl) (by kernel_rfl) (by kernel_rfl) (fun _ _ _ h => h) (Or.inl ⟨by rfl, ?_⟩) (by assumption) ?_
              rotate_left
              · intro w hSw
                obtain ⟨q1, q2, q3⟩ := hSw
                go_simp
                try with_reducible rfl
              (try simp only [Act.put, List.setIfInBounds_toArray, List.set_cons_zero, List.set_cons_succ])
              refine wpAnyH_ready (rs := [12]) (by kernel_rfl) (by simp) ?_
              refine AllReadyH.cons rfl (fun K hK => ?_) AllReadyH.nil
              go_simp
              refine (Left_rd ((HST.out.step HB.out).st.all j HJ.out).rd).mono ?_
              rintro e w6 ⟨rfl, m6, rfl⟩
              replace HB := Aside0.mk (pw_below_drewN HB.out m6)
              go_simp
              refine hK.out _ _ (HSS.out _ HB.out) (fun hHeld => ?_)
              (try simp only [Act.put, List.setIfInBounds_toArray, List.set_cons_zero, List.set_cons_succ])
              clear hK K
              refine take_dst (i := 29) (v := ?_) 126 rfl rfl (by kernel_rfl) (by kernel_rfl) (by kernel_rfl) (fun _ _ _ h => h) (Or.inl ⟨by rfl, ?_⟩) (by assumption) ?_
              rotate_left
              · intro w hSw
                obtain ⟨q1, q2, q3⟩ := hSw
                go_simp
                try with_reducible rfl
              (try simp only [Act.put, List.setIfInBounds_toArray, List.set_cons_zero, List.set_cons_succ])
              refine take_dst (i := 30) (v := ?_) 127 rfl rfl (by kernel_rfl) (by kernel_rfl) (by kernel_rfl) (fun _ _ _ h => h) (Or.inl ⟨by rfl, ?_⟩) (by assumption) ?_
              rotate_left
              · intro w hSw
                obtain ⟨q1, q2, q3⟩ := hSw
                go_simp
                try with_reducible rfl
              (try simp only [Act.put, List.setIfInBounds_toArray, List.set_cons_zero, List.set_cons_succ])
              refine wpAnyH_done (by kernel_rfl) ?_ _
              clear hHeld
              go_wp2_with fail
              go_roundw
              case rel => exact ⟨j + 1, (by rw [HW8.out]), HJ.out, ⟨HST.out.step HB.out⟩⟩
              case measure => rw [HW8.out]; have := HJ.out; show ((n : Int) - ((j + 1 : Nat) : Int)).toNat < ((n : Int) - (j : Int)).toNat; omega
            · have c2b : decide ((j : Int) < (n : Int)) = false := decide_eq_false (by omega)
              have c2n : decide (j < n) = false := decide_eq_false c2
              clear c2 hj
              go_wp2_with fail
              go_ret
              exact ⟨rfl, HST.out.st.below⟩

end Go.Proofs.Ytklbkonehcjmjaa.P

end

section
namespace Go.Proofs.Ytklbkonehcjmjaa.P
open Go.RowKit Go.Proofs.YtklbkonehcjmjaaW.PrintWords
def provisolaw01_WireReads.Pure : Prop := ∀ (l0 : List (Int)) (l1 : List (S68)), (fun l : List (Int) => l.length ≤ 9223372036854775807 ∧ l.length * 1 ≤ 140737488351232 ∧ ∀ x ∈ l, (fun n : Int => (Lit.int .u8 n).wf = true) x) l0 → (fun l : List (S68) => l.length ≤ 9223372036854775807 ∧ l.length * 24 ≤ 140737488351232 ∧ ∀ x ∈ l, Ok68 x) l1 → provisolaw01_WireReads.Facts l0 l1
end Go.Proofs.Ytklbkonehcjmjaa.P

end

section
namespace Go.Proofs.Ytklbkonehcjmjaa.P
open Go.RowKit Go.Proofs.YtklbkonehcjmjaaW.PrintWords Go.Proofs.YtklbkonehcjmjaaW.PrintLast Go.Proofs.YtklbkonehcjmjaaW.PrintMore
set_option linter.unusedVariables false
set_option linter.unusedSimpArgs false
def sgn (i c : Int) : Bool :=
  (decide (97 ≤ c) && decide (c ≤ 122)) || (decide (65 ≤ c) && decide (c ≤ 90)) || (decide (0 < i) && ((decide (48 ≤ c) && decide (c ≤ 57)) || decide (c = 95)))
def tailName (s : ByteArray) : Nat → Bool
  | 0 => true
  | d + 1 => sgn ((s.size : Int) - (d + 1)) (bt s ((s.size : Int) - (d + 1))) && tailName s d
def isNameB (s : ByteArray) : Bool := decide (1 ≤ s.size) && decide (s.size ≤ 24) && tailName s s.size
theorem name_tells (s : ByteArray) (hn : s.size ≤ 140737488351232) (d : Nat) : ∀ (k : Nat) (i : Int), 0 ≤ i → i ≤ s.size → (s.size : Int) - i = d → 3 * d < k → wire_IsName.l0 k s (s.size : Int) i = some (tailName s d) := by
  induction d with
  | zero =>
    intro k i h0 h1 hd hk
    obtain ⟨k, rfl⟩ : ∃ m, k = m + 1 := ⟨k - 1, by omega⟩
    simp only [wire_IsName.l0]; rw [if_neg (by omega)]; rfl
  | succ d ih =>
    intro k i h0 h1 hd hk
    obtain ⟨k, rfl⟩ : ∃ m, k = m + 3 := ⟨k - 3, by omega⟩
    have hlt : i < (s.size : Int) := by omega
    have hi : (s.size : Int) - (d + 1) = i := by omega
    have hw : wrap64 (i + 1) = i + 1 := by unfold wrap64; omega
    have h := ih k (i + 1) (by omega) (by omega) (by omega) (by omega)
    simp only [wire_IsName.l0, wire_IsName.j2, wire_IsName.j3, tailName, hi]
    rw [if_pos hlt, if_pos h0, if_pos hlt, hw]
    have h' : wire_IsName.l0 k s (s.size : Int) (i + 1) = some (tailName s d) := h
    rw [h']
    generalize bt s i = c
    generalize tailName s d = t
    by_cases a1 : 97 ≤ c <;> by_cases a2 : c ≤ 122 <;> by_cases a3 : 65 ≤ c <;> by_cases a4 : c ≤ 90 <;> by_cases a5 : 0 < i <;> by_cases a6 : 48 ≤ c <;> by_cases a7 : c ≤ 57 <;> by_cases a8 : c = 95 <;> (try omega) <;> simp [sgn, a1, a2, a3, a4, a5, a6, a7, a8]
theorem name_100 (s : ByteArray) : wire_IsName.f 100 s = some (isNameB s) := by
  unfold wire_IsName.f isNameB
  by_cases a1 : (s.size : Int) = 0
  · rw [if_pos a1, decide_eq_false (by omega)]
    simp [wire_IsName.j0]
  · rw [if_neg a1, decide_eq_true (by omega : 1 ≤ s.size)]
    by_cases a3 : (s.size : Int) > 24
    · rw [decide_eq_true a3, decide_eq_false (by omega : ¬ s.size ≤ 24)]
      simp [wire_IsName.j0]
    · rw [decide_eq_false a3, decide_eq_true (by omega : s.size ≤ 24)]
      have h1 := name_tells s (by omega) s.size 99 0 (by omega) (by omega) (by omega) (by omega)
      simp only [wire_IsName.j0]
      rw [if_neg (by simp)]
      rw [show wire_IsName.l0 99 s (s.size : Int) 0 = some (tailName s s.size) from h1]
      simp
theorem equal_self (xs : List Int) (hl : xs.length ≤ 9223372036854775807) : ∀ (d i k : Nat), i + d = xs.length → d < k → slices_Equal_byte_byte.l0 k xs xs (xs.length : Int) (i : Int) = some true
  | 0, i, k, hd, hk => by
    obtain ⟨k, rfl⟩ : ∃ m, k = m + 1 := ⟨k - 1, by omega⟩
    simp only [slices_Equal_byte_byte.l0]
    rw [if_neg (by omega)]
  | d + 1, i, k, hd, hk => by
    obtain ⟨k, rfl⟩ : ∃ m, k = m + 1 := ⟨k - 1, by omega⟩
    have hw : wrap64 ((i : Int) + 1) = ((i + 1 : Nat) : Int) := by unfold wrap64; omega
    have ih := equal_self xs hl d (i + 1) k (by omega) (by omega)
    simp only [slices_Equal_byte_byte.l0]
    rw [if_pos (by omega), if_pos (by omega), if_pos (by omega), if_pos (by omega), if_pos trivial, hw]
    exact ih
theorem equal_is (xs : List Int) (hl : xs.length ≤ 9223372036854775807) (k : Nat) (hk : xs.length < k) : slices_Equal_byte_byte.f k xs xs = some true := by
  unfold slices_Equal_byte_byte.f
  rw [if_pos rfl]
  exact equal_self xs hl xs.length 0 k (by omega) hk
end Go.Proofs.Ytklbkonehcjmjaa.P

end

section
namespace Go.Proofs.Ytklbkonehcjmjaa.Pure
open Go.RowKit Go.Proofs.Ytklbkonehcjmjaa.P Go.Proofs.YtklbkonehcjmjaaW.PrintWords Go.Proofs.YtklbkonehcjmjaaW.PrintLast Go.Proofs.YtklbkonehcjmjaaW.PrintMore
set_option linter.unusedSimpArgs false
set_option linter.unusedVariables false
theorem ref_tells (s : ByteArray) (hn : s.size ≤ 140737488351232) (d : Nat) : ∀ (k : Nat) (i : Int), 0 ≤ i → i ≤ s.size → (s.size : Int) - i = d → d < k →
    provisoref01_IsName.l0 k s i = some (tailName s d) := by
  induction d with
  | zero =>
    intro k i h0 h1 hd hk
    obtain ⟨k, rfl⟩ : ∃ m, k = m + 1 := ⟨k - 1, by omega⟩
    simp only [provisoref01_IsName.l0]; rw [if_neg (by omega)]; rfl
  | succ d ih =>
    intro k i h0 h1 hd hk
    obtain ⟨k, rfl⟩ : ∃ m, k = m + 1 := ⟨k - 1, by omega⟩
    have hlt : i < (s.size : Int) := by omega
    have hi : (s.size : Int) - (d + 1) = i := by omega
    have hw : wrap64 (i + 1) = i + 1 := by unfold wrap64; omega
    have h := ih k (i + 1) (by omega) (by omega) (by omega) (by omega)
    simp only [provisoref01_IsName.l0, tailName, hi]
    rw [if_pos hlt, if_pos h0, hw, h]
    generalize bt s i = c
    generalize tailName s d = t
    by_cases a1 : 97 ≤ c <;> by_cases a2 : c ≤ 122 <;> by_cases a3 : 65 ≤ c <;> by_cases a4 : c ≤ 90 <;> by_cases a5 : i = 0 <;> by_cases a6 : c < 48 <;> by_cases a7 : 57 < c <;> by_cases a8 : c = 95 <;> (try omega) <;> simp [sgn, a1, a2, a3, a4, a5, a6, a7, a8] <;> omega
theorem ref_100 (s : ByteArray) : provisoref01_IsName.f 100 s = some (isNameB s) := by
  unfold provisoref01_IsName.f isNameB
  by_cases a1 : (s.size : Int) < 1
  · rw [if_pos a1, decide_eq_false (by omega : ¬ 1 ≤ s.size)]
    simp [provisoref01_IsName.j0]
  · rw [if_neg a1, decide_eq_true (by omega : 1 ≤ s.size)]
    by_cases a3 : (s.size : Int) > 24
    · rw [decide_eq_true a3, decide_eq_false (by omega : ¬ s.size ≤ 24)]
      simp [provisoref01_IsName.j0]
    · rw [decide_eq_false a3, decide_eq_true (by omega : s.size ≤ 24)]
      have h1 := ref_tells s (by omega) s.size 99 0 (by omega) (by omega) (by omega) (by omega)
      simp only [provisoref01_IsName.j0]
      rw [if_neg (by simp), h1]
      simp
theorem name_K (s : ByteArray) (K : Nat) (h : 100 ≤ K) : wire_IsName.f K s = some (isNameB s) := at_rounds (wire_IsName.mono s) h (name_100 s)
theorem ref_K (s : ByteArray) (K : Nat) (h : 100 ≤ K) : provisoref01_IsName.f K s = some (isNameB s) := at_rounds (provisoref01_IsName.mono s) h (ref_100 s)
theorem seg_zero (bs : List Int) (a : Nat) : seg bs a 0 = [] := by
  unfold seg
  rw [Nat.add_zero]
  exact List.drop_of_length_le (by rw [List.length_take]; omega)
theorem seg_succ (bs : List Int) (a j : Nat) (h : a + j < bs.length) : seg bs a (j + 1) = seg bs a j ++ [rd bs ((a + j : Nat) : Int)] := by
  have hr : rd bs ((a + j : Nat) : Int) = bs[a + j] := by
    unfold rd
    rw [Int.toNat_natCast, List.getD_eq_getElem?_getD, List.getElem?_eq_getElem h]
    rfl
  unfold seg
  rw [hr, show a + (j + 1) = a + j + 1 by omega, List.take_succ_eq_append_getElem h, List.drop_append_of_le_length (by rw [List.length_take]; omega)]
theorem rd_in (bs : List Int) (h : ∀ x ∈ bs, 0 ≤ x ∧ x ≤ 255) (a : Nat) (ha : a < bs.length) : 0 ≤ rd bs (a : Int) ∧ rd bs (a : Int) ≤ 255 := by
  have hr : rd bs (a : Int) = bs[a] := by simp [rd, List.getD_eq_getElem?_getD, ha]
  rw [hr]
  exact h _ (List.getElem_mem ha)
theorem numOf_snoc (xs : List Int) (x : Int) : numOf (xs ++ [x]) = numOf xs * 256 + x := by
  unfold numOf
  rw [List.foldl_append]
  rfl
theorem num_loop (bs : List Int) (hby : ∀ x ∈ bs, 0 ≤ x ∧ x ≤ 255) (hl : bs.length ≤ 140737488351232) (a k : Nat) (hk4 : k ≤ 4) (ha : a + k ≤ bs.length) : ∀ (d j K : Nat), j + d = k → 0 ≤ numOf (seg bs a j) → numOf (seg bs a j) < 256 ^ j → provisoref01_Number.l0 (K + d + 1) bs (a : Int) (k : Int) (numOf (seg bs a j)) (j : Int) = some (valR k (seg bs a k), ((a + k : Nat) : Int), 0)
  | 0, j, K, hj, h0, h1 => by
    obtain rfl : j = k := by omega
    have w1 : wrap64 ((a : Int) + (j : Int)) = ((a + j : Nat) : Int) := by unfold wrap64; omega
    simp only [provisoref01_Number.l0]
    rw [if_neg (by omega), w1]
    unfold valR signOf
    by_cases c : j = 4
    · subst c
      rw [if_pos (by rfl), if_pos rfl]
      by_cases c2 : numOf (seg bs a 4) < 2147483648
      · rw [if_neg (by omega), if_pos c2]
      · have h2 : numOf (seg bs a 4) < 4294967296 := h1
        have w2 : wrap64 (numOf (seg bs a 4) - 4294967296) = numOf (seg bs a 4) - 4294967296 := by unfold wrap64; omega
        rw [if_pos (by omega), if_neg c2, w2]
    · rw [if_neg (by omega), if_neg c]
  | d + 1, j, K, hj, h0, h1 => by
    have hlt : a + j < bs.length := by omega
    have hr := rd_in bs hby (a + j) hlt
    have hp : (256 : Int) ^ j ≤ 16777216 := by
      have h3 : j = 0 ∨ j = 1 ∨ j = 2 ∨ j = 3 := by omega
      rcases h3 with rfl | rfl | rfl | rfl <;> decide
    have hs : numOf (seg bs a (j + 1)) = numOf (seg bs a j) * 256 + rd bs ((a + j : Nat) : Int) := by rw [seg_succ bs a j hlt, numOf_snoc]
    have h2 : 0 ≤ numOf (seg bs a (j + 1)) ∧ numOf (seg bs a (j + 1)) < 256 ^ (j + 1) := by rw [hs, Int.pow_succ]; omega
    have ih := num_loop bs hby hl a k hk4 ha d (j + 1) K (by omega) h2.1 h2.2
    have w1 : wrap64 ((a : Int) + (j : Int)) = ((a + j : Nat) : Int) := by unfold wrap64; omega
    have w2 : wrap64 ((j : Int) + 1) = ((j + 1 : Nat) : Int) := by unfold wrap64; omega
    generalize hq : numOf (seg bs a j) = q at h0 h1 hs ⊢
    generalize hz : rd bs ((a + j : Nat) : Int) = z at hr hs
    have w3 : wrap64 (q * 256) = q * 256 := by unfold wrap64; omega
    have w4 : wrap64 z = z := by unfold wrap64; omega
    have w5 : wrap64 (q * 256 + z) = q * 256 + z := by unfold wrap64; omega
    rw [show K + (d + 1) + 1 = (K + d + 1) + 1 by omega]
    unfold provisoref01_Number.l0
    rw [if_pos (by omega), w1, if_pos (by omega), if_pos (by omega), hz, w4, w3, w5, w2, ← hs]
    exact ih
theorem num_is (K k : Nat) (bs : List Int) (a : Nat) (hk : k = 1 ∨ k = 2 ∨ k = 4) (hK : 6 ≤ K) (hby : ∀ x ∈ bs, 0 ≤ x ∧ x ≤ 255) (hl : bs.length ≤ 140737488351232) (ha : a ≤ bs.length) : provisoref01_Number.f K bs (a : Int) (k : Int) = some ((numR k bs a).1, ((numR k bs a).2.1 : Int), (numR k bs a).2.2) := by
  have w1 : wrap64 ((bs.length : Int) - (a : Int)) = (bs.length : Int) - (a : Int) := by unfold wrap64; omega
  unfold provisoref01_Number.f numR
  rw [w1]
  by_cases c : bs.length < a + k
  · rw [if_pos (by omega), if_pos c]
  · rw [if_neg (by omega), if_neg c]
    obtain ⟨m, rfl⟩ : ∃ m, K = m + k + 1 := ⟨K - k - 1, by omega⟩
    have h := num_loop bs hby hl a k (by omega) (by omega) k 0 m (by omega)
    rw [seg_zero] at h
    exact h (by decide) (by decide)
theorem take_loop (bs : List Int) (hl : bs.length ≤ 140737488351232) (a n : Nat) (ha : a + n ≤ bs.length) : ∀ (d j K : Nat), j + d = n → provisoref01_Take.l0 (K + d + 1) bs (a : Int) (n : Int) (seg bs a j) (j : Int) = some (seg bs a n, ((a + n : Nat) : Int), 0)
  | 0, j, K, hj => by
    obtain rfl : j = n := by omega
    have w1 : wrap64 ((a : Int) + (j : Int)) = ((a + j : Nat) : Int) := by unfold wrap64; omega
    simp only [provisoref01_Take.l0]
    rw [if_neg (by omega), w1]
  | d + 1, j, K, hj => by
    have hlt : a + j < bs.length := by omega
    have hs := seg_succ bs a j hlt
    have ih := take_loop bs hl a n ha d (j + 1) K (by omega)
    have w1 : wrap64 ((a : Int) + (j : Int)) = ((a + j : Nat) : Int) := by unfold wrap64; omega
    have w2 : wrap64 ((j : Int) + 1) = ((j + 1 : Nat) : Int) := by unfold wrap64; omega
    have hsl : (seg bs a j).length = j := seg_len bs a j (by omega)
    rw [show K + (d + 1) + 1 = (K + d + 1) + 1 by omega]
    unfold provisoref01_Take.l0
    rw [if_pos (by omega), w1, if_pos (by omega), if_pos (by omega), hsl, if_pos (by omega), w2, ← hs]
    exact ih
theorem take_is (K : Nat) (bs : List Int) (a : Nat) (n : Int) (hK : 140737488355328 ≤ K) (hl : bs.length ≤ 140737488351232) (ha : a ≤ bs.length) : provisoref01_Take.f K bs (a : Int) n = some ((takeR bs a n).1, ((takeR bs a n).2.1 : Int), (takeR bs a n).2.2) := by
  have w1 : wrap64 ((bs.length : Int) - (a : Int)) = (bs.length : Int) - (a : Int) := by unfold wrap64; omega
  unfold provisoref01_Take.f takeR
  by_cases c : n < 0
  · rw [if_pos c, if_pos c]
  · rw [if_neg c, if_neg c, w1]
    by_cases c2 : n > (bs.length : Int) - (a : Int)
    · rw [if_pos (by omega), if_pos c2]
    · rw [if_neg (by omega), if_neg c2]
      obtain ⟨k, rfl⟩ : ∃ k : Nat, n = (k : Int) := ⟨n.toNat, by omega⟩
      rw [Int.toNat_natCast]
      obtain ⟨m, rfl⟩ : ∃ m, K = m + k + 1 := ⟨K - k - 1, by omega⟩
      have h := take_loop bs hl a k (by omega) k 0 m (by omega)
      rw [seg_zero] at h
      exact h
theorem rd_facts (K : Nat) (hK : 140737488355328 ≤ K) : RdFacts K isNameB := ⟨fun k bs a hk hby hl ha => num_is K k bs a hk (by omega) hby hl ha, fun bs a n _ hl ha => take_is K bs a n hK hl ha, fun s => name_K s K (by omega), fun s => ref_K s K (by omega), fun xs hl => equal_is xs (by omega) K (by omega)⟩
theorem WireReads : provisolaw01_WireReads.Pure := by
  intro l0 l1 h0 h1
  refine ⟨⟨140737488355328, isNameB, rd_facts _ (Nat.le_refl _), untouched_is l0 (by have := h0.2.1; omega) _ (by have := h0.2.1; omega)⟩, by have := h0.2.1; omega, fun x hx => ?_, by have := h1.2.1; omega⟩
  have := h0.2.2 x hx
  simp [Lit.wf, IntKind.min, IntKind.max, IntKind.signed, IntKind.bits] at this
  exact this
end Go.Proofs.Ytklbkonehcjmjaa.Pure

end

section
namespace Go.Proofs.Ytklbkonehcjmjaa.wireReads
open Go.ChangeShapes Go.WideShapes Go.ChangeAt Go.RowKit Go.Proofs.YtklbkonehcjmjaaW.PrintWords Go.Proofs.Ytklbkonehcjmjaa.Sees Go.Proofs.Ytklbkonehcjmjaa.P
open Go.ChangeMaps (open_string shut_string)
set_option linter.unusedVariables false
set_option linter.unusedSimpArgs false
theorem own : ownKnob Try.prog.godebug = none := by kernel_rfl
theorem laidOut : laidOutB Try.prog = true := by kernel_rfl
set_option maxRecDepth 100000 in
theorem lifted (os : Os) (started : os.Started) (H : Type) (enc : TypeId × Value → H) :
    ReturnsInHanded {} Try.checked os 8 .any (Rows.wireReadsSpec.pre6 enc Try.prog Try.f8 Rows.wireReadsRow.domain false) (Rows.wireReadsSpec.post enc Try.prog Try.f8 false true false false) := by
  refine returnsInHanded_of_change_sized (C := Try.checked) own started (by kernel_rfl) Try.func8
    (ChangeSpec.witness6 (enc := enc) (C := Try.checked) false ⟨#[], #[.slice none 0 0, .slice none 0 0], []⟩ 8 (by kernel_rfl) (by kernel_rfl) (by kernel_rfl) (by kernel_rfl)) ?_
  intro W base args ds gs before hval0 hW hcnd hsz0 _
  have hsz : (DataW.weightsEach Try.prog (Try.f8.params.toList ++ Rows.wireReadsSpec.plain.varTypes Try.prog) (ds ++ gs)).all (· ≤ reachBytes) = true := hsz0
  have hval : ∀ (j : Nat) t v, Try.f8.params[j]? = some t → args[j]? = some v → Value.okWide Try.prog W .any base t v := hval0
  have hW' := hW
  obtain ⟨p, q, hA0, hV, rfl, hfz, hnd⟩ := hW
  have hA : DataW.TrodAll enc Try.prog W 0 (fun _ => true) true Try.f8.params.toList args.toList ds p := hA0
  rw [Try.params8] at hA hval hsz
  obtain ⟨v0, vs0, d0, ds0, p0, q0, hargs, rfl, rfl, h0, r0⟩ := trodAll_cons hA
  obtain ⟨v1, vs1, d1, ds1, p1, q1, rfl, rfl, rfl, h1, r1⟩ := trodAll_cons r0
  obtain ⟨rfl, rfl, rfl⟩ := trodAll_nil r1
  obtain rfl : args = #[v0, v1] := by cases args; simp_all
  obtain ⟨rfl, rfl⟩ := trodVars_none hV
  have k0 := h0
  have lt0 : ∀ x ∈ p0, x.block < W.heap.size := by obtain ⟨m, hm⟩ := k0; exact DataW.trod_lt m _ _ _ hm
  obtain ⟨y0, hy0, oy0⟩ := see_arg (j := 0) (t := 23) (sees_slice (B := 1) Try.underlying23 (by kernel_rfl) (by kernel_rfl) (sees_int Try.underlying5)) hsz rfl rfl h0
  obtain ⟨a0, len0, cap0, rfl⟩ := okWide_slice Try.underlying23 (hval 0 23 v0 rfl rfl)
  obtain ⟨rfl, hc0, hr0⟩ := see_slice rfl hy0
  have k1 := h1
  have lt1 : ∀ x ∈ p1, x.block < W.heap.size := by obtain ⟨m, hm⟩ := k1; exact DataW.trod_lt m _ _ _ hm
  obtain ⟨y1, hy1, oy1⟩ := see_arg (j := 1) (t := 61) (sees_slice (B := 24) Try.underlying61 (by kernel_rfl) (by kernel_rfl) sees68) hsz rfl rfl h1
  obtain ⟨a1, len1, cap1, rfl⟩ := okWide_slice Try.underlying61 (hval 1 61 v1 rfl rfl)
  obtain ⟨rfl, hc1, hr1⟩ := see_slice rfl hy1
  clear hA0 hval0 hsz0 hsz
  have hk := Pure.WireReads y0 y1 oy0 oy1
  refine (provisolaw01_WireReads.calls _ _ y0 _ _ y1 W hr0 hc0 hr1 hc1 hk).mono ?_
  rintro e W' ⟨rfl, bel0⟩
  have bel : Below W.heap.size W W' := bel0
  exact ⟨_, rfl, _, _, _, [], _, [], hW', trodAll_mk1 (shut_bool Try.underlying4 _), (trodAll_cons_mk (Below.trod laidOut (by kernel_rfl) (of_decide_eq_true (by kernel_rfl)) k0 bel lt0) (trodAll_cons_mk (Below.trod laidOut (by kernel_rfl) (of_decide_eq_true (by kernel_rfl)) k1 bel lt1) trodAll_mk0)), rfl, bel.frame _, fun h => by cases h⟩
theorem over : Rows.wireReadsRow.holds Try.pinned (OpenSpec.ofChange Rows.wireReadsSpec) :=
  OpenClaim.holds_of_wide 8 Try.f8 rfl rfl rfl rfl rfl rfl rfl ⟨rfl, rfl, rfl, rfl, rfl⟩ rfl rfl rfl rfl rfl (by kernel_rfl) Try.func8 (by kernel_rfl)
    (of_decide_eq_true (by kernel_rfl)) (by unfold Func.isWrapper; first | (rw [if_pos (by decide +kernel)]; kernel_rfl) | (rw [if_neg (by decide +kernel)]; exact ⟨rfl, rfl⟩))
    (fun os started H enc _ => lifted os started H enc)
theorem proved : Rows.WireReadsSaid := over
end Go.Proofs.Ytklbkonehcjmjaa.wireReads
namespace Go.Proofs.Ytklbkonehcjmjaa
theorem wireReads_holds : Rows.WireReadsSaid := wireReads.proved
end Go.Proofs.Ytklbkonehcjmjaa

end

