/- Proved: the law HeapLives holds for every input that the row lets in. No condition of ours. -/
import Derived.Test.YtkjagcamikkjkaaGreatBHeapLivesd
import Derived.Shelf.SlIterI.Nil
import Derived.Shelf.SortM.Plain
import Derived.Shelf.SortM.SortNone
import Derived.Ground.GgzProg
import Derived.Ground.SlgmProg
section
namespace Go.Proofs.YtkjagcamikkjkaaGreat.P
open Go.RowKit Go.Proofs.YtkjagcamikkjkaaGreatW.PrintWords Go.Proofs.YtkjagcamikkjkaaGreatW.PrintLast Go.Proofs.YtkjagcamikkjkaaGreatW.PrintMore
attribute [local go_sem] max2_int min2_int max_two min_two max_three min_three max_four min_four
set_option linter.unusedVariables false
set_option linter.unusedSimpArgs false
set_option maxHeartbeats 1600000 in
set_option maxRecDepth 100000 in
theorem hp_add (w0 : World) (s : HS) (c n : Int) (h0 : 0 ≤ n) (hn : n ≤ 9223372036854775807) (hrec : 0 ≤ c → c < (s.l.length : Int) ∧ n = ((fieldsL s.l c).length : Int)) (hlast : s.last < 4611686018427387904) (W : World) (h : HeapAt w0 s W) : Calls Tryz.prog 43 #[.pointer (some ⟨s.hb, 0, none⟩), .int .i64 c, .int .i64 n] W fun e w' => e = .returned (.tuple #[.int .i64 (addM s c n).1, .int .i64 (addM s c n).2.1]) ∧ HeapAt w0 (addM s c n).2.2 w' := by
  obtain ⟨ob, rb, h⟩ := h
  have H := Aside0.mk h
  have hnum := h.num
  obtain ⟨f0, f1, f2, f3, f4⟩ := (show HeapAt w0 s W from ⟨ob, rb, h⟩).cells
  have HL := Aside0.mk hlast
  have HREC := Aside0.mk hrec
  clear h hlast hrec
  have hw1 : IntKind.i64.wrap (s.room - s.used) = s.room - s.used := by rw [IntKind.wrap_i64]; omega
  have hw2 : IntKind.i64.wrap (s.room - s.used - 1) = s.room - s.used - 1 := by rw [IntKind.wrap_i64]; omega
  unfold addM
  by_cases cf : n > s.room - s.used - 1
  · rw [if_pos cf]
    have d1 : decide (n > s.room - s.used - 1) = true := decide_eq_true cf
    have d2 : decide (s.room - s.used - 1 < n) = true := decide_eq_true cf
    clear cf
    go_enter Tryz.func43, Tryz.ntmps43
    go_wp2
    repeat (go_quiet (fail); try go_wp2)
    go_ret2
    exact ⟨rfl, ob, rb, H.out.step (pw_below_drewN (Below.refl _ _) _)⟩
  · rw [if_neg cf]
    have d1 : decide (n > s.room - s.used - 1) = false := decide_eq_false cf
    have d2 : decide (s.room - s.used - 1 < n) = false := decide_eq_false cf
    have HN := Aside0.mk (show 0 ≤ n ∧ n ≤ 4096 ∧ s.used + (n + 1) ≤ s.room by omega)
    have HNUM := Aside0.mk hnum
    have hw3 : IntKind.i64.wrap (n + 1) = n + 1 := by rw [IntKind.wrap_i64]; omega
    have hw4 : IntKind.i64.wrap (s.used + (n + 1)) = s.used + (n + 1) := by rw [IntKind.wrap_i64]; omega
    have hw5 : IntKind.i64.wrap ((s.last : Int) + 1) = (s.last : Int) + 1 := by rw [IntKind.wrap_i64]; have := HL.out; omega
    clear cf hnum h0 hn
    go_enter Tryz.func43, Tryz.ntmps43
    go_wp2
    go_quiet (fail)
    have hd9 := pw_below_drewN (Below.refl W.heap.size W) nq
    replace H := Aside0.mk (H.out.step hd9)
    generalize W.drewN nq = W1 at H ⊢
    clear f0 f1 f2 f3 f4 hd9
    obtain ⟨f0, f1, f2, f3, f4⟩ := (show HeapAt w0 s W1 from ⟨ob, rb, H.out⟩).cells
    have HP := Aside0.mk H.out.mp
    have HDOM := Aside0.mk (show s.m ((s.last : Int) + 1) = none by
      cases hmm : s.m ((s.last : Int) + 1) with
      | none => rfl
      | some q => have := (H.out.dom _ q hmm).2.1; omega)
    go_wp2_with (first | ((with_reducible refine gate_store (t := 3) (p := 28) rfl ?_); refine head_store rfl rfl 2 rfl rfl H.out (by decide) { s with used := s.used + (n + 1) } rfl rfl rfl rfl rfl rfl rfl rfl (Nat.le_refl _) (by have h1 := HN.out; have h2 := HNUM.out; exact ⟨by show 0 ≤ s.used + (n + 1); omega, h1.2.2, h2.2.2⟩) ?_; intro w9 ho hk; replace HP := Aside0.mk (HP.out.block (hk.2 _ HP.out.lt (HP.out.ne H.out.hd))); replace H := Aside0.mk ho; clear ho hk f0 f1 f2 f3 f4; have f3 := blk_cell H.out.hd 3; simp only [HS.cell, List.getElem?_toArray, List.getElem?_cons_zero, List.getElem?_cons_succ] at f3) | ((with_reducible refine gate_store (t := 3) (p := 35) rfl ?_); refine head_store rfl rfl 3 rfl rfl H.out (by decide) { s with used := s.used + (n + 1), last := s.last + 1 } (by simp [HS.cell]) rfl rfl rfl rfl rfl rfl rfl (Nat.le_succ _) (by have h1 := HN.out; have h2 := HNUM.out; exact ⟨by show 0 ≤ s.used + (n + 1); omega, h1.2.2, h2.2.2⟩) ?_; intro w9 ho hk; replace HP := Aside0.mk (HP.out.block (hk.2 _ HP.out.lt (HP.out.ne H.out.hd))); replace H := Aside0.mk ho; clear ho hk f3))
    (try simp only [Act.put, List.setIfInBounds_toArray, List.set_cons_zero, List.set_cons_succ])
    refine wp_region_held_drew (S := fun w' => w'.heap[s.hb]? = some (.cells #[s.vc, .int .i64 s.room, .int .i64 (s.used + (n + 1)), .int .i64 ((s.last : Int) + 1), .map (some s.B)] 54 (0, 0))) (by kernel_rfl) ?_ (fun hHeld => ?_)
    · exact H.out.hd
    replace H : Aside0 (HeapIn w0 { s with used := s.used + (n + 1), last := s.last + 1 } ob rb w9.drew) := ⟨H.out.step (pw_below_drewN (Below.refl _ _) 1)⟩
    replace HP : Aside0 (PMap w9.drew s.B s.last fun x => (s.m x).map fun _ => ob x) := ⟨HP.out⟩
    refine take_dst (i := 0) (v := ?_) 36 rfl rfl (by kernel_rfl) (by kernel_rfl) (by kernel_rfl) (fun _ _ _ h => h) (Or.inl ⟨by rfl, ?_⟩) (by assumption) ?_
    rotate_left
    · intro w hSw
      have f3 := blk_cell hSw 3
      have f4 := blk_cell hSw 4
      go_simp
      try with_reducible rfl
    (try simp only [Act.put, List.setIfInBounds_toArray, List.set_cons_zero, List.set_cons_succ])
    refine take_dst (i := 1) (v := ?_) 37 rfl rfl (by kernel_rfl) (by kernel_rfl) (by kernel_rfl) (fun _ _ _ h => h) (Or.inl ⟨by rfl, ?_⟩) (by assumption) ?_
    rotate_left
    · intro w hSw
      have f3 := blk_cell hSw 3
      have f4 := blk_cell hSw 4
      go_simp
      try with_reducible rfl
    (try simp only [Act.put, List.setIfInBounds_toArray, List.set_cons_zero, List.set_cons_succ])
    refine take_dst (i := 2) (v := ?_) 38 rfl rfl (by kernel_rfl) (by kernel_rfl) (by kernel_rfl) (fun _ _ _ h => h) (Or.inl ⟨by rfl, ?_⟩) (by assumption) ?_
    rotate_left
    · intro w hSw
      have f3 := blk_cell hSw 3
      have f4 := blk_cell hSw 4
      go_simp
      try with_reducible rfl
    (try simp only [Act.put, List.setIfInBounds_toArray, List.set_cons_zero, List.set_cons_succ])
    refine take_dst (i := 3) (v := ?_) 39 rfl rfl (by kernel_rfl) (by kernel_rfl) (by kernel_rfl) (fun _ _ _ h => h) (Or.inl ⟨by rfl, ?_⟩) (by assumption) ?_
    rotate_left
    · intro w hSw
      have f3 := blk_cell hSw 3
      have f4 := blk_cell hSw 4
      go_simp
      try with_reducible rfl
    (try simp only [Act.put, List.setIfInBounds_toArray, List.set_cons_zero, List.set_cons_succ])
    refine take_dst (i := 4) (v := ?_) 40 rfl rfl (by kernel_rfl) (by kernel_rfl) (by kernel_rfl) (fun _ _ _ h => h) (Or.inl ⟨by rfl, ?_⟩) (by assumption) ?_
    rotate_left
    · intro w hSw
      have f3 := blk_cell hSw 3
      have f4 := blk_cell hSw 4
      go_simp
      try with_reducible rfl
    (try simp only [Act.put, List.setIfInBounds_toArray, List.set_cons_zero, List.set_cons_succ])
    refine take_dst (i := 5) (v := ?_) 41 rfl rfl (by kernel_rfl) (by kernel_rfl) (by kernel_rfl) (fun _ _ _ h => h) (Or.inl ⟨by rfl, ?_⟩) (by assumption) ?_
    rotate_left
    · intro w hSw
      have f3 := blk_cell hSw 3
      have f4 := blk_cell hSw 4
      go_simp
      try with_reducible rfl
    (try simp only [Act.put, List.setIfInBounds_toArray, List.set_cons_zero, List.set_cons_succ])
    refine take_dst (i := 6) (v := ?_) 42 rfl rfl (by kernel_rfl) (by kernel_rfl) (by kernel_rfl) (fun _ _ _ h => h) (Or.inl ⟨by rfl, ?_⟩) (by assumption) ?_
    rotate_left
    · intro w hSw
      have f3 := blk_cell hSw 3
      have f4 := blk_cell hSw 4
      go_simp
      try with_reducible rfl
    (try simp only [Act.put, List.setIfInBounds_toArray, List.set_cons_zero, List.set_cons_succ])
    refine take_dst (i := 7) (v := ?_) 43 rfl rfl (by kernel_rfl) (by kernel_rfl) (by kernel_rfl) (fun _ _ _ h => h) (Or.inl ⟨by rfl, ?_⟩) (by assumption) ?_
    rotate_left
    · intro w hSw
      have f3 := blk_cell hSw 3
      have f4 := blk_cell hSw 4
      go_simp
      try with_reducible rfl
    (try simp only [Act.put, List.setIfInBounds_toArray, List.set_cons_zero, List.set_cons_succ])
    refine take_dst (i := 8) (v := ?_) 44 rfl rfl (by kernel_rfl) (by kernel_rfl) (by kernel_rfl) (fun _ _ _ h => h) (Or.inl ⟨by rfl, ?_⟩) (by assumption) ?_
    rotate_left
    · intro w hSw
      have f3 := blk_cell hSw 3
      have f4 := blk_cell hSw 4
      go_simp
      try with_reducible rfl
    (try simp only [Act.put, List.setIfInBounds_toArray, List.set_cons_zero, List.set_cons_succ])
    refine take_dst (i := 9) (v := ?_) 45 rfl rfl (by kernel_rfl) (by kernel_rfl) (by kernel_rfl) (fun _ _ _ h => h) (Or.inl ⟨by rfl, ?_⟩) (by assumption) ?_
    rotate_left
    · intro w hSw
      have f3 := blk_cell hSw 3
      have f4 := blk_cell hSw 4
      go_simp
      try with_reducible rfl
    (try simp only [Act.put, List.setIfInBounds_toArray, List.set_cons_zero, List.set_cons_succ])
    generalize w9.drew = w10 at H HP hHeld ⊢
    refine wpAnyH_ready (rs := [10]) (by kernel_rfl) (by simp) ?_
    refine AllReadyH.cons rfl (fun K hK => ?_) AllReadyH.nil
    have hmk := run_make_ints n HN.out.1 HN.out.2.1 w10
    go_simp
    have hb9 : Below w10.heap.size w10 (w10.alloc (.cells (Array.replicate n.toNat (Value.int .i64 0)) 3)) := below_alloc (Below.refl _ _) _
    have hg9 := blk_new w10 (.cells (Array.replicate n.toNat (Value.int .i64 0)) 3)
    have hs9 : (w10.alloc (.cells (Array.replicate n.toNat (Value.int .i64 0)) 3)).heap.size = w10.heap.size + 1 := by simp
    refine hK.out _ _ (blk_below hHeld hb9) (fun hHeld => ?_)
    obtain ⟨g2, hg2⟩ : ∃ g2, g2 = w10.heap.size := ⟨_, rfl⟩
    have HFR := Aside0.mk (show ∀ k, s.fr k → k < g2 by
      intro k hf
      have h1 := (H.out.keep.2 k hf).1
      have h2 := H.out.keep.1
      have h3 : w10.heap.size = g2 := hg2.symm
      exact Nat.lt_of_lt_of_le h1 (h3 ▸ h2))
    have HLO := Aside0.mk (show (∀ y o, s.m y = some o → ob y < g2 ∧ rb y < g2) ∧ w0.heap.size ≤ g2 by
      rw [hg2]
      exact ⟨fun y o hy => ⟨blk_lt (H.out.obj y o hy).1, blk_lt (H.out.obj y o hy).2⟩, H.out.below.size⟩)
    replace HP := Aside0.mk (HP.out.block (hb9.block _ HP.out.lt))
    replace H := Aside0.mk (H.out.step hb9)
    rw [← hg2] at hg9 hs9 ⊢
    generalize w10.alloc (.cells (Array.replicate n.toNat (Value.int .i64 0)) 3) = w11 at H HP hHeld hg9 hs9 ⊢
    have HG := Aside0.mk hg9
    have HSZ := Aside0.mk hs9
    clear hmk hK K hb9 hg9 hs9 hg2
    (try simp only [Act.put, List.setIfInBounds_toArray, List.set_cons_zero, List.set_cons_succ])
    refine take_dst (i := 11) (v := ?_) 47 rfl rfl (by kernel_rfl) (by kernel_rfl) (by kernel_rfl) (fun _ _ _ h => h) (Or.inl ⟨by rfl, ?_⟩) (by assumption) ?_
    rotate_left
    · intro w hSw
      have f3 := blk_cell hSw 3
      have f4 := blk_cell hSw 4
      go_simp
      try with_reducible rfl
    (try simp only [Act.put, List.setIfInBounds_toArray, List.set_cons_zero, List.set_cons_succ])
    refine wpAnyH_ready (rs := [12]) (by kernel_rfl) (by simp) ?_
    refine AllReadyH.cons rfl (fun K hK => ?_) AllReadyH.nil
    go_simp
    have hb9 : Below w11.heap.size w11 (w11.alloc (.cells #[.int .i64 c, .slice (some ⟨g2, 0, none⟩) n.toNat n.toNat] 91)) := below_alloc (Below.refl _ _) _
    have hg9 := blk_new w11 (.cells #[.int .i64 c, .slice (some ⟨g2, 0, none⟩) n.toNat n.toNat] 91)
    refine hK.out _ _ (blk_below hHeld hb9) (fun hHeld => ?_)
    replace HP := Aside0.mk (HP.out.block (hb9.block _ HP.out.lt))
    replace H := Aside0.mk (H.out.step hb9)
    replace HG := Aside0.mk (blk_below HG.out hb9)
    obtain ⟨g1, hg1⟩ : ∃ g1, g1 = w11.heap.size := ⟨_, rfl⟩
    replace HSZ := Aside0.mk (show g1 = g2 + 1 by rw [hg1]; exact HSZ.out)
    rw [← hg1] at hg9 ⊢
    generalize w11.alloc (.cells #[.int .i64 c, .slice (some ⟨g2, 0, none⟩) n.toNat n.toNat] 91) = w12 at H HP HG hHeld hg9 ⊢
    have HG1 := Aside0.mk hg9
    clear hK K hb9 hg9 hg1
    (try simp only [Act.put, List.setIfInBounds_toArray, List.set_cons_zero, List.set_cons_succ])
    refine wpAnyH_ready (rs := [13]) (by kernel_rfl) (by simp) ?_
    refine AllReadyH.cons rfl (fun K hK => ?_) AllReadyH.nil
    refine Eq.mpr (if_pos (by rfl)) ?_
    refine pm_store_wp rfl rfl HP.out (by have := HL.out; unfold maxLen; omega) (k := (s.last : Int) + 1) (b := g1) rfl rfl (by have := HL.out; constructor <;> omega) ?_
    intro w13 r1 r2
    have hh := H.out.added (x := (s.last : Int) + 1) (c := c) (nums := List.replicate n.toNat 0) (g1 := g1) (g2 := g2) (by simpa using HG1.out) (by simpa using HG.out) (fun y o hy => by have := HLO.out.1 y o hy; have := HSZ.out; exact ⟨by omega, by omega⟩) (by have := HLO.out.2; have := HSZ.out; omega) HLO.out.2 (fun k hf => by have := HFR.out k hf; have := HSZ.out; exact ⟨by omega, by omega⟩) HDOM.out ⟨by omega, by show (s.last : Int) + 1 ≤ ((s.last + 1 : Nat) : Int); omega, by simp; have := HN.out.2.1; omega, fun h9 => ⟨(HREC.out h9).1, by have := (HREC.out h9).2; show (List.replicate n.toNat (0 : Int)).length = (fieldsL s.l c).length; rw [List.length_replicate]; have := HN.out.1; omega⟩, fun y hy => by rw [List.eq_of_mem_replicate hy]; omega⟩ r1 r2
    refine hK.out _ _ hh.hd (fun hHeld => ?_)
    (try simp only [Act.put, List.setIfInBounds_toArray, List.set_cons_zero, List.set_cons_succ])
    have HH := Aside0.mk hh
    have f3 := blk_cell hh.hd 3
    simp only [HS.cell, List.getElem?_toArray, List.getElem?_cons_zero, List.getElem?_cons_succ] at f3
    clear hK K r1 r2 hh H HP
    refine wpAnyH_done (by kernel_rfl) ?_ _
    go_wp2
    go_ret2
    exact ⟨by first | rfl | (simp; done), _, _, HH.out⟩

def rowM (s : HS) (n : Int) : Int × Int × HS := if n < 0 then (0, 5, s) else addM s (-1) n
set_option maxHeartbeats 1600000 in
set_option maxRecDepth 100000 in
theorem hp_Row (w0 : World) (s : HS) (n : Int) (hn : n ≤ 9223372036854775807) (hlast : s.last < 4611686018427387904) (W : World) (h : HeapAt w0 s W) : Calls Tryz.prog 16 #[.pointer (some ⟨s.hb, 0, none⟩), .int .i64 n] W fun e w' => e = .returned (.tuple #[.int .i64 (rowM s n).1, .int .i64 (rowM s n).2.1]) ∧ HeapAt w0 (rowM s n).2.2 w' := by
  have H := Aside0.mk h
  have HN := Aside0.mk hn
  clear h hn
  unfold rowM
  by_cases c0 : n < 0
  · rw [if_pos c0]
    have d1 : decide (n < 0) = true := decide_eq_true c0
    clear c0
    go_enter Tryz.func16, Tryz.ntmps16
    go_wp2_with fail
    refine (hp_made w0 s _ H.out).mono ?_
    rintro e w1 ⟨rfl, hb⟩
    replace H := Aside0.mk (H.out.step hb)
    clear hb
    go_wp2
    go_ret2
    exact ⟨rfl, H.out⟩
  · rw [if_neg c0]
    have d1 : decide (n < 0) = false := decide_eq_false c0
    have H0 := Aside0.mk (show 0 ≤ n by omega)
    clear c0
    go_enter Tryz.func16, Tryz.ntmps16
    go_wp2_with fail
    refine (hp_made w0 s _ H.out).mono ?_
    rintro e w1 ⟨rfl, hb⟩
    replace H := Aside0.mk (H.out.step hb)
    clear hb
    go_wp2_with fail
    refine (hp_add w0 s (-1) n H0.out HN.out (fun h9 => by omega) hlast _ H.out).mono ?_
    rintro e w2 ⟨rfl, ha⟩
    have HA := Aside0.mk ha
    clear ha
    go_wp2
    go_ret2
    exact ⟨rfl, HA.out⟩
def recordM (s : HS) (c : Int) : Int × Int × HS := if c < 0 ∨ c ≥ (s.l.length : Int) then (0, 1, s) else addM s c ((fieldsL s.l c).length : Int)
theorem fieldsL_is {l : List S38} {c : Int} {r : List S41} (h : types_Fields.f l c = some r) : r = fieldsL l c ∧ r.length < 5864062014805 := by
  unfold types_Fields.f at h
  split at h
  · rename_i hc
    cases h
    exact ⟨rfl, hc.2⟩
  · cases h
set_option maxHeartbeats 1600000 in
set_option maxRecDepth 100000 in
theorem hp_Record (w0 : World) (s : HS) (c : Int) (r : List S41) (hf : types_Fields.f s.l c = some r) (hlast : s.last < 4611686018427387904) (W : World) (h : HeapAt w0 s W) : Calls Tryz.prog 14 #[.pointer (some ⟨s.hb, 0, none⟩), .int .i64 c] W fun e w' => e = .returned (.tuple #[.int .i64 (recordM s c).1, .int .i64 (recordM s c).2.1]) ∧ HeapAt w0 (recordM s c).2.2 w' := by
  obtain ⟨ob, rb, h⟩ := h
  obtain ⟨A, cc, hvc⟩ := Kd.R_slice h.cls
  have HVC := Aside0.mk hvc
  have H := Aside0.mk (show HeapAt w0 s W from ⟨ob, rb, h⟩)
  have HF := Aside0.mk hf
  have HFL := Aside0.mk (fieldsL_is hf)
  clear h hf hvc
  unfold recordM
  by_cases cc0 : c < 0 ∨ c ≥ (s.l.length : Int)
  · rw [if_pos cc0]
    by_cases c0 : c < 0
    · have d1 : decide (c < 0) = true := decide_eq_true c0
      clear c0 cc0
      go_enter Tryz.func14, Tryz.ntmps14
      go_wp2_with fail
      refine (hp_made w0 s _ H.out).mono ?_
      rintro e w1 ⟨rfl, hb⟩
      replace H := Aside0.mk (H.out.step hb)
      clear hb
      go_wp2
      go_ret2
      exact ⟨rfl, H.out⟩
    · have d1 : decide (c < 0) = false := decide_eq_false c0
      have d2 : decide (c ≥ (s.l.length : Int)) = true := decide_eq_true (by omega)
      have d3 : decide ((s.l.length : Int) ≤ c) = true := decide_eq_true (by omega)
      clear c0 cc0
      go_enter Tryz.func14, Tryz.ntmps14
      go_wp2_with fail
      refine (hp_made w0 s _ H.out).mono ?_
      rintro e w1 ⟨rfl, hb⟩
      replace H := Aside0.mk (H.out.step hb)
      clear hb
      have f0 := H.out.cells.1
      rw [HVC.out] at f0
      go_wp2
      go_ret2
      exact ⟨rfl, H.out⟩
  · rw [if_neg cc0]
    have HCL := Aside0.mk (show c < (s.l.length : Int) by omega)
    have d1 : decide (c < 0) = false := decide_eq_false (by omega)
    have d2 : decide (c ≥ (s.l.length : Int)) = false := decide_eq_false (by omega)
    have d3 : decide ((s.l.length : Int) ≤ c) = false := decide_eq_false (by omega)
    clear cc0
    go_enter Tryz.func14, Tryz.ntmps14
    go_wp2_with fail
    refine (hp_made w0 s _ H.out).mono ?_
    rintro e w1 ⟨rfl, hb⟩
    replace H := Aside0.mk (H.out.step hb)
    clear hb
    have f0 := H.out.cells.1
    rw [HVC.out] at f0
    have HC := Aside0.mk (show s.l.length ≤ cc ∧ Kd.C k38 w1 A s.l.length s.l by
      obtain ⟨ob, rb, h⟩ := H.out
      have := h.cls
      rw [HVC.out] at this
      exact (Kd.R_reads' this).2)
    go_wp2_with fail
    refine (types_Fields.calls A cc s.l c r _ HC.out.2 HC.out.1 HF.out).mono ?_
    rintro e w2 ⟨v2, rfl, hv2, hb⟩
    obtain ⟨A2, c2, e2⟩ := Kd.R_slice hv2
    subst e2
    replace H := Aside0.mk (H.out.step hb)
    have hrl : (r.length : Int) = ((fieldsL s.l c).length : Int) := by rw [HFL.out.1]
    have HRL := Aside0.mk hrl
    clear hb hv2 f0 hrl
    go_wp2_with fail
    rw [HRL.out]
    refine (hp_add w0 s c ((fieldsL s.l c).length : Int) (by omega) (by have := HFL.out.2; have := HRL.out; omega) (fun _ => ⟨HCL.out, rfl⟩) hlast _ H.out).mono ?_
    rintro e w3 ⟨rfl, ha⟩
    have HA := Aside0.mk ha
    clear ha
    go_wp2
    go_ret2
    exact ⟨rfl, HA.out⟩
end Go.Proofs.YtkjagcamikkjkaaGreat.P

end

section
namespace Go.Proofs.YtkjagcamikkjkaaGreat.P
open Go.RowKit Go.Proofs.YtkjagcamikkjkaaGreatW.PrintWords Go.Proofs.YtkjagcamikkjkaaGreatW.PrintLast Go.Proofs.YtkjagcamikkjkaaGreatW.PrintMore
attribute [local go_sem] max2_int min2_int max_two min_two max_three min_three max_four min_four
set_option linter.unusedVariables false
set_option linter.unusedSimpArgs false
theorem uzero (w : World) : (zeroValue 100).run Tryz.prog w = .ok (.agg #[]) w := by kernel_rfl
def UMap (W : World) (B n : Nat) (g : Int → Bool) : Prop := ∃ D : DataW Unit, W.ownsMap Tryz.prog 3 unitElem B n D ∧ ∀ x, Maps.has D (.int .i64 x) = g x
theorem UMap.made (w : World) : UMap (w.alloc (.map #[] 0)) w.heap.size 0 (fun _ => false) := ⟨.map [], World.ownsMap_made _ _ _ _, fun _ => rfl⟩
theorem UMap.block {W W1 : World} {B n : Nat} {g : Int → Bool} (h : UMap W B n g) (hb : W1.heap[B]? = W.heap[B]?) : UMap W1 B n g := by
  obtain ⟨D, ⟨es, clock, h1, h2⟩, h3⟩ := h
  exact ⟨D, ⟨es, clock, hb.trans h1, h2⟩, h3⟩
theorem UMap.lt {W : World} {B n : Nat} {g : Int → Bool} (h : UMap W B n g) : B < W.heap.size := by
  obtain ⟨D, h1, _⟩ := h
  exact h1.lt
theorem UMap.ne {W : World} {B n : Nat} {g : Int → Bool} (h : UMap W B n g) {b : Nat} {cs : Array Value} {t : TypeId} {fr : Nat × Nat} (hb : W.heap[b]? = some (.cells cs t fr)) : B ≠ b := fun e => by
  obtain ⟨D, ⟨es, clock, h1, _⟩, _⟩ := h
  rw [e, hb] at h1
  cases h1
section
variable {ops : Array Oper} {rest : List Oper} {o : Oper} {a : Act} {Q : Exit → Act → World → Prop} {K : Act → World → Prop}
theorem um_store (hgd : o.guard = none) {m x v : Operand} (ho : o.op = .mapUpdate 93 m x v) {W : World} {B n : Nat} {g : Int → Bool} (hm : a.eval m = .map (some B)) (hown : UMap W B n g) (hn : n < maxLen) {k : Int} (hx : a.eval x = .int .i64 k) (hv : a.eval v = .agg #[]) (hk : I64 k)
    (h : ∀ w1, UMap w1 B (n + 1) (fun y => decide (y = k) || g y) → W.grownBy w1 (some B) → wpList Tryz.prog ops Q rest (a.put o.dst undef) w1) : wpList Tryz.prog ops Q (o :: rest) a W :=
  wpList_plain hgd fun _ hK => by
    obtain ⟨D, h1, h2⟩ := hown
    obtain ⟨w', hrun, r1, r2⟩ := h1.update mkeyed Tryz.underlying93 hn (Go.Maps.keyOf_int_mk Tryz.underlying3 hk.wf) unitElem_mk
    have hmm := (h1.tidy mkeyed).isMap
    have hkk : WideAt.IsKeyLit (.int .i64 k) := trivial
    unfold Oper.wp
    simp [execOp, ho, hm, hx, hv, hrun, Result.andThen]
    refine hK _ _ (h _ ⟨_, r1, fun y => ?_⟩ r2)
    by_cases e : y = k
    · subst e
      show _ = (decide (y = y) || g y)
      rw [Maps.has_put_same hmm hkk, decide_eq_true rfl]; rfl
    · show _ = (decide (y = k) || g y)
      rw [Maps.has_put_other (fun e' => e (by cases e'; rfl)), h2, decide_eq_false e]; rfl
theorem um_look (hgd : o.guard = none) {m x : Operand} (ho : o.op = .lookup 93 m x true) {W : World} {B n : Nat} {g : Int → Bool} (hm : a.eval m = .map (some B)) (hown : UMap W B n g) {k : Int} (hx : a.eval x = .int .i64 k) (hk : I64 k)
    (h : wpList Tryz.prog ops Q rest (a.put o.dst (.tuple #[.agg #[], .bool (g k)])) W) : wpList Tryz.prog ops Q (o :: rest) a W := by
  obtain ⟨D, h1, h2⟩ := hown
  refine wpList_lookup_own_unit W hgd m x _ ho 3 100 mkeyed Tryz.underlying93 (uzero _) B n D hm h1 _ _ hx (Go.Maps.keyOf_int_mk Tryz.underlying3 hk.wf) ?_
  rw [h2 k]
  exact h
end
def meetM (s : HS) (st : List Int × List Int) (x : Int) : List Int × List Int := if (s.m x).isSome = true ∧ x ∉ st.1 then (st.1 ++ [x], st.2 ++ [x]) else st
def memH (l : List Int) (x : Int) : Bool := decide (x ∈ l)
structure MarkIn (w0 w1 : World) (s : HS) (b2 b6 b7 B : Nat) (met op : List Int) (v : Value) (W : World) : Prop where
  rows : Rws w1 [(b7, 42, #[v]), (b6, 93, #[.map (some B)]), (b2, 27, #[.pointer (some ⟨s.hb, 0, none⟩)])] W
  set : UMap W B met.length (memH met)
  base : w1.heap.size ≤ B
  open_ : Kd.R (Kd.int .i64) 3 W w1.heap.size (fun _ => True) v op
theorem MarkIn.below {w0 w1 : World} {s : HS} {b2 b6 b7 B : Nat} {met op : List Int} {v : Value} {W : World} (h : MarkIn w0 w1 s b2 b6 b7 B met op v W) : Below w1.heap.size w1 W := h.rows.below
theorem MarkIn.step {w0 w1 : World} {s : HS} {b2 b6 b7 B : Nat} {met op : List Int} {v : Value} {W W1 : World} (h : MarkIn w0 w1 s b2 b6 b7 B met op v W) (hb : Below W.heap.size W W1) : MarkIn w0 w1 s b2 b6 b7 B met op v W1 := ⟨h.rows.step hb, h.set.block (hb.block _ h.set.lt), h.base, Kd.R_below h.open_ hb⟩
theorem MarkIn.cells {w0 w1 : World} {s : HS} {b2 b6 b7 B : Nat} {met op : List Int} {v : Value} {W : World} (h : MarkIn w0 w1 s b2 b6 b7 B met op v W) : W.cell? ⟨b7, 0, none⟩ = some v ∧ W.cell? ⟨b6, 0, none⟩ = some (.map (some B)) ∧ W.cell? ⟨b2, 0, none⟩ = some (.pointer (some ⟨s.hb, 0, none⟩)) :=
  ⟨blk_cell (h.rows.mem (g := b7) (t := 42) (cs := #[v]) (by simp)) 0, blk_cell (h.rows.mem (g := b6) (t := 93) (cs := #[.map (some B)]) (by simp)) 0, blk_cell (h.rows.mem (g := b2) (t := 27) (cs := #[.pointer (some ⟨s.hb, 0, none⟩)]) (by simp)) 0⟩
def KeptT (W W1 : World) : Prop := W.heap.size ≤ W1.heap.size ∧ ∀ (g : Nat) (cs : Array Value) (t : Nat), W.heap[g]? = some (.cells cs t (0, 0)) → t ≠ (3 : Nat) → t ≠ (42 : Nat) → W1.heap[g]? = some (.cells cs t (0, 0))
theorem KeptT.refl (W : World) : KeptT W W := ⟨Nat.le_refl _, fun _ _ _ h _ _ => h⟩
theorem KeptT.trans {W W1 W2 : World} (h : KeptT W W1) (k : KeptT W1 W2) : KeptT W W2 := ⟨Nat.le_trans h.1 k.1, fun g cs t hg h1 h2 => k.2 g cs t (h.2 g cs t hg h1 h2) h1 h2⟩
theorem KeptT.below {W W1 W2 : World} (h : KeptT W W1) (hb : Below W1.heap.size W1 W2) : KeptT W W2 := h.trans ⟨hb.size, fun g cs t hg _ _ => blk_below hg hb⟩
theorem int_ne (q : Nat) (hq : q ≠ 3) : ∀ t, t ∈ (3 : Nat) :: (Kd.int .i64).E → t ≠ q := by
  intro t ht
  simp [Kd.int, Kd.scalar] at ht
  rw [ht]
  exact fun e => hq e.symm
theorem Rws.besidesH {w0 W W1 : World} {l : List (Nat × TypeId × Array Value)} (h : Rws w0 l W) {v : Value} {e : Nat} (ht : ∀ k, v.ownBlock = some k → ∃ cells, W.heap[k]? = some (.cells cells e (0, 0))) (hne : ∀ p ∈ l, p.2.1 ≠ e) (hg : W.grownBy W1 v.ownBlock) (hb : Below w0.heap.size w0 W1) : Rws w0 l W1 :=
  ⟨fun p hp => ⟨blk_grown (h.lies p hp).1 hg (fun q => by
    obtain ⟨cs, hc⟩ := ht _ q.symm
    rw [(h.lies p hp).1] at hc
    injection hc with hc
    injection hc with _ hc
    exact hne p hp hc), (h.lies p hp).2⟩, h.ne, hb⟩
theorem below_noneH {W W1 : World} (hg : W.grownBy W1 none) : Below W.heap.size W W1 := ⟨hg.os, hg.tape, hg.output, hg.size, fun k hk => hg.block k hk (by simp)⟩
section
variable {ops : Array Oper} {rest : List Oper} {o : Oper} {a : Act} {Q : Exit → Act → World → Prop}
theorem rw_allocH (hgd : o.guard = none) (ty : TypeId) (ho : o.op = .alloc ty) {cs : Array Value} (hz : (Tryz.prog.info? ty).map (·.zero) = some (some (.agg cs))) {w0 W : World} {l : List (Nat × TypeId × Array Value)} (hl : Rws w0 l W)
    (h : ∀ g w1, Rws w0 ((g, ty, cs) :: l) w1 → Below W.heap.size W w1 → wpList Tryz.prog ops Q rest (a.put o.dst (.pointer (some ⟨g, 0, none⟩))) w1) : wpList Tryz.prog ops Q (o :: rest) a W :=
  wpList_plain hgd fun _ hK => rw_alloc_wp ty ho hz hl (fun g w1 _ hX hb => hK _ _ (h g w1 hX hb))
end
theorem memH_add (met : List Int) (x : Int) : (fun y => decide (y = x) || memH met y) = memH (met ++ [x]) := by
  funext y
  unfold memH
  by_cases e : y = x
  · rw [decide_eq_true e, Bool.true_or, decide_eq_true (List.mem_append.2 (.inr (List.mem_singleton.2 e)))]
  · rw [decide_eq_false e, Bool.false_or]
    exact decide_eq_decide.2 ⟨fun h => List.mem_append.2 (.inl h), fun h => (List.mem_append.1 h).elim id (fun h => absurd (List.mem_singleton.1 h) e)⟩
section
variable {ops : Array Oper} {rest : List Oper} {o : Oper} {a : Act} {Q : Exit → Act → World → Prop}
theorem mk_set (hgd : o.guard = none) {m x v : Operand} (ho : o.op = .mapUpdate 93 m x v) {w0 w1 W : World} {s : HS} {b2 b6 b7 B : Nat} {met op : List Int} {u : Value} (H : MarkIn w0 w1 s b2 b6 b7 B met op u W) (hm : a.eval m = .map (some B)) (hn : met.length < maxLen) {k : Int} (hx : a.eval x = .int .i64 k) (hv : a.eval v = .agg #[]) (hk : I64 k)
    (h : ∀ W1, MarkIn w0 w1 s b2 b6 b7 B (met ++ [k]) op u W1 → KeptT W W1 → wpList Tryz.prog ops Q rest (a.put o.dst undef) W1) : wpList Tryz.prog ops Q (o :: rest) a W :=
  um_store hgd ho hm H.set hn hx hv hk (fun W1 r1 r2 => h W1 ⟨⟨fun p hp => ⟨blk_grown (H.rows.lies p hp).1 r2 (fun e => H.set.ne (H.rows.lies p hp).1 (Option.some.inj e).symm), (H.rows.lies p hp).2⟩, H.rows.ne, H.below.grown r2 H.below.size (fun k hk => by cases hk; exact H.base)⟩, by rw [List.length_append, List.length_singleton, ← memH_add]; exact r1, H.base, Kd.R_mono (Kd.R_grown (Kd.R_bound H.open_) r2 (fun k hk e => by
    obtain ⟨_, _, _, q, _, cells, hc⟩ := hk
    exact H.set.ne hc (Option.some.inj e).symm)) (fun _ _ => trivial)⟩ ⟨r2.size, fun g cs t hg _ _ => blk_grown hg r2 (fun e => H.set.ne hg (Option.some.inj e).symm)⟩)
structure MarkA (w0 w1 : World) (s : HS) (b2 b6 b7 B : Nat) (met op : List Int) (u v : Value) (W : World) : Prop where
  rows : Rws w1 [(b7, 42, #[u]), (b6, 93, #[.map (some B)]), (b2, 27, #[.pointer (some ⟨s.hb, 0, none⟩)])] W
  set : UMap W B met.length (memH met)
  base : w1.heap.size ≤ B
  open_ : Kd.R (Kd.int .i64) 3 W w1.heap.size (fun _ => True) v op
theorem mk_app (hgd : o.guard = none) {p x : Operand} (ho : o.op = .call { callee := .builtin .append, args := #[p, x], argTypes := #[42, 42] }) {w0 w1 W : World} {s : HS} {b2 b6 b7 B : Nat} {met op : List Int} {v : Value} (k : Int) {A : Option Addr} {c : Nat} (H : MarkIn w0 w1 s b2 b6 b7 B met op v W) (hp : a.eval p = v) (hx : a.eval x = .slice A 1 c) (HL : (Kd.int .i64).C W A 1 [k]) (hlt : op.length < 17592186044416)
    (h : ∀ v1 W1, MarkA w0 w1 s b2 b6 b7 B met (op ++ [k]) v v1 W1 → KeptT W W1 → wpList Tryz.prog ops Q rest (a.put o.dst v1) W1) : wpList Tryz.prog ops Q (o :: rest) a W := by
  refine Kd.R_append_rows (Kd.int .i64) (w0 := w1) w1.heap.size hgd p x 42 3 (.int .i64 0) 8 ho Tryz.underlying42 info3 rfl (by decide) (by omega) v op [k] A 1 c (fun _ => True) (fun _ => False) hp hx H.open_ HL (fun _ _ hh => hh) (fun _ hh => hh.elim) (fun _ _ => trivial) H.below H.below.size (by omega) ?_
  intro v1 W1 h1 h2 h3 h4
  exact h v1 W1 ⟨H.rows.besidesH (Kd.R_typed H.open_) (by intro p hp; simp at hp; rcases hp with rfl | rfl | rfl <;> first | (show (42 : Nat) ≠ 3; decide) | (show (93 : Nat) ≠ 3; decide) | (show (27 : Nat) ≠ 3; decide)) h3 h2, H.set.block (h3.block _ H.set.lt (fun e => by obtain ⟨cs, hc⟩ := Kd.R_typed H.open_ B e.symm; exact H.set.ne hc rfl)), H.base, h1⟩ ⟨h3.size, fun g cs t hg ht _ => blk_grown hg h3 (fun e => by
    obtain ⟨cs2, hc2⟩ := Kd.R_typed H.open_ g e.symm
    rw [hg] at hc2
    injection hc2 with hc2
    injection hc2 with _ hc2
    exact ht hc2)⟩
theorem mk_put (hgd : o.guard = none) {p x : Operand} (ho : o.op = .store 42 p x) {w0 w1 W : World} {s : HS} {b2 b6 b7 B : Nat} {met op : List Int} {u v : Value} (H : MarkA w0 w1 s b2 b6 b7 B met op u v W) (hp : a.eval p = .pointer (some ⟨b7, 0, none⟩)) (hx : a.eval x = v)
    (h : ∀ W1, MarkIn w0 w1 s b2 b6 b7 B met op v W1 → KeptT W W1 → wpList Tryz.prog ops Q rest (a.put o.dst undef) W1) : wpList Tryz.prog ops Q (o :: rest) a W := by
  obtain ⟨A, c, e⟩ := Kd.R_slice H.open_
  have hm := H.rows.mem (g := b7) (t := 42) (cs := #[u]) (by simp)
  refine rw_cell hgd 42 ho (i := 0) hp hx (by rw [e]; rfl) [] H.rows (by show (_ : Nat) < 1; decide) (by kernel_rfl) ?_
  intro W1 hX hk
  exact h W1 ⟨hX, H.set.block (hk.2 _ H.set.lt (H.set.ne hm)), H.base, Kd.R_mono (Kd.R_step (Kd.R_types H.open_ hm (int_ne _ (by show (42 : Nat) ≠ 3; decide))) (fun j hj hlt => hk.2 j hlt hj.2)) (fun _ _ => trivial)⟩ ⟨hk.1, fun g cs t hg _ ht => blk_kept hg hk (blk_ne hg hm ht)⟩
end
set_option maxHeartbeats 1600000 in
set_option maxRecDepth 100000 in
theorem hp_meet (w0 w1 : World) (s : HS) (b2 b6 b7 B : Nat) (met op : List Int) (v : Value) (x : Int) (hk : I64 x) (hlt : op.length < 17592186044416) (hlt2 : met.length < 17592186044416) (h0 : HeapAt w0 s w1) (W : World) (h : MarkIn w0 w1 s b2 b6 b7 B met op v W) :
    Calls Tryz.prog 68 #[.int .i64 x, .pointer (some ⟨b6, 0, none⟩), .pointer (some ⟨b2, 0, none⟩), .pointer (some ⟨b7, 0, none⟩)] W fun e w' => e = .returned (.tuple #[]) ∧ KeptT W w' ∧ ∃ v', MarkIn w0 w1 s b2 b6 b7 B (meetM s (met, op) x).1 (meetM s (met, op) x).2 v' w' := by
  obtain ⟨ob, rb, h0⟩ := h0
  have KT := Aside0.mk (KeptT.refl W)
  have H := Aside0.mk (h0.step h.below)
  have M := Aside0.mk h
  have HK := Aside0.mk hk
  have HLT := Aside0.mk hlt
  have HLT2 := Aside0.mk hlt2
  obtain ⟨A7, c7, e7⟩ := Kd.R_slice h.open_
  subst e7
  clear h0 h hk hlt hlt2
  obtain ⟨k7, k6, k2⟩ := M.out.cells
  have f4 := blk_cell H.out.hd 4
  simp only [HS.cell, List.getElem?_toArray, List.getElem?_cons_zero, List.getElem?_cons_succ] at f4
  unfold meetM
  cases hm : s.m x with
  | none =>
    have HSM := Aside0.mk hm
    have HMB := Aside0.mk (show memH met x = memH met x from rfl)
    rw [if_neg (by simp)]
    clear hm
    go_enter Tryz.func68, Tryz.ntmps68
    go_wp2_with (first | ((with_reducible refine gate_dst (N := 5) rfl ?_); refine rw_allocH rfl 100 rfl (cs := #[]) (by kernel_rfl) M.out.rows ?_; intro b5 w_ hX hb9; have hU := blk_cell (hX.mem List.mem_cons_self) 0; replace M := Aside0.mk (M.out.step hb9); replace H := Aside0.mk (H.out.step hb9); replace KT := Aside0.mk (KT.out.below hb9); clear hX hb9 k7 k6 k2 f4; obtain ⟨k7, k6, k2⟩ := M.out.cells; have f4 := blk_cell H.out.hd 4; simp only [HS.cell, List.getElem?_toArray, List.getElem?_cons_zero, List.getElem?_cons_succ] at f4) | ((with_reducible refine gate_dst (N := 11) rfl ?_); refine um_look rfl rfl rfl M.out.set rfl HK.out ?_; rw [HMB.out]) | ((with_reducible refine gate_dst (N := 19) rfl ?_); refine pm_look rfl rfl rfl H.out.mp rfl HK.out ?_; rw [HSM.out]; simp only [Option.map_none, Option.map_some]))
    apply bodyPost_end (results_none rfl _ _ _)
    · rfl
    · exact ⟨rfl, KT.out, _, M.out⟩
  | some o =>
    have HSM := Aside0.mk hm
    by_cases hmem : x ∈ met
    · have HMB := Aside0.mk (show memH met x = true from decide_eq_true hmem)
      rw [if_neg (fun h => h.2 hmem)]
      clear hm hmem
      go_enter Tryz.func68, Tryz.ntmps68
      go_wp2_with (first | ((with_reducible refine gate_dst (N := 5) rfl ?_); refine rw_allocH rfl 100 rfl (cs := #[]) (by kernel_rfl) M.out.rows ?_; intro b5 w_ hX hb9; have hU := blk_cell (hX.mem List.mem_cons_self) 0; replace M := Aside0.mk (M.out.step hb9); replace H := Aside0.mk (H.out.step hb9); replace KT := Aside0.mk (KT.out.below hb9); clear hX hb9 k7 k6 k2 f4; obtain ⟨k7, k6, k2⟩ := M.out.cells; have f4 := blk_cell H.out.hd 4; simp only [HS.cell, List.getElem?_toArray, List.getElem?_cons_zero, List.getElem?_cons_succ] at f4) | ((with_reducible refine gate_dst (N := 11) rfl ?_); refine um_look rfl rfl rfl M.out.set rfl HK.out ?_; rw [HMB.out]) | ((with_reducible refine gate_dst (N := 19) rfl ?_); refine pm_look rfl rfl rfl H.out.mp rfl HK.out ?_; rw [HSM.out]; simp only [Option.map_none, Option.map_some]))
      apply bodyPost_end (results_none rfl _ _ _)
      · rfl
      · exact ⟨rfl, KT.out, _, M.out⟩
    · have HMB := Aside0.mk (show memH met x = false from decide_eq_false hmem)
      rw [if_pos ⟨rfl, hmem⟩]
      clear hm hmem
      go_enter Tryz.func68, Tryz.ntmps68
      go_wp2_with (first | ((with_reducible refine gate_dst (N := 5) rfl ?_); refine rw_allocH rfl 100 rfl (cs := #[]) (by kernel_rfl) M.out.rows ?_; intro b5 w_ hX hb9; have hU := blk_cell (hX.mem List.mem_cons_self) 0; replace M := Aside0.mk (M.out.step hb9); replace H := Aside0.mk (H.out.step hb9); replace KT := Aside0.mk (KT.out.below hb9); clear hX hb9 k7 k6 k2 f4; obtain ⟨k7, k6, k2⟩ := M.out.cells; have f4 := blk_cell H.out.hd 4; simp only [HS.cell, List.getElem?_toArray, List.getElem?_cons_zero, List.getElem?_cons_succ] at f4) | ((with_reducible refine gate_dst (N := 11) rfl ?_); refine um_look rfl rfl rfl M.out.set rfl HK.out ?_; rw [HMB.out]) | ((with_reducible refine gate_dst (N := 19) rfl ?_); refine pm_look rfl rfl rfl H.out.mp rfl HK.out ?_; rw [HSM.out]; simp only [Option.map_none, Option.map_some]) | (first | ((with_reducible refine gate_dst (N := 31) rfl ?_); refine Kd.R_lit (Kd.int .i64) _ 3 ?hgA (N := 31) ?hdA (xs := ([x] : List Int)) (inner := [.int .i64 x]) (ok := fun _ => True) (okp := fun _ => True) ?hrA ?hpA (fun _ hk => hk) trivial M.out.below M.out.below.size (by simp) ?_; (case hdA => rfl); (case hgA => rfl); (case hrA => first | (go_simp; done) | (go_simp; rfl)); (case hpA => exact (Reps.one (show Kd.M (Kd.int .i64) _ _ _ x [.int .i64 x] from rfl) (Reps.none _ _))); intro v31 w3 ho1 hb1 hg1 _; have hbn := below_noneH hg1; obtain ⟨A3, c3', e3'⟩ := Kd.R_slice ho1; subst e3'; have HL1 := Aside0.mk (Kd.R_reads' ho1).2.2; replace M := Aside0.mk (M.out.step hbn); replace KT := Aside0.mk (KT.out.below hbn); clear ho1 hb1 hg1 hbn k7) | (at_builtin; refine mk_app rfl rfl x M.out rfl rfl HL1.out HLT.out ?_; intro v5 w4 ho hkt; have MA := Aside0.mk ho; replace KT := Aside0.mk (KT.out.trans hkt); clear ho hkt; obtain ⟨A5, c5, e5⟩ := Kd.R_slice MA.out.open_; subst e5) | ((with_reducible refine gate_store (t := 42) (p := 3) rfl ?_); refine mk_put rfl rfl MA.out rfl rfl ?_; intro w6 ho hkt; replace M := Aside0.mk ho; replace KT := Aside0.mk (KT.out.trans hkt); clear ho hkt MA) | (refine mk_set rfl rfl M.out rfl (by have := HLT2.out; unfold maxLen; omega) rfl rfl HK.out ?_; intro w7 ho hkt; replace M := Aside0.mk ho; replace KT := Aside0.mk (KT.out.trans hkt); clear ho hkt k6 k7; obtain ⟨k7, k6, k2⟩ := M.out.cells)))
      apply bodyPost_end (results_none rfl _ _ _)
      · rfl
      · exact ⟨rfl, KT.out, _, M.out⟩
end Go.Proofs.YtkjagcamikkjkaaGreat.P

end

section
namespace Go.Proofs.YtkjagcamikkjkaaGreat.P
open Go.RowKit Go.Proofs.YtkjagcamikkjkaaGreatW.PrintWords Go.Proofs.YtkjagcamikkjkaaGreatW.PrintLast Go.Proofs.YtkjagcamikkjkaaGreatW.PrintMore
attribute [local go_sem] max2_int min2_int max_two min_two max_three min_three max_four min_four
set_option linter.unusedVariables false
set_option linter.unusedSimpArgs false
def isRefH (t : Int) : Bool := (types_IsRef.f t).getD false
theorem isRefH_is (t : Int) : types_IsRef.f t = some (isRefH t) := by
  unfold isRefH types_IsRef.f
  split
  · rfl
  · split
    · rfl
    · split
      · rfl
      · rfl
def meetAll (s : HS) (fl : List S41) (nums : List Int) : Nat → List Int × List Int → List Int × List Int
  | 0, st => st
  | i + 1, st => if isRefH (rd_T41 fl (i : Int)).f1 = true then meetM s (meetAll s fl nums i st) (nums.getD i 0) else meetAll s fl nums i st
def fitM (n : Nat) : Bool := decide (n < 8796093022208)
theorem fitM_is {n : Nat} (h : fitM n = true) : n < 8796093022208 := of_decide_eq_true h
def markGo (s : HS) : Nat → List Int × List Int → Option (List Int)
  | 0, _ => none
  | k + 1, st => if st.2.length = 0 then some st.1 else match s.m (st.2.getD (st.2.length - 1) 0) with
    | none => none
    | some o => if (fitM st.1.length && fitM st.2.length) = true then (if o.1 < 0 then markGo s k (st.1, st.2.dropLast) else markGo s k (meetAll s (fieldsL s.l o.1) o.2 (fieldsL s.l o.1).length (st.1, st.2.dropLast))) else none
def rootsM (s : HS) : List Int → List Int × List Int → Option (List Int × List Int)
  | [], st => some st
  | x :: r, st => if x ≠ 0 ∧ s.m x = none then none else rootsM s r (meetM s st x)
def markM (k : Nat) (s : HS) (roots : List Int) : Option (Option (List Int)) := match rootsM s roots ([], []) with
  | none => some none
  | some st => (markGo s k st).map some
theorem meetM_len (s : HS) (st : List Int × List Int) (x : Int) : (meetM s st x).1.length ≤ st.1.length + 1 ∧ (meetM s st x).2.length ≤ st.2.length + 1 := by
  unfold meetM
  split
  · simp
  · simp
theorem meetAll_len (s : HS) (fl : List S41) (nums : List Int) : ∀ (i : Nat) (st : List Int × List Int), (meetAll s fl nums i st).1.length ≤ st.1.length + i ∧ (meetAll s fl nums i st).2.length ≤ st.2.length + i
  | 0, st => ⟨Nat.le_refl _, Nat.le_refl _⟩
  | i + 1, st => by
    have ih := meetAll_len s fl nums i st
    have h := meetM_len s (meetAll s fl nums i st) (nums.getD i 0)
    unfold meetAll
    split
    · exact ⟨by omega, by omega⟩
    · exact ⟨by omega, by omega⟩
def FieldsOK (l : List S38) : Prop := ∀ c : Int, 0 ≤ c → c < (l.length : Int) → types_Fields.f l c = some (fieldsL l c)
theorem MarkIn.last_cell {w0 w1 : World} {s : HS} {b2 b6 b7 B g7 c7 m : Nat} {met q : List Int} {x : Int} {W : World} (h : MarkIn w0 w1 s b2 b6 b7 B met (q ++ [x]) (.slice (some ⟨g7, 0, none⟩) (q ++ [x]).length c7) W) (hm : m = q.length) : W.cell? ⟨g7, m, none⟩ = some (.int .i64 x) := by
  have := (Kd.R_cell 0 h.open_ (m : Int) (by omega) (by rw [List.length_append, List.length_singleton]; omega)).1
  rw [Int.toNat_natCast] at this
  rw [this]
  unfold rdOf
  rw [Int.toNat_natCast, hm]
  simp
theorem MarkIn.pop {w0 w1 : World} {s : HS} {b2 b6 b7 B g7 c7 m : Nat} {met q : List Int} {x : Int} {W : World} (h : MarkIn w0 w1 s b2 b6 b7 B met (q ++ [x]) (.slice (some ⟨g7, 0, none⟩) (q ++ [x]).length c7) W) (hm : m = q.length) : MarkA w0 w1 s b2 b6 b7 B met q (.slice (some ⟨g7, 0, none⟩) (q ++ [x]).length c7) (.slice (some ⟨g7, 0, none⟩) m c7) W :=
  ⟨h.rows, h.set, h.base, by have := Kd.R_take h.open_ (m := m) (by rw [hm]; simp); rwa [show (q ++ [x]).take m = q by rw [hm]; simp] at this⟩
theorem R_keptT {W W1 : World} {base : Nat} {v : Value} {xs : List S41} (h : Kd.R k41 41 W base (fun _ => True) v xs) (hk : KeptT W W1) : Kd.R k41 41 W1 base (fun _ => True) v xs :=
  Kd.R_mono (Kd.R_step (Kd.R_bound h) (fun k hk2 hlt => by
    obtain ⟨_, _, _, q, hq, cells, hc⟩ := hk2
    have hne : ∀ q, q ∈ (41 : Nat) :: k41.E → q ≠ (3 : Nat) ∧ q ≠ (42 : Nat) := by decide
    exact (hk.2 k cells q hc (hne q hq).1 (hne q hq).2).trans hc.symm)) (fun _ _ => trivial)
theorem pm_run {W : World} {B n : Nat} {g : Int → Option Nat} (hown : PMap W B n g) {k : Int} (hk : I64 k) : (Instr.lookup 52 (.map (some B)) (.int .i64 k) false).run Tryz.prog W = .ok (.pointer ((g k).map fun b => ⟨b, 0, none⟩)) W := by
  obtain ⟨D, h1, h2, h3⟩ := hown
  obtain ⟨v, ps, hrun, hv⟩ := h1.lookup mkeyed Tryz.underlying52 (pzero W) (show ptrR (.pointer none) = some (.lit (.bool false), []) from rfl) (Go.Maps.keyOf_int_mk Tryz.underlying3 hk.wf)
  rw [hrun]
  cases hg : g k with
  | none =>
    have h9 := h2 k
    rw [hg] at h9
    rw [Maps.atKey_of_not_has (by simpa using h9)] at hv
    rw [ptrR_inv0 hv]
    rfl
  | some b =>
    rw [h3 k b hg] at hv
    rw [ptrR_inv hv]
    rfl
def MarkPost (w1 : World) (res : Option (List Int)) (e : Ending) (w' : World) : Prop := (res = none ∧ e = .returned (.tuple #[.map none, .bool false])) ∨ ∃ (met : List Int) (B : Nat), res = some met ∧ e = .returned (.tuple #[.map (some B), .bool true]) ∧ w1.heap.size ≤ B ∧ UMap w' B met.length (memH met)
theorem rw_boxH {ops : Array Oper} {rest : List Oper} {o : Oper} {a : Act} {Q : Exit → Act → World → Prop} (hgd : o.guard = none) (ty : TypeId) {x : Operand} (ho : o.op = .box ty x) {v : Value} (hx : a.eval x = v) (h1 : v.oneCell' = true) {w0 W : World} {l : List (Nat × TypeId × Array Value)} (hl : Rws w0 l W)
    (h : ∀ g w1, Rws w0 ((g, ty, #[v]) :: l) w1 → Below W.heap.size W w1 → wpList Tryz.prog ops Q rest (a.put o.dst (.pointer (some ⟨g, 0, none⟩))) w1) : wpList Tryz.prog ops Q (o :: rest) a W :=
  Kd.event_run hgd (by
    unfold execOp
    simp only [ho, hx]
    simp [Instr.box, newVar, newRow, one_cells h1, Sem.run_bind]) (h W.heap.size _ (hl.add ty #[v]) (below_alloc (Below.refl _ _) _))
theorem um_make {ops : Array Oper} {rest : List Oper} {o : Oper} {a : Act} {Q : Exit → Act → World → Prop} (hgd : o.guard = none) (ho : o.op = .makeMap 93 none) {W : World} (h : UMap (W.alloc (.map #[] 0)) W.heap.size 0 (fun _ => false) → wpList Tryz.prog ops Q rest (a.put o.dst (.map (some W.heap.size))) (W.alloc (.map #[] 0))) : wpList Tryz.prog ops Q (o :: rest) a W :=
  Kd.event_run hgd (by
    unfold execOp
    simp only [ho]
    simp [run_makeMap, Sem.run_bind]) (h (UMap.made W))
theorem wrap_h {i n : Nat} (h : i < n) (hn : n ≤ 9223372036854775807) : wrap64 ((i : Int) + 1) = ((i + 1 : Nat) : Int) := by unfold wrap64; omega
theorem meas_h {j n : Nat} {m : Int} (h : j < n) (e : m = ((j + 1 : Nat) : Int)) : ((n : Int) - intOf (.int .i64 m)).toNat < ((n : Int) - intOf (.int .i64 (j : Int))).toNat := by
  subst e
  show ((n : Int) - ((j + 1 : Nat) : Int)).toNat < ((n : Int) - (j : Int)).toNat
  omega
theorem callFunc_h {f : Nat} {fn : Func} (hf : Tryz.prog.funcs[f]? = some fn) (hname : (fn.name == "runtime.NumGoroutine") = false) (hb : fn.body.isSome = true) (vs : Array Value) (w : World) : Sem.run Tryz.prog (callFunc f vs) w = .ok (.enter f vs) w := enters_ hf hname hb vs w
set_option maxHeartbeats 1600000 in
set_option maxRecDepth 100000 in
theorem hp_mark (w0 : World) (s : HS) (k : Nat) (A : Option Addr) (c : Nat) (roots : List Int) (res : Option (List Int)) (W : World) (h : HeapAt w0 s W) (hfo : FieldsOK s.l) (hnl : s.last < 4611686018427387904) (hC : (Kd.int .i64).C W A roots.length roots) (hrk : ∀ y ∈ roots, I64 y) (hrl : roots.length < 17592186044416) (hm : markM k s roots = some res) :
    Calls Tryz.prog 51 #[.pointer (some ⟨s.hb, 0, none⟩), .slice A roots.length c] W fun e w' => Below W.heap.size W w' ∧ MarkPost W res e w' := by
  have hmf : ∀ (fn : Fn) (first cap : Array Value) (w : World), (Instr.makeFunc fn first cap).run Tryz.prog w = .ok (.func fn first cap) w := fun _ _ _ _ => rfl
  have hcf := callFunc_h Tryz.func68 (by kernel_rfl) (by kernel_rfl)
  have H := Aside0.mk h
  have HFO := Aside0.mk hfo
  have HNL := Aside0.mk hnl
  have HC := Aside0.mk hC
  have HRK := Aside0.mk hrk
  have HRL := Aside0.mk hrl
  have HMK := Aside0.mk hm
  clear h hfo hnl hC hrk hrl hm
  go_enter Tryz.func51, Tryz.ntmps51
  go_wp2_with (first | ((with_reducible refine gate_dst (N := 2) rfl ?_); refine rw_boxH rfl 27 rfl (v := .pointer (some ⟨s.hb, 0, none⟩)) rfl rfl (Rws.nil W) ?_; intro b2 w_ hX hb9; clear hb9; have HX := Aside0.mk hX; clear hX) | ((with_reducible refine gate_dst (N := 14) rfl ?_); refine um_make rfl rfl ?_; intro hM; have hb9 := below_alloc (Below.refl w_.heap.size w_) (.map #[] 0); have HBB := Aside0.mk HX.out.below.size; replace HX := Aside0.mk (HX.out.step hb9); have HM := Aside0.mk hM; clear hM hb9; obtain ⟨B, hB⟩ : ∃ B, B = w_.heap.size := ⟨_, rfl⟩; rw [← hB] at HM HBB ⊢; clear hB; generalize w_.alloc (.map #[] 0) = w5 at HX HM ⊢) | ((with_reducible refine gate_dst (N := 6) rfl ?_); refine rw_alloc1 rfl 93 rfl (z := .map none) (by kernel_rfl) rfl HX.out ?_; intro b6 w6 hg9 hX hb9; clear hg9; replace HM := Aside0.mk (HM.out.block (hb9.block _ HM.out.lt)); clear hb9; replace HX := Aside0.mk hX; clear hX) | ((with_reducible refine gate_store (t := 93) (p := 6) rfl ?_); refine rw_cell rfl 93 rfl (i := 0) rfl (u := .map (some B)) rfl rfl [] HX.out (by show (0 : Nat) < 1; decide) (by kernel_rfl) ?_; intro w7 hX hk9; replace HM := Aside0.mk (HM.out.block (hk9.2 _ HM.out.lt (HM.out.ne (HX.out.mem List.mem_cons_self)))); clear hk9; replace HX : Aside0 (Rws W [(b6, 93, #[.map (some B)]), (b2, 27, #[.pointer (some ⟨s.hb, 0, none⟩)])] w7) := ⟨hX⟩; clear hX) | ((with_reducible refine gate_dst (N := 7) rfl ?_); refine rw_alloc1 rfl 42 rfl (z := .slice none 0 0) (by kernel_rfl) rfl HX.out ?_; intro b7 w8 hg9 hX hb9; clear hg9; replace HM := Aside0.mk (HM.out.block (hb9.block _ HM.out.lt)); clear hb9; replace HX := Aside0.mk hX; clear hX))
  have M0 : Aside0 (MarkIn w0 W s b2 b6 b7 B [] [] (.slice none 0 0) _) := ⟨⟨HX.out, by have := HM.out; rwa [show memH [] = fun _ => false from by funext y; rfl], HBB.out, Kd.R_nil _ _ _ _ _⟩⟩
  go_loopw [18] (fun v18 wr => ∃ (j : Nat) (met op : List Int) (v : Value), v18 = .int .i64 (j : Int) ∧ j ≤ roots.length ∧ Aside0 (MarkIn w0 W s b2 b6 b7 B met op v wr) ∧ Aside0 (met.length ≤ j ∧ op.length ≤ j) ∧ Aside0 ((match rootsM s (roots.drop j) (met, op) with | none => some none | some st => (markGo s k st).map some) = some res)) (fun v18 _ => ((roots.length : Int) - intOf v18).toNat)
  case atStart => exact ⟨0, [], [], _, rfl, Nat.zero_le _, M0, ⟨Nat.le_refl _, Nat.le_refl _⟩, HMK⟩
  case round =>
    rename_i wr
    clear HX HM M0 HMK
    obtain ⟨j, met, op, v, rfl, hj, M, HLS, HMK⟩ := hrel
    by_cases c1 : j < roots.length
    · obtain ⟨x, hx⟩ : ∃ x, x = rd roots (j : Int) := ⟨_, rfl⟩
      obtain ⟨ad, e1, hxa⟩ := Kd.at_int (Kd.C_below HC.out M.out.below) (j : Int) (by omega) (by omega)
      cases e1
      rw [← hx, Int.toNat_natCast] at hxa
      have hdr : roots.drop j = x :: roots.drop (j + 1) := by rw [List.drop_eq_getElem_cons c1, hx]; unfold rd; rw [Int.toNat_natCast, List.getD_eq_getElem?_getD, List.getElem?_eq_getElem c1]; rfl
      have HK := Aside0.mk (HRK.out x (by have := List.getElem_mem c1; rw [hx]; unfold rd; rw [Int.toNat_natCast, List.getD_eq_getElem?_getD, List.getElem?_eq_getElem c1]; exact this))
      have hmk := HMK.out
      rw [hdr] at hmk
      simp only [rootsM] at hmk
      have HW := Aside0.mk (wrap_h c1 (by have := HRL.out; omega))
      have c1b : decide ((j : Int) < (roots.length : Int)) = true := decide_eq_true (by omega)
      have c1c : decide (j < roots.length) = true := decide_eq_true c1
      have p5 : (0 ≤ (j : Int)) = True := eq_true (by omega)
      have p6 : ((j : Int) < (roots.length : Int)) = True := eq_true (by omega)
      have HJ := Aside0.mk c1
      have HLA : Aside0 (op.length < 17592186044416 ∧ met.length < 17592186044416) := ⟨by have h1 := HLS.out.1; have h2 := HLS.out.2; have h3 := HRL.out; constructor <;> omega⟩
      obtain ⟨ob, rb, hh⟩ := H.out
      have HH := Aside0.mk (hh.step M.out.below)
      obtain ⟨k7, k6, k2⟩ := M.out.cells
      have f4 := blk_cell HH.out.hd 4
      simp only [HS.cell, List.getElem?_toArray, List.getElem?_cons_zero, List.getElem?_cons_succ] at f4
      clear hx hdr c1 hh HMK
      by_cases hbad : x ≠ 0 ∧ s.m x = none
      · rw [if_pos hbad] at hmk
        have HRN := Aside0.mk (Option.some.inj hmk).symm
        have c0b : (x == 0) = false := by rw [beq_eq_false_iff_ne]; exact hbad.1
        have c0c : (x != 0) = true := by rw [bne_iff_ne]; exact hbad.1
        have HSM := Aside0.mk hbad.2
        clear hbad hmk
        go_wp2_with (first | ((with_reducible refine gate_dst (N := 30) rfl ?_); refine gate_guard (by rfl) ?_; dsimp only; refine pm_look rfl rfl rfl HH.out.mp rfl HK.out ?_; rw [HSM.out]; simp only [Option.map_none, Option.map_some]))
        go_ret2
        exact ⟨M.out.below, .inl ⟨HRN.out, rfl⟩⟩
      · rw [if_neg hbad] at hmk
        have HMK := Aside0.mk hmk
        clear hmk
        by_cases c0 : x = 0
        · clear hbad
          subst c0
          go_wp2_with fail
          refine (hp_meet w0 W s b2 b6 b7 B met op v 0 HK.out HLA.out.1 HLA.out.2 H.out wr M.out).mono ?_
          rintro e w9 ⟨rfl, _, v9, hm9⟩
          have M9 := Aside0.mk hm9
          have HL9 := Aside0.mk (meetM_len s (met, op) 0)
          clear hm9 M k7 k6 k2 f4 hxa
          go_wp2
          go_roundw
          case rel => exact ⟨j + 1, _, _, v9, by have e9 := HW.out; first | (rw [e9]; done) | (simp; done), HJ.out, M9, ⟨Nat.le_trans HL9.out.1 (Nat.succ_le_succ HLS.out.1), Nat.le_trans HL9.out.2 (Nat.succ_le_succ HLS.out.2)⟩, HMK⟩
          case measure => exact meas_h HJ.out HW.out
        · obtain ⟨o, hso⟩ : ∃ o, s.m x = some o := by
            cases hmm : s.m x with
            | none => exact absurd ⟨c0, hmm⟩ hbad
            | some o => exact ⟨o, rfl⟩
          have HSM := Aside0.mk hso
          have c0b : (x == 0) = false := by rw [beq_eq_false_iff_ne]; exact c0
          have c0c : (x != 0) = true := by rw [bne_iff_ne]; exact c0
          clear hbad c0 hso
          go_wp2_with (first | ((with_reducible refine gate_dst (N := 30) rfl ?_); refine gate_guard (by rfl) ?_; dsimp only; refine pm_look rfl rfl rfl HH.out.mp rfl HK.out ?_; rw [HSM.out]; simp only [Option.map_none, Option.map_some]))
          refine (hp_meet w0 W s b2 b6 b7 B met op v x HK.out HLA.out.1 HLA.out.2 H.out wr M.out).mono ?_
          rintro e w9 ⟨rfl, _, v9, hm9⟩
          have M9 := Aside0.mk hm9
          have HL9 := Aside0.mk (meetM_len s (met, op) x)
          clear hm9 M k7 k6 k2 f4 hxa
          go_wp2
          go_roundw
          case rel => exact ⟨j + 1, _, _, v9, by have e9 := HW.out; first | (rw [e9]; done) | (simp; done), HJ.out, M9, ⟨Nat.le_trans HL9.out.1 (Nat.succ_le_succ HLS.out.1), Nat.le_trans HL9.out.2 (Nat.succ_le_succ HLS.out.2)⟩, HMK⟩
          case measure => exact meas_h HJ.out HW.out
    · have c1b : decide ((j : Int) < (roots.length : Int)) = false := decide_eq_false (by omega)
      have c1c : decide (j < roots.length) = false := decide_eq_false c1
      have hmk := HMK.out
      rw [List.drop_eq_nil_of_le (by omega)] at hmk
      simp only [rootsM] at hmk
      obtain ⟨rr, hr1, hr2⟩ := Option.map_eq_some_iff.1 hmk
      have HGO := Aside0.mk hr1
      have HRES := Aside0.mk hr2
      clear hmk hr1 hr2 c1 HMK hj
      go_wp2_with fail
      go_loopg [39] k (fun kq v39 wr => ∃ (met op : List Int) (v : Value), Aside0 (MarkIn w0 W s b2 b6 b7 B met op v wr) ∧ Aside0 (markGo s kq (met, op) = some rr))
      case atStart => exact ⟨met, op, v, M, HGO⟩
      case round =>
        clear M HGO HLS
        obtain ⟨met, op, v, M, HGO⟩ := hrel
        cases gk with
        | zero => exact absurd HGO.out (by simp [markGo])
        | succ gk =>
        obtain ⟨A7, c7, e7⟩ := Kd.R_slice M.out.open_
        subst e7
        obtain ⟨k7, k6, k2⟩ := M.out.cells
        rcases List.eq_nil_or_concat op with hop | ⟨q, x, hop⟩
        · subst hop
          have hgo := HGO.out
          unfold markGo at hgo
          rw [if_pos (by rfl)] at hgo
          have HRR := Aside0.mk (Option.some.inj hgo)
          clear hgo HGO
          go_wp2_with fail
          go_ret2
          exact ⟨M.out.below, Or.inr ⟨met, B, by rw [← HRES.out, ← HRR.out], rfl, M.out.base, M.out.set⟩⟩
        · rw [List.concat_eq_append] at hop
          subst hop
          have hgo := HGO.out
          unfold markGo at hgo
          rw [if_neg (by simp)] at hgo
          have hlast : (q ++ [x]).getD ((q ++ [x]).length - 1) 0 = x := by simp
          simp only [hlast, List.dropLast_concat] at hgo
          cases hso : s.m x with
          | none => rw [hso] at hgo; cases hgo
          | some o =>
          rw [hso] at hgo
          simp only at hgo
          by_cases hft : (fitM met.length && fitM (q ++ [x]).length) = true
          case neg => rw [if_neg hft] at hgo; cases hgo
          rw [if_pos hft, ] at hgo
          obtain ⟨m, hm⟩ : ∃ m, m = q.length := ⟨_, rfl⟩
          have hlen1 : (q ++ [x]).length = m + 1 := by rw [hm]; simp
          obtain ⟨g7, c7', e7', _, _, _⟩ := Kd.R_form M.out.open_ (by simp)
          rw [hlen1] at e7'
          injection e7' with e8 _ e9
          subst e8 e9
          have HSO := Aside0.mk hso
          have HM := Aside0.mk hm
          have HLEN1 := Aside0.mk hlen1
          have HGO := Aside0.mk hgo
          rw [Bool.and_eq_true] at hft
          have HFT : Aside0 (met.length < 8796093022208 ∧ m < 8796093022208) := ⟨fitM_is hft.1, by have := fitM_is hft.2; rw [hlen1] at this; omega⟩
          obtain ⟨ob, rb, hh⟩ := H.out
          have HHW := Aside0.mk hh
          have HH := Aside0.mk (hh.step M.out.below)
          have HK := Aside0.mk (show I64 x by have h7 := HH.out.dom x o hso; have h71 := h7.1; have h72 := h7.2.1; have h8 := HNL.out; constructor <;> omega)
          have hwm : IntKind.i64.wrap (((m + 1 : Nat) : Int) - 1) = (m : Int) := by rw [IntKind.wrap_i64]; have := HFT.out.2; omega
          have hwm2 : IntKind.i64.wrap (m : Int) = (m : Int) := by rw [IntKind.wrap_i64]; have := HFT.out.2; omega
          have p7 : ((m : Int) < (m : Int) + 1) = True := eq_true (by omega)
          have p5 : (0 ≤ (m : Int)) = True := eq_true (by omega)
          have p6 : ((m : Int) < ((m + 1 : Nat) : Int)) = True := eq_true (by omega)
          rw [hlen1] at k7
          have t1 : decide (((m + 1 : Nat) : Int) > 0) = true := decide_eq_true (by omega)
          have t2 : decide ((0 : Int) < ((m + 1 : Nat) : Int)) = true := decide_eq_true (by omega)
          have t3 : decide (0 < m + 1) = true := decide_eq_true (by omega)
          clear hlast hso hgo hm hft hlen1 hh
          go_wp2_with fail
          (try simp only [Act.put, List.setIfInBounds_toArray, List.set_cons_zero, List.set_cons_succ])
          refine wp_region_held_drew (S := fun w' => MarkIn w0 W s b2 b6 b7 B met (q ++ [x]) (.slice (some ⟨g7, 0, none⟩) (q ++ [x]).length c7) w' ∧ HeapIn w0 s ob rb w') (by kernel_rfl) ?_ (fun hHeld => ?_)
          · exact ⟨M.out.step (pw_below_drewN (Below.refl _ _) 1), HH.out.step (pw_below_drewN (Below.refl _ _) 1)⟩
          clear k7 k6 k2 M HH t1 t2 t3
          refine take_dst (i := 0) (v := ?_) 40 rfl rfl (by kernel_rfl) (by kernel_rfl) (by kernel_rfl) (fun _ _ _ h => h) (Or.inl ⟨by rfl, ?_⟩) (by assumption) ?_
          rotate_left
          · intro w hSw
            obtain ⟨k7, k6, k2⟩ := hSw.1.cells
            rw [HLEN1.out] at k7
            have f4 := blk_cell hSw.2.hd 4
            simp only [HS.cell, List.getElem?_toArray, List.getElem?_cons_zero, List.getElem?_cons_succ] at f4
            go_simp
            try with_reducible rfl
          (try simp only [Act.put, List.setIfInBounds_toArray, List.set_cons_zero, List.set_cons_succ])
          refine take_dst (i := 1) (v := ?_) 41 rfl rfl (by kernel_rfl) (by kernel_rfl) (by kernel_rfl) (fun _ _ _ h => h) (Or.inl ⟨by rfl, ?_⟩) (by assumption) ?_
          rotate_left
          · intro w hSw
            obtain ⟨k7, k6, k2⟩ := hSw.1.cells
            rw [HLEN1.out] at k7
            have f4 := blk_cell hSw.2.hd 4
            simp only [HS.cell, List.getElem?_toArray, List.getElem?_cons_zero, List.getElem?_cons_succ] at f4
            go_simp
            try with_reducible rfl
          (try simp only [Act.put, List.setIfInBounds_toArray, List.set_cons_zero, List.set_cons_succ])
          refine take_dst (i := 2) (v := ?_) 42 rfl rfl (by kernel_rfl) (by kernel_rfl) (by kernel_rfl) (fun _ _ _ h => h) (Or.inl ⟨by rfl, ?_⟩) (by assumption) ?_
          rotate_left
          · intro w hSw
            obtain ⟨k7, k6, k2⟩ := hSw.1.cells
            rw [HLEN1.out] at k7
            have f4 := blk_cell hSw.2.hd 4
            simp only [HS.cell, List.getElem?_toArray, List.getElem?_cons_zero, List.getElem?_cons_succ] at f4
            go_simp
            try with_reducible rfl
          (try simp only [Act.put, List.setIfInBounds_toArray, List.set_cons_zero, List.set_cons_succ])
          refine take_dst (i := 3) (v := ?_) 43 rfl rfl (by kernel_rfl) (by kernel_rfl) (by kernel_rfl) (fun _ _ _ h => h) (Or.inl ⟨by rfl, ?_⟩) (by assumption) ?_
          rotate_left
          · intro w hSw
            obtain ⟨k7, k6, k2⟩ := hSw.1.cells
            rw [HLEN1.out] at k7
            have f4 := blk_cell hSw.2.hd 4
            simp only [HS.cell, List.getElem?_toArray, List.getElem?_cons_zero, List.getElem?_cons_succ] at f4
            go_simp
            try with_reducible rfl
          (try simp only [Act.put, List.setIfInBounds_toArray, List.set_cons_zero, List.set_cons_succ])
          refine take_dst (i := 4) (v := ?_) 44 rfl rfl (by kernel_rfl) (by kernel_rfl) (by kernel_rfl) (fun _ _ _ h => h) (Or.inl ⟨by rfl, ?_⟩) (by assumption) ?_
          rotate_left
          · intro w hSw
            obtain ⟨k7, k6, k2⟩ := hSw.1.cells
            rw [HLEN1.out] at k7
            have f4 := blk_cell hSw.2.hd 4
            simp only [HS.cell, List.getElem?_toArray, List.getElem?_cons_zero, List.getElem?_cons_succ] at f4
            go_simp
            try with_reducible rfl
          (try simp only [Act.put, List.setIfInBounds_toArray, List.set_cons_zero, List.set_cons_succ])
          refine take_dst (i := 5) (v := ?_) 45 rfl rfl (by kernel_rfl) (by kernel_rfl) (by kernel_rfl) (fun _ _ _ h => h) (Or.inl ⟨by rfl, ?_⟩) (by assumption) ?_
          rotate_left
          · intro w hSw
            obtain ⟨k7, k6, k2⟩ := hSw.1.cells
            rw [HLEN1.out] at k7
            have f4 := blk_cell hSw.2.hd 4
            simp only [HS.cell, List.getElem?_toArray, List.getElem?_cons_zero, List.getElem?_cons_succ] at f4
            go_simp
            try with_reducible rfl
          (try simp only [Act.put, List.setIfInBounds_toArray, List.set_cons_zero, List.set_cons_succ])
          refine take_dst (i := 6) (v := ?_) 46 rfl rfl (by kernel_rfl) (by kernel_rfl) (by kernel_rfl) (fun _ _ _ h => h) (Or.inl ⟨by rfl, ?_⟩) (by assumption) ?_
          rotate_left
          · intro w hSw
            obtain ⟨k7, k6, k2⟩ := hSw.1.cells
            rw [HLEN1.out] at k7
            have f4 := blk_cell hSw.2.hd 4
            simp only [HS.cell, List.getElem?_toArray, List.getElem?_cons_zero, List.getElem?_cons_succ] at f4
            go_simp
            try with_reducible rfl
          (try simp only [Act.put, List.setIfInBounds_toArray, List.set_cons_zero, List.set_cons_succ])
          refine take_dst (i := 7) (v := ?_) 47 rfl rfl (by kernel_rfl) (by kernel_rfl) (by kernel_rfl) (fun _ _ _ h => h) (Or.inl ⟨by rfl, ?_⟩) (by assumption) ?_
          rotate_left
          · intro w hSw
            obtain ⟨k7, k6, k2⟩ := hSw.1.cells
            rw [HLEN1.out] at k7
            have f4 := blk_cell hSw.2.hd 4
            simp only [HS.cell, List.getElem?_toArray, List.getElem?_cons_zero, List.getElem?_cons_succ] at f4
            go_simp
            try with_reducible rfl
          (try simp only [Act.put, List.setIfInBounds_toArray, List.set_cons_zero, List.set_cons_succ])
          refine take_dst (i := 8) (v := ?_) 48 rfl rfl (by kernel_rfl) (by kernel_rfl) (by kernel_rfl) (fun _ _ _ h => h) (Or.inl ⟨by rfl, ?_⟩) (by assumption) ?_
          rotate_left
          · intro w hSw
            obtain ⟨k7, k6, k2⟩ := hSw.1.cells
            rw [HLEN1.out] at k7
            have f4 := blk_cell hSw.2.hd 4
            simp only [HS.cell, List.getElem?_toArray, List.getElem?_cons_zero, List.getElem?_cons_succ] at f4
            go_simp
            try with_reducible rfl
          (try simp only [Act.put, List.setIfInBounds_toArray, List.set_cons_zero, List.set_cons_succ])
          refine take_dst (i := 9) (v := ?_) 49 rfl rfl (by kernel_rfl) (by kernel_rfl) (by kernel_rfl) (fun _ _ _ h => h) (Or.inl ⟨by rfl, ?_⟩) (by assumption) ?_
          rotate_left
          · intro w hSw
            obtain ⟨k7, k6, k2⟩ := hSw.1.cells
            rw [HLEN1.out] at k7
            have f4 := blk_cell hSw.2.hd 4
            simp only [HS.cell, List.getElem?_toArray, List.getElem?_cons_zero, List.getElem?_cons_succ] at f4
            have hcell := hSw.1.last_cell HM.out
            go_simp
            try with_reducible rfl
          (try simp only [Act.put, List.setIfInBounds_toArray, List.set_cons_zero, List.set_cons_succ])
          refine take_dst (i := 10) (v := ?_) 50 rfl rfl (by kernel_rfl) (by kernel_rfl) (by kernel_rfl) (fun _ _ _ h => h) (Or.inl ⟨by rfl, ?_⟩) (by assumption) ?_
          rotate_left
          · intro w hSw
            obtain ⟨k7, k6, k2⟩ := hSw.1.cells
            rw [HLEN1.out] at k7
            have f4 := blk_cell hSw.2.hd 4
            simp only [HS.cell, List.getElem?_toArray, List.getElem?_cons_zero, List.getElem?_cons_succ] at f4
            have hlk := pm_run hSw.2.mp HK.out
            rw [HSO.out] at hlk
            simp only [Option.map_some] at hlk
            go_simp
            try with_reducible rfl
          (try simp only [Act.put, List.setIfInBounds_toArray, List.set_cons_zero, List.set_cons_succ])
          refine take_dst (i := 11) (v := ?_) 11 rfl rfl (by kernel_rfl) (by kernel_rfl) (by kernel_rfl) (fun _ _ _ h => h) (Or.inl ⟨by rfl, ?_⟩) (by assumption) ?_
          rotate_left
          · intro w hSw
            obtain ⟨k7, k6, k2⟩ := hSw.1.cells
            rw [HLEN1.out] at k7
            have f4 := blk_cell hSw.2.hd 4
            simp only [HS.cell, List.getElem?_toArray, List.getElem?_cons_zero, List.getElem?_cons_succ] at f4
            go_simp
            try with_reducible rfl
          (try simp only [Act.put, List.setIfInBounds_toArray, List.set_cons_zero, List.set_cons_succ])
          have M := Aside0.mk hHeld.1
          have HH := Aside0.mk hHeld.2
          refine wpAnyH_done (by kernel_rfl) ?_ _
          clear hHeld
          generalize wr.drew = wr3 at M HH ⊢
          obtain ⟨k7, k6, k2⟩ := M.out.cells
          rw [HLEN1.out] at k7
          have g0 := blk_cell (HH.out.obj x o HSO.out).1 0
          simp only [List.getElem?_toArray, List.getElem?_cons_zero, List.getElem?_cons_succ] at g0
          have hcap := (Kd.R_reads' M.out.open_).2.1
          rw [HLEN1.out] at hcap
          have hmx : m + 1 ≤ 9223372036854775807 := by have := HFT.out.2; omega
          by_cases cn : o.1 < 0
          · have d1 : decide (o.1 < 0) = true := decide_eq_true cn
            have hgo := HGO.out
            rw [if_pos cn] at hgo
            have HG2 := Aside0.mk hgo
            clear cn hgo HGO
            go_wp2_with (first | ((with_reducible refine gate_store (t := 42) (p := 7) rfl ?_); refine mk_put rfl rfl (v := .slice (some ⟨g7, 0, none⟩) m c7) (M.out.pop HM.out) rfl rfl ?_; intro w6 ho hkt; clear hkt; replace HH := Aside0.mk (HHW.out.step ho.below); replace M := Aside0.mk ho; clear ho k7 k6 k2 g0; have g0 := blk_cell (HH.out.obj x o HSO.out).1 0; simp only [List.getElem?_toArray, List.getElem?_cons_zero, List.getElem?_cons_succ] at g0))
            go_roundg gk
            case measure => omega
            case rel => exact ⟨met, q, _, M, HG2⟩
          · have d1 : decide (o.1 < 0) = false := decide_eq_false cn
            have hgo := HGO.out
            rw [if_neg cn] at hgo
            have HG2 := Aside0.mk hgo
            have HCN := Aside0.mk cn
            clear cn hgo HGO
            go_wp2_with (first | ((with_reducible refine gate_store (t := 42) (p := 7) rfl ?_); refine mk_put rfl rfl (v := .slice (some ⟨g7, 0, none⟩) m c7) (M.out.pop HM.out) rfl rfl ?_; intro w6 ho hkt; clear hkt; replace HH := Aside0.mk (HHW.out.step ho.below); replace M := Aside0.mk ho; clear ho k7 k6 k2 g0; have g0 := blk_cell (HH.out.obj x o HSO.out).1 0; simp only [List.getElem?_toArray, List.getElem?_cons_zero, List.getElem?_cons_succ] at g0))
            obtain ⟨Ac, cc, hvc⟩ := Kd.R_slice HH.out.cls
            have HVC := Aside0.mk hvc
            have HREC := Aside0.mk ((HH.out.dom x o HSO.out).2.2.2.1 (by have := HCN.out; omega))
            have HNUMS := Aside0.mk ((HH.out.dom x o HSO.out).2.2.2.2)
            obtain ⟨fl, hfl⟩ : ∃ fl, fl = fieldsL s.l o.1 := ⟨_, rfl⟩
            have HFL := Aside0.mk (show types_Fields.f s.l o.1 = some fl by rw [hfl]; exact HFO.out o.1 (by have := HCN.out; omega) HREC.out.1)
            rw [← hfl] at HG2 HREC
            clear hvc d1 hfl g0
            (try simp only [Act.put, List.setIfInBounds_toArray, List.set_cons_zero, List.set_cons_succ])
            refine wp_region_held_drew (S := fun w' => MarkIn w0 W s b2 b6 b7 B met q (.slice (some ⟨g7, 0, none⟩) m c7) w' ∧ HeapIn w0 s ob rb w') (by kernel_rfl) ?_ (fun hHeld => ?_)
            · exact ⟨M.out.step (pw_below_drewN (Below.refl _ _) 1), HH.out.step (pw_below_drewN (Below.refl _ _) 1)⟩
            clear M HH
            refine take_dst (i := 0) (v := ?_) 61 rfl rfl (by kernel_rfl) (by kernel_rfl) (by kernel_rfl) (fun _ _ _ h => h) (Or.inl ⟨by rfl, ?_⟩) (by assumption) ?_
            rotate_left
            · intro w hSw
              obtain ⟨k7, k6, k2⟩ := hSw.1.cells
              have f0 := blk_cell hSw.2.hd 0
              have g0 := blk_cell (hSw.2.obj x o HSO.out).1 0
              simp only [HS.cell, List.getElem?_toArray, List.getElem?_cons_zero, List.getElem?_cons_succ, HVC.out] at f0 g0
              go_simp
              try with_reducible rfl
            (try simp only [Act.put, List.setIfInBounds_toArray, List.set_cons_zero, List.set_cons_succ])
            refine take_dst (i := 1) (v := ?_) 62 rfl rfl (by kernel_rfl) (by kernel_rfl) (by kernel_rfl) (fun _ _ _ h => h) (Or.inl ⟨by rfl, ?_⟩) (by assumption) ?_
            rotate_left
            · intro w hSw
              obtain ⟨k7, k6, k2⟩ := hSw.1.cells
              have f0 := blk_cell hSw.2.hd 0
              have g0 := blk_cell (hSw.2.obj x o HSO.out).1 0
              simp only [HS.cell, List.getElem?_toArray, List.getElem?_cons_zero, List.getElem?_cons_succ, HVC.out] at f0 g0
              go_simp
              try with_reducible rfl
            (try simp only [Act.put, List.setIfInBounds_toArray, List.set_cons_zero, List.set_cons_succ])
            refine take_dst (i := 2) (v := ?_) 63 rfl rfl (by kernel_rfl) (by kernel_rfl) (by kernel_rfl) (fun _ _ _ h => h) (Or.inl ⟨by rfl, ?_⟩) (by assumption) ?_
            rotate_left
            · intro w hSw
              obtain ⟨k7, k6, k2⟩ := hSw.1.cells
              have f0 := blk_cell hSw.2.hd 0
              have g0 := blk_cell (hSw.2.obj x o HSO.out).1 0
              simp only [HS.cell, List.getElem?_toArray, List.getElem?_cons_zero, List.getElem?_cons_succ, HVC.out] at f0 g0
              go_simp
              try with_reducible rfl
            (try simp only [Act.put, List.setIfInBounds_toArray, List.set_cons_zero, List.set_cons_succ])
            refine take_dst (i := 3) (v := ?_) 64 rfl rfl (by kernel_rfl) (by kernel_rfl) (by kernel_rfl) (fun _ _ _ h => h) (Or.inl ⟨by rfl, ?_⟩) (by assumption) ?_
            rotate_left
            · intro w hSw
              obtain ⟨k7, k6, k2⟩ := hSw.1.cells
              have f0 := blk_cell hSw.2.hd 0
              have g0 := blk_cell (hSw.2.obj x o HSO.out).1 0
              simp only [HS.cell, List.getElem?_toArray, List.getElem?_cons_zero, List.getElem?_cons_succ, HVC.out] at f0 g0
              go_simp
              try with_reducible rfl
            (try simp only [Act.put, List.setIfInBounds_toArray, List.set_cons_zero, List.set_cons_succ])
            refine take_dst (i := 4) (v := ?_) 65 rfl rfl (by kernel_rfl) (by kernel_rfl) (by kernel_rfl) (fun _ _ _ h => h) (Or.inl ⟨by rfl, ?_⟩) (by assumption) ?_
            rotate_left
            · intro w hSw
              obtain ⟨k7, k6, k2⟩ := hSw.1.cells
              have f0 := blk_cell hSw.2.hd 0
              have g0 := blk_cell (hSw.2.obj x o HSO.out).1 0
              simp only [HS.cell, List.getElem?_toArray, List.getElem?_cons_zero, List.getElem?_cons_succ, HVC.out] at f0 g0
              go_simp
              try with_reducible rfl
            (try simp only [Act.put, List.setIfInBounds_toArray, List.set_cons_zero, List.set_cons_succ])
            refine take_dst (i := 5) (v := ?_) 66 rfl rfl (by kernel_rfl) (by kernel_rfl) (by kernel_rfl) (fun _ _ _ h => h) (Or.inl ⟨by rfl, ?_⟩) (by assumption) ?_
            rotate_left
            · intro w hSw
              obtain ⟨k7, k6, k2⟩ := hSw.1.cells
              have f0 := blk_cell hSw.2.hd 0
              have g0 := blk_cell (hSw.2.obj x o HSO.out).1 0
              simp only [HS.cell, List.getElem?_toArray, List.getElem?_cons_zero, List.getElem?_cons_succ, HVC.out] at f0 g0
              go_simp
              try with_reducible rfl
            (try simp only [Act.put, List.setIfInBounds_toArray, List.set_cons_zero, List.set_cons_succ])
            refine take_dst (i := 6) (v := ?_) 67 rfl rfl (by kernel_rfl) (by kernel_rfl) (by kernel_rfl) (fun _ _ _ h => h) (Or.inl ⟨by rfl, ?_⟩) (by assumption) ?_
            rotate_left
            · intro w hSw
              obtain ⟨k7, k6, k2⟩ := hSw.1.cells
              have f0 := blk_cell hSw.2.hd 0
              have g0 := blk_cell (hSw.2.obj x o HSO.out).1 0
              simp only [HS.cell, List.getElem?_toArray, List.getElem?_cons_zero, List.getElem?_cons_succ, HVC.out] at f0 g0
              go_simp
              try with_reducible rfl
            (try simp only [Act.put, List.setIfInBounds_toArray, List.set_cons_zero, List.set_cons_succ])
            refine take_dst (i := 7) (v := ?_) 68 rfl rfl (by kernel_rfl) (by kernel_rfl) (by kernel_rfl) (fun _ _ _ h => h) (Or.inl ⟨by rfl, ?_⟩) (by assumption) ?_
            rotate_left
            · intro w hSw
              obtain ⟨k7, k6, k2⟩ := hSw.1.cells
              have f0 := blk_cell hSw.2.hd 0
              have g0 := blk_cell (hSw.2.obj x o HSO.out).1 0
              simp only [HS.cell, List.getElem?_toArray, List.getElem?_cons_zero, List.getElem?_cons_succ, HVC.out] at f0 g0
              go_simp
              try with_reducible rfl
            (try simp only [Act.put, List.setIfInBounds_toArray, List.set_cons_zero, List.set_cons_succ])
            refine take_dst (i := 10) (v := ?_) 71 rfl rfl (by kernel_rfl) (by kernel_rfl) (by kernel_rfl) (fun _ _ _ h => h) (Or.inl ⟨by rfl, ?_⟩) (by assumption) ?_
            rotate_left
            · intro w hSw
              obtain ⟨k7, k6, k2⟩ := hSw.1.cells
              have f0 := blk_cell hSw.2.hd 0
              have g0 := blk_cell (hSw.2.obj x o HSO.out).1 0
              simp only [HS.cell, List.getElem?_toArray, List.getElem?_cons_zero, List.getElem?_cons_succ, HVC.out] at f0 g0
              go_simp
              try with_reducible rfl
            (try simp only [Act.put, List.setIfInBounds_toArray, List.set_cons_zero, List.set_cons_succ])
            generalize w6.drew = w6d at hHeld ⊢
            have HCC := Aside0.mk (show s.l.length ≤ cc ∧ Kd.C k38 w6d Ac s.l.length s.l by
              have := hHeld.2.cls
              rw [HVC.out] at this
              exact (Kd.R_reads' this).2)
            refine wpAnyH_ready (rs := [8]) (by kernel_rfl) (by simp) ?_
            refine AllReadyH.cons rfl (fun K hK => ?_) AllReadyH.nil
            go_simp
            refine (types_Fields.calls Ac cc s.l o.1 fl _ HCC.out.2 HCC.out.1 HFL.out).mono ?_
            rintro e w9 ⟨v9, rfl, hf9, hb9⟩
            obtain ⟨A9, c9, e9⟩ := Kd.R_slice hf9
            subst e9
            have h9 := And.intro (hHeld.1.step hb9) (hHeld.2.step hb9)
            have HF := Aside0.mk (Kd.R_lower hf9 hHeld.1.below.size)
            go_simp
            refine hK.out _ _ h9 (fun hHeld => ?_)
            (try simp only [Act.put, List.setIfInBounds_toArray, List.set_cons_zero, List.set_cons_succ])
            clear hK K h9 hf9 hb9 HCC
            refine take_dst (i := 9) (v := ?_) 70 rfl rfl (by kernel_rfl) (by kernel_rfl) (by kernel_rfl) (fun _ _ _ h => h) (Or.inl ⟨by rfl, ?_⟩) (by assumption) ?_
            rotate_left
            · intro w hSw
              obtain ⟨k7, k6, k2⟩ := hSw.1.cells
              have f0 := blk_cell hSw.2.hd 0
              have g0 := blk_cell (hSw.2.obj x o HSO.out).1 0
              simp only [HS.cell, List.getElem?_toArray, List.getElem?_cons_zero, List.getElem?_cons_succ, HVC.out] at f0 g0
              go_simp
              try with_reducible rfl
            (try simp only [Act.put, List.setIfInBounds_toArray, List.set_cons_zero, List.set_cons_succ])
            have M := Aside0.mk hHeld.1
            refine wpAnyH_done (by kernel_rfl) ?_ _
            clear hHeld
            have HRLEN := Aside0.mk (show fl.length < 8796093022208 by have := HREC.out.2; have h4 := (show o.2.length ≤ 4096 from (HHW.out.dom x o HSO.out).2.2.1); omega)
            go_wp2_with fail
            go_loopw [71] (fun v71 wr => ∃ (i : Nat) (met2 op2 : List Int) (v : Value), v71 = .int .i64 (i : Int) ∧ i ≤ fl.length ∧ Aside0 (MarkIn w0 W s b2 b6 b7 B met2 op2 v wr) ∧ Aside0 ((met2, op2) = meetAll s fl o.2 i (met, q)) ∧ Aside0 (Kd.R k41 41 wr W.heap.size (fun _ => True) (.slice A9 fl.length c9) fl)) (fun v71 _ => ((fl.length : Int) - intOf v71).toNat)
            case atStart => exact ⟨0, met, q, _, rfl, Nat.zero_le _, M, ⟨rfl⟩, HF⟩
            case round =>
              clear M HF
              obtain ⟨i, met2, op2, v, rfl, hi, M, HST, HF⟩ := hrel
              by_cases c1 : i < fl.length
              · obtain ⟨y, hy⟩ : ∃ y, y = rd_T41 fl (i : Int) := ⟨_, rfl⟩
                obtain ⟨ad9, e1, h0, h1⟩ := at_T41 (Kd.R_reads' HF.out).2.2 (i : Int) (by omega) (by omega)
                cases e1
                rw [← hy, Int.toNat_natCast] at h0 h1
                have HI := Aside0.mk c1
                have HW := Aside0.mk (wrap_h c1 (by have := HRLEN.out; omega))
                have c1b : decide ((i : Int) < (fl.length : Int)) = true := decide_eq_true (by omega)
                have c1c : decide (i < fl.length) = true := decide_eq_true c1
                have p5 : (0 ≤ (i : Int)) = True := eq_true (by omega)
                have p6 : ((i : Int) < (fl.length : Int)) = True := eq_true (by omega)
                have p8 : ((i : Int) < (o.2.length : Int)) = True := eq_true (by have := HREC.out.2; omega)
                have hml := meetAll_len s fl o.2 i (met, q)
                rw [← HST.out] at hml
                have HLA : Aside0 (op2.length < 17592186044416 ∧ met2.length < 17592186044416) := ⟨by have h1 := hml.1; have h2 := hml.2; have h3 := HFT.out.1; have h4 := HFT.out.2; have h5 := HRLEN.out; have h6 := HM.out; simp only at h1 h2; constructor <;> omega⟩
                have hstep : meetAll s fl o.2 (i + 1) (met, q) = if isRefH y.f1 = true then meetM s (met2, op2) (o.2.getD i 0) else (met2, op2) := by rw [meetAll, ← HST.out, ← hy]
                have HSTEP := Aside0.mk hstep
                have HY := Aside0.mk (show I64 (o.2.getD i 0) by
                  have hlt : i < o.2.length := by have := HREC.out.2; omega
                  have hmem : o.2.getD i 0 ∈ o.2 := by rw [List.getD_eq_getElem?_getD, List.getElem?_eq_getElem hlt]; exact List.getElem_mem hlt
                  have := HNUMS.out _ hmem
                  constructor <;> omega)
                clear hy hml hstep c1
                go_wp2_with fail
                have hb9 := below_alloc (Below.refl wr.heap.size wr) (.cells #[.string y.f0, .int .u8 y.f1] 41)
                replace M := Aside0.mk (M.out.step hb9)
                replace HF := Aside0.mk (Kd.R_below HF.out hb9)
                clear hb9 h0 h1
                refine (types_IsRef.calls y.f1 (isRefH y.f1) _ (isRefH_is _)).mono ?_
                rintro e w12 ⟨rfl, hd12⟩
                replace M := Aside0.mk (M.out.step hd12.below)
                replace HF := Aside0.mk (Kd.R_below HF.out hd12.below)
                have HH := Aside0.mk (HHW.out.step M.out.below)
                have g1 := blk_cell (HH.out.obj x o HSO.out).1 1
                have gn := num_cell (HH.out.obj x o HSO.out).2 (i := i) (by have := HREC.out.2; have := HI.out; omega)
                simp only [List.getElem?_toArray, List.getElem?_cons_zero, List.getElem?_cons_succ] at g1
                clear hd12
                cases hb : isRefH y.f1 with
                | true =>
                  have HS2 := Aside0.mk (show meetAll s fl o.2 (i + 1) (met, q) = meetM s (met2, op2) (o.2.getD i 0) by rw [HSTEP.out, hb, if_pos rfl])
                  clear hb
                  obtain ⟨z, hz⟩ : ∃ z, z = o.2.getD i 0 := ⟨_, rfl⟩
                  rw [← hz] at HS2 HY gn
                  clear hz
                  go_wp2_with fail
                  refine (hp_meet w0 W s b2 b6 b7 B met2 op2 v z HY.out HLA.out.1 HLA.out.2 H.out w12 M.out).mono ?_
                  rintro e w13 ⟨rfl, hkt, v13, hm13⟩
                  have M13 := Aside0.mk hm13
                  have HF13 := Aside0.mk (R_keptT HF.out hkt)
                  clear hm13 hkt M HF HH g1 gn
                  go_wp2
                  go_roundw
                  case rel => exact ⟨i + 1, _, _, v13, by have e9 := HW.out; first | (rw [e9]; done) | (simp; done), HI.out, M13, ⟨HS2.out.symm⟩, HF13⟩
                  case measure => exact meas_h HI.out HW.out
                | false =>
                  have HS2 := Aside0.mk (show meetAll s fl o.2 (i + 1) (met, q) = (met2, op2) by rw [HSTEP.out, hb, if_neg (by decide)])
                  clear hb g1 gn
                  go_wp2_with fail
                  go_roundw
                  case rel => exact ⟨i + 1, met2, op2, v, by have e9 := HW.out; first | (rw [e9]; done) | (simp; done), HI.out, M, ⟨HS2.out.symm⟩, HF⟩
                  case measure => exact meas_h HI.out HW.out
              · have c1b : decide ((i : Int) < (fl.length : Int)) = false := decide_eq_false (by omega)
                have c1c : decide (i < fl.length) = false := decide_eq_false c1
                have HS2 := Aside0.mk (show meetAll s fl o.2 fl.length (met, q) = (met2, op2) by rw [HST.out, show i = fl.length by omega])
                clear c1 hi
                go_wp2_with fail
                go_roundg gk
                case measure => omega
                case rel => exact ⟨met2, op2, v, M, ⟨by have := HG2.out; rw [HS2.out] at this; exact this⟩⟩
section
open Go.Shelf Go.Proofs
def Tryz.keysA_ren : Go.Shelf.Ren := ⟨fun | 7 => 55 | 10 => 74 | n => n, fun | 23 => 52 | 26 => 3 | 3 => 84 | 28 => 98 | 0 => 0 | 27 => 97 | 33 => 69 | 4 => 4 | n => n, fun | n => n⟩
theorem Tryz.keysA : Go.Proofs.SlLaysZI.n7 Tryz.prog Tryz.keysA_ren := {
  mixed := by kernel_rfl
  f7 := ⟨Tryz.f55.name, by decide, Tryz.func55.trans (congrArg some (by kernel_rfl))⟩
  f10 := ⟨Tryz.f74.name, by decide, Tryz.func74.trans (congrArg some (by kernel_rfl))⟩
  t0 := Tryz.underlying0
  a0 := Tryz.isAgg0
  z0 := Tryz.sizeOf0
  v0 := Tryz.zeroValue0
  t4 := Tryz.underlying4
  a4 := Tryz.isAgg4
  z4 := Tryz.sizeOf4
  v4 := Tryz.zeroValue4
  t23 := Tryz.underlying52
  a23 := Tryz.isAgg52
  z23 := Tryz.sizeOf52
  v23 := Tryz.zeroValue52
  t26 := Tryz.underlying3
  a26 := Tryz.isAgg3
  z26 := Tryz.sizeOf3
  v26 := Tryz.zeroValue3
  t27 := Tryz.underlying97
  a27 := Tryz.isAgg97
  z27 := Tryz.sizeOf97
  v27 := Tryz.zeroValue97
  t28 := Tryz.underlying98
  a28 := Tryz.isAgg98
  z28 := Tryz.sizeOf98
  v28 := Tryz.zeroValue98
  t33 := Tryz.underlying69
  a33 := Tryz.isAgg69
  z33 := Tryz.sizeOf69
  v33 := Tryz.zeroValue69 }
def Tryz.sortedA_ren : Go.Shelf.Ren := ⟨fun | 6 => 52 | 8 => 70 | 9 => 71 | 11 => 80 | 13 => 82 | 12 => 81 | 23 => 92 | 24 => 93 | 14 => 83 | 15 => 84 | 16 => 85 | 17 => 86 | 18 => 87 | 19 => 88 | 20 => 89 | 21 => 90 | 22 => 91 | 25 => 94 | 26 => 95 | 27 => 96 | 28 => 97 | 29 => 98 | 30 => 99 | 31 => 100 | n => n, fun | 26 => 3 | 28 => 98 | 24 => 42 | 0 => 0 | 3 => 3 | 37 => 125 | 48 => 146 | 50 => 148 | 4 => 4 | 40 => 139 | 39 => 138 | 45 => 67 | 5 => 5 | 9 => 9 | 51 => 149 | 55 => 79 | 57 => 154 | 58 => 155 | 33 => 69 | n => n, fun | n => n⟩
theorem Tryz.sortedA : Go.Proofs.SlLaysZI.n6 Tryz.prog Tryz.sortedA_ren := {
  mixed := by kernel_rfl
  f6 := ⟨Tryz.f52.name, by decide, Tryz.func52.trans (congrArg some (by kernel_rfl))⟩
  f8 := ⟨Tryz.f70.name, by decide, Tryz.func70.trans (congrArg some (by kernel_rfl))⟩
  f11 := ⟨Tryz.f80.name, by decide, Tryz.func80.trans (congrArg some (by kernel_rfl))⟩
  t0 := Tryz.underlying0
  a0 := Tryz.isAgg0
  z0 := Tryz.sizeOf0
  v0 := Tryz.zeroValue0
  t24 := Tryz.underlying42
  a24 := Tryz.isAgg42
  z24 := Tryz.sizeOf42
  v24 := Tryz.zeroValue42
  t26 := Tryz.underlying3
  a26 := Tryz.isAgg3
  z26 := Tryz.sizeOf3
  v26 := Tryz.zeroValue3
  t28 := Tryz.underlying98
  a28 := Tryz.isAgg98
  z28 := Tryz.sizeOf98
  v28 := Tryz.zeroValue98
  i26 := by kernel_rfl }
def Tryz.sortA_ren : Go.Shelf.Ren := ⟨fun | 5 => 71 | 8 => 82 | 7 => 81 | 19 => 92 | 20 => 93 | 10 => 83 | 11 => 84 | 12 => 85 | 13 => 86 | 14 => 87 | 15 => 88 | 16 => 89 | 17 => 90 | 18 => 91 | 30 => 94 | 31 => 95 | 32 => 96 | 33 => 97 | 34 => 98 | 35 => 99 | 40 => 100 | n => n, fun | 23 => 42 | 25 => 3 | 3 => 3 | 32 => 125 | 22 => 42 | 0 => 0 | 44 => 146 | 46 => 148 | 4 => 4 | 36 => 139 | 35 => 138 | 41 => 67 | 5 => 5 | 9 => 9 | 53 => 149 | 57 => 79 | 63 => 154 | 64 => 155 | n => n, fun | n => n⟩
theorem Tryz.sortA : Go.Proofs.SlLaysM.n5 Tryz.prog Tryz.sortA_ren := {
  mixed := by kernel_rfl
  f5 := ⟨Tryz.f71.name, by decide, Tryz.func71.trans (congrArg some (by kernel_rfl))⟩
  f7 := ⟨Tryz.f81.name, by decide, Tryz.func81.trans (congrArg some (by kernel_rfl))⟩
  f8 := Tryz.func82.trans (congrArg some (by kernel_rfl))
  f10 := ⟨Tryz.f83.name, by decide, Tryz.func83.trans (congrArg some (by kernel_rfl))⟩
  f11 := ⟨Tryz.f84.name, by decide, Tryz.func84.trans (congrArg some (by kernel_rfl))⟩
  f12 := ⟨Tryz.f85.name, by decide, Tryz.func85.trans (congrArg some (by kernel_rfl))⟩
  f13 := ⟨Tryz.f86.name, by decide, Tryz.func86.trans (congrArg some (by kernel_rfl))⟩
  f14 := ⟨Tryz.f87.name, by decide, Tryz.func87.trans (congrArg some (by kernel_rfl))⟩
  f15 := ⟨Tryz.f88.name, by decide, Tryz.func88.trans (congrArg some (by kernel_rfl))⟩
  f16 := ⟨Tryz.f89.name, by decide, Tryz.func89.trans (congrArg some (by kernel_rfl))⟩
  f17 := ⟨Tryz.f90.name, by decide, Tryz.func90.trans (congrArg some (by kernel_rfl))⟩
  f18 := ⟨Tryz.f91.name, by decide, Tryz.func91.trans (congrArg some (by kernel_rfl))⟩
  f19 := Tryz.func92.trans (congrArg some (by kernel_rfl))
  f20 := Tryz.func93.trans (congrArg some (by kernel_rfl))
  f30 := ⟨Tryz.f94.name, by decide, Tryz.func94.trans (congrArg some (by kernel_rfl))⟩
  f31 := Tryz.func95.trans (congrArg some (by kernel_rfl))
  f32 := Tryz.func96.trans (congrArg some (by kernel_rfl))
  f33 := ⟨Tryz.f97.name, by decide, Tryz.func97.trans (congrArg some (by kernel_rfl))⟩
  f34 := ⟨Tryz.f98.name, by decide, Tryz.func98.trans (congrArg some (by kernel_rfl))⟩
  f35 := ⟨Tryz.f99.name, by decide, Tryz.func99.trans (congrArg some (by kernel_rfl))⟩
  f40 := ⟨Tryz.f100.name, by decide, Tryz.func100.trans (congrArg some (by kernel_rfl))⟩
  t0 := Tryz.underlying0
  a0 := Tryz.isAgg0
  z0 := Tryz.sizeOf0
  v0 := Tryz.zeroValue0
  t3 := Tryz.underlying3
  a3 := Tryz.isAgg3
  z3 := Tryz.sizeOf3
  v3 := Tryz.zeroValue3
  t4 := Tryz.underlying4
  a4 := Tryz.isAgg4
  z4 := Tryz.sizeOf4
  v4 := Tryz.zeroValue4
  t5 := Tryz.underlying5
  a5 := Tryz.isAgg5
  z5 := Tryz.sizeOf5
  v5 := Tryz.zeroValue5
  t9 := Tryz.underlying9
  a9 := Tryz.isAgg9
  z9 := Tryz.sizeOf9
  v9 := Tryz.zeroValue9
  t22 := Tryz.underlying42
  a22 := Tryz.isAgg42
  z22 := Tryz.sizeOf42
  v22 := Tryz.zeroValue42
  t23 := Tryz.underlying42
  a23 := Tryz.isAgg42
  z23 := Tryz.sizeOf42
  v23 := Tryz.zeroValue42
  t25 := Tryz.underlying3
  a25 := Tryz.isAgg3
  z25 := Tryz.sizeOf3
  v25 := Tryz.zeroValue3
  t32 := Tryz.underlying125
  a32 := Tryz.isAgg125
  z32 := Tryz.sizeOf125
  v32 := Tryz.zeroValue125
  t35 := Tryz.underlying138
  a35 := Tryz.isAgg138
  z35 := Tryz.sizeOf138
  v35 := Tryz.zeroValue138
  t36 := Tryz.underlying139
  a36 := Tryz.isAgg139
  z36 := Tryz.sizeOf139
  v36 := Tryz.zeroValue139
  t41 := Tryz.underlying67
  a41 := Tryz.isAgg67
  z41 := Tryz.sizeOf67
  v41 := Tryz.zeroValue67
  t44 := Tryz.underlying146
  a44 := Tryz.isAgg146
  z44 := Tryz.sizeOf146
  v44 := Tryz.zeroValue146
  t46 := Tryz.underlying148
  a46 := Tryz.isAgg148
  z46 := Tryz.sizeOf148
  v46 := Tryz.zeroValue148
  t53 := Tryz.underlying149
  a53 := Tryz.isAgg149
  z53 := Tryz.sizeOf149
  v53 := Tryz.zeroValue149
  t57 := Tryz.underlying79
  a57 := Tryz.isAgg79
  z57 := Tryz.sizeOf79
  v57 := Tryz.zeroValue79
  t63 := Tryz.underlying154
  a63 := Tryz.isAgg154
  z63 := Tryz.sizeOf154
  v63 := Tryz.zeroValue154
  t64 := Tryz.underlying155
  a64 := Tryz.isAgg155
  z64 := Tryz.sizeOf155
  v64 := Tryz.zeroValue155 }
def Tryz.keysB_ren : Go.Shelf.Ren := ⟨fun | 7 => 53 | 10 => 72 | n => n, fun | 23 => 93 | 26 => 3 | 3 => 100 | 28 => 98 | 0 => 0 | 27 => 97 | 33 => 69 | 4 => 4 | n => n, fun | n => n⟩
theorem Tryz.keysB : Go.Proofs.SlLaysZI.n7 Tryz.prog Tryz.keysB_ren := {
  mixed := by kernel_rfl
  f7 := ⟨Tryz.f53.name, by decide, Tryz.func53.trans (congrArg some (by kernel_rfl))⟩
  f10 := ⟨Tryz.f72.name, by decide, Tryz.func72.trans (congrArg some (by kernel_rfl))⟩
  t0 := Tryz.underlying0
  a0 := Tryz.isAgg0
  z0 := Tryz.sizeOf0
  v0 := Tryz.zeroValue0
  t4 := Tryz.underlying4
  a4 := Tryz.isAgg4
  z4 := Tryz.sizeOf4
  v4 := Tryz.zeroValue4
  t23 := Tryz.underlying93
  a23 := Tryz.isAgg93
  z23 := Tryz.sizeOf93
  v23 := Tryz.zeroValue93
  t26 := Tryz.underlying3
  a26 := Tryz.isAgg3
  z26 := Tryz.sizeOf3
  v26 := Tryz.zeroValue3
  t27 := Tryz.underlying97
  a27 := Tryz.isAgg97
  z27 := Tryz.sizeOf97
  v27 := Tryz.zeroValue97
  t28 := Tryz.underlying98
  a28 := Tryz.isAgg98
  z28 := Tryz.sizeOf98
  v28 := Tryz.zeroValue98
  t33 := Tryz.underlying69
  a33 := Tryz.isAgg69
  z33 := Tryz.sizeOf69
  v33 := Tryz.zeroValue69 }
end
section
open Go.Maps Go.Sort Go.Shelf Go.Proofs
theorem keys_facts {R : Value → Option (DataW Unit × List MemPlace)} {W : World} {B n : Nat} {D : DataW Unit} (hown : W.ownsMap Tryz.prog 3 R B n D) : (intKeys D).Nodup ∧ (∀ x, x ∈ intKeys D ↔ Maps.has D (.int .i64 x) = true) ∧ (intKeys D).length = Maps.size D := by
  obtain ⟨es, hD, hpw, _⟩ := hown.entries mkeyed
  obtain ⟨es', hD', hko⟩ := hown.keysOf
  obtain rfl : es = es' := by rw [hD] at hD'; simpa using hD'
  subst hD
  have hk : ∀ p ∈ es, ∃ x, p.1 = .int .i64 x := fun p hp => by obtain ⟨v, hv⟩ := hko p hp; obtain ⟨x, _, hx, _⟩ := Maps.keyOf_i64 Tryz.underlying3 hv; exact ⟨x, hx⟩
  refine ⟨?_, fun x => ?_, by simp [intKeys, Maps.size]⟩
  · show (es.map fun p => _root_.Go.intOf p.1).Nodup
    refine List.pairwise_map.2 (hpw.imp_of_mem fun {p q} hp' hq' hne e => hne ?_)
    obtain ⟨a, ha⟩ := hk p hp'
    obtain ⟨b, hb⟩ := hk q hq'
    rw [ha, hb] at e ⊢
    exact congrArg _ e
  · rw [has_eq, List.any_eq_true]
    show x ∈ es.map (fun p => _root_.Go.intOf p.1) ↔ _
    rw [List.mem_map]
    constructor
    · rintro ⟨p, hp', rfl⟩
      obtain ⟨a, ha⟩ := hk p hp'
      exact ⟨p, hp', by rw [ha]; simp [Lit.sameKey, _root_.Go.intOf]⟩
    · rintro ⟨p, hp', hs⟩
      obtain ⟨a, ha⟩ := hk p hp'
      rw [ha] at hs
      exact ⟨p, hp', by rw [ha]; simpa [Lit.sameKey, _root_.Go.intOf] using hs⟩
theorem sorts_h (m : Nat) : AnyZI.SortsIn Tryz.prog Tryz.sortedA_ren Fence.wide m :=
  ⟨fun blk off cap ss W hH hblk hsz => callsIn_wide.2 (AnyM.slices_Sort_int Tryz.sortA blk off cap ss W hH hblk hsz),
   fun p cap W => callsIn_wide.2 (AnyM.slices_Sort_int_none Tryz.sortA p cap W)⟩
theorem keysA_calls (B : Nat) (W : World) : Calls Tryz.prog 55 #[.map (some B)] W fun e w' => e = .returned (.func (.func 74) #[] #[.pointer (some ⟨W.heap.size, 0, none⟩)]) ∧ w' = W.alloc (.cells #[.map (some B)] 52) :=
  (callsIn_wide (n := 5)).1 (AnyZI.keys_in Tryz.keysA Fence.wide 5 trivial rfl (some B) W)
theorem sortedA_calls {R : Value → Option (DataW Unit × List MemPlace)} {W : World} {B n : Nat} {D : DataW Unit} (hown : W.ownsMap Tryz.prog 3 R B n D) (hmax : Maps.size D ≤ 17592186044416) : Calls Tryz.prog 52 #[.func (.func 74) #[] #[.pointer (some ⟨W.heap.size, 0, none⟩)]] (W.alloc (.cells #[.map (some B)] 52)) fun e w' => ∃ (v : Value) (ss : List Int), e = .returned v ∧ ss.Perm (intKeys D) ∧ w'.ownsRow W.heap.size 3 1 v ss.length ((ss.mergeSort (fun x y => decide (x ≤ y))).map (Value.int .i64)) ∧ Below W.heap.size W w' := by
  have hbl := hown.lt
  have hseq : SeqGives Fence.wide 2 Tryz.prog 74 #[.pointer (some ⟨W.heap.size, 0, none⟩)] encZ (fun ss => ss.Perm (intKeys D)) (Maps.size D) (W.alloc (.cells #[.map (some B)] 52)) :=
    AnyZI.keys_gives (ρ := Tryz.keysA_ren) { Tryz.keysA with } Fence.wide _ trivial rfl (by omega) W.heap.size B n D _ (by simp) (by simp) (by
      obtain ⟨es, clock, hb, Ft, hs, hD⟩ := hown
      exact ⟨es, clock, (Below.heap_alloc _ _ B hbl).trans hb, Ft, hs, hD⟩)
  have cS := AnyZI.sorted_in Tryz.sortedA Fence.wide 5 trivial trivial trivial trivial rfl (by omega) (sorts_h _) (enters_of Tryz.func71 (by kernel_rfl) rfl) 74 #[.pointer (some ⟨W.heap.size, 0, none⟩)] trivial (enters_of Tryz.func74 (by kernel_rfl) rfl) _ _ (by unfold maxLen; omega) (by omega) _ hseq
  refine ((callsIn_wide (n := 5)).1 cS).mono ?_
  rintro e w' ⟨v, ss, rfl, hS, hrow, _, hb⟩
  exact ⟨v, ss, rfl, hS, ownsRow_base_a hrow (by simp), ((Below.refl _ W).alloc (Nat.le_refl _) _).trans (hb.mono (by simp))⟩
theorem keysB_calls (B : Nat) (W : World) : Calls Tryz.prog 53 #[.map (some B)] W fun e w' => e = .returned (.func (.func 72) #[] #[.pointer (some ⟨W.heap.size, 0, none⟩)]) ∧ w' = W.alloc (.cells #[.map (some B)] 93) :=
  (callsIn_wide (n := 5)).1 (AnyZI.keys_in Tryz.keysB Fence.wide 5 trivial rfl (some B) W)
theorem sortedB_calls {R : Value → Option (DataW Unit × List MemPlace)} {W : World} {B n : Nat} {D : DataW Unit} (hown : W.ownsMap Tryz.prog 3 R B n D) (hmax : Maps.size D ≤ 17592186044416) : Calls Tryz.prog 52 #[.func (.func 72) #[] #[.pointer (some ⟨W.heap.size, 0, none⟩)]] (W.alloc (.cells #[.map (some B)] 93)) fun e w' => ∃ (v : Value) (ss : List Int), e = .returned v ∧ ss.Perm (intKeys D) ∧ w'.ownsRow W.heap.size 3 1 v ss.length ((ss.mergeSort (fun x y => decide (x ≤ y))).map (Value.int .i64)) ∧ Below W.heap.size W w' := by
  have hbl := hown.lt
  have hseq : SeqGives Fence.wide 2 Tryz.prog 72 #[.pointer (some ⟨W.heap.size, 0, none⟩)] encZ (fun ss => ss.Perm (intKeys D)) (Maps.size D) (W.alloc (.cells #[.map (some B)] 93)) :=
    AnyZI.keys_gives (ρ := Tryz.keysB_ren) { Tryz.keysB with } Fence.wide _ trivial rfl (by omega) W.heap.size B n D _ (by simp) (by simp) (by
      obtain ⟨es, clock, hb, Ft, hs, hD⟩ := hown
      exact ⟨es, clock, (Below.heap_alloc _ _ B hbl).trans hb, Ft, hs, hD⟩)
  have cS := AnyZI.sorted_in Tryz.sortedA Fence.wide 5 trivial trivial trivial trivial rfl (by omega) (sorts_h _) (enters_of Tryz.func71 (by kernel_rfl) rfl) 72 #[.pointer (some ⟨W.heap.size, 0, none⟩)] trivial (enters_of Tryz.func72 (by kernel_rfl) rfl) _ _ (by unfold maxLen; omega) (by omega) _ hseq
  refine ((callsIn_wide (n := 5)).1 cS).mono ?_
  rintro e w' ⟨v, ss, rfl, hS, hrow, _, hb⟩
  exact ⟨v, ss, rfl, hS, ownsRow_base_a hrow (by simp), ((Below.refl _ W).alloc (Nat.le_refl _) _).trans (hb.mono (by simp))⟩
end
theorem strict_h {l : List Int} (h : l.Nodup) : (l.mergeSort fun x y => decide (x ≤ y)).Pairwise (· < ·) := by
  have tr : ∀ a b c : Int, decide (a ≤ b) = true → decide (b ≤ c) = true → decide (a ≤ c) = true := fun a b c h1 h2 => by simp only [decide_eq_true_eq] at *; omega
  have tt9 : ∀ a b : Int, (decide (a ≤ b) || decide (b ≤ a)) = true := fun a b => by simp only [Bool.or_eq_true, decide_eq_true_eq]; omega
  have h1 := List.pairwise_mergeSort tr tt9 l
  have h2 : (l.mergeSort fun x y => decide (x ≤ y)).Nodup := (List.mergeSort_perm l _).nodup_iff.2 h
  exact (h1.and h2).imp fun h => by
    have h3 := h.1
    have h4 := h.2
    simp only [decide_eq_true_eq] at h3
    omega
theorem sorted_keys {R : Value → Option (DataW Unit × List MemPlace)} {W W' : World} {B n base : Nat} {D : DataW Unit} (hown : W.ownsMap Tryz.prog 3 R B n D) {v : Value} {ss : List Int} (hp : ss.Perm (Go.intKeys D)) (hrow : W'.ownsRow base 3 1 v ss.length ((ss.mergeSort (fun x y => decide (x ≤ y))).map (Value.int .i64))) :
    Kd.R (Kd.int .i64) 3 W' base (fun _ => True) v (ss.mergeSort fun x y => decide (x ≤ y)) ∧ (ss.mergeSort fun x y => decide (x ≤ y)).Pairwise (· < ·) ∧ ∀ x, x ∈ (ss.mergeSort fun x y => decide (x ≤ y)) ↔ Maps.has D (.int .i64 x) = true := by
  obtain ⟨k1, k2, _⟩ := keys_facts hown
  refine ⟨Kd.R_of_own (by rw [List.length_mergeSort]; exact hrow) (fun _ _ => trivial), strict_h (hp.nodup_iff.2 k1), fun x => ?_⟩
  rw [List.mem_mergeSort, hp.mem_iff, k2]
set_option maxHeartbeats 1600000 in
set_option maxRecDepth 100000 in
theorem hp_Live (w0 : World) (s : HS) (hlast : s.last < 17592186044416) (W : World) (h : HeapAt w0 s W) : Calls Tryz.prog 31 #[.pointer (some ⟨s.hb, 0, none⟩)] W fun e w' => ∃ (v : Value) (ls : List Int), e = .returned v ∧ Kd.R (Kd.int .i64) 3 w' W.heap.size (fun _ => True) v ls ∧ ls.Pairwise (· < ·) ∧ (∀ x, x ∈ ls ↔ (s.m x).isSome = true) ∧ Below W.heap.size W w' := by
  obtain ⟨ob, rb, h⟩ := h
  have H := Aside0.mk h
  have HL := Aside0.mk hlast
  clear h hlast
  go_enter Tryz.func31, Tryz.ntmps31
  go_wp2_with fail
  refine (hp_made w0 s _ ⟨ob, rb, H.out⟩).mono ?_
  rintro e w1 ⟨rfl, hb⟩
  have HB := Aside0.mk hb
  replace H := Aside0.mk (H.out.step hb)
  clear hb
  obtain ⟨f0, f1, f2, f3, f4⟩ := (show HeapAt w0 s w1 from ⟨ob, rb, H.out⟩).cells
  go_wp2_with fail
  refine (keysA_calls s.B _).mono ?_
  rintro e w2 ⟨rfl, rfl⟩
  obtain ⟨D, hD, hD2, _⟩ := H.out.mp
  go_wp2_with fail
  refine (sortedA_calls hD (Nat.le_trans hD.size_le (Nat.le_of_lt HL.out))).mono ?_
  rintro e w3 ⟨v, ss, rfl, hp, hrow, hb⟩
  obtain ⟨r1, r2, r3⟩ := sorted_keys hD hp hrow
  have HR := Aside0.mk (Kd.R_lower r1 HB.out.size)
  have HS2 := Aside0.mk r2
  have HS3 := Aside0.mk (show ∀ x, x ∈ (ss.mergeSort fun x y => decide (x ≤ y)) ↔ (s.m x).isSome = true from fun x => by rw [r3, hD2]; simp)
  have HB3 := Aside0.mk (below_then HB.out HB.out.size hb)
  clear r1 r2 r3 hp hrow hb hD hD2
  go_wp2
  go_ret
  exact ⟨v, _, rfl, HR.out, HS2.out, HS3.out, HB3.out⟩
end Go.Proofs.YtkjagcamikkjkaaGreat.P

end

section
namespace Go.Proofs.YtkjagcamikkjkaaGreat.P
open Go.RowKit Go.Proofs.YtkjagcamikkjkaaGreatW.PrintWords Go.Proofs.YtkjagcamikkjkaaGreatW.PrintLast Go.Proofs.YtkjagcamikkjkaaGreatW.PrintMore
attribute [local go_sem] max2_int min2_int max_two min_two max_three min_three max_four min_four
set_option linter.unusedVariables false
set_option linter.unusedSimpArgs false
set_option maxHeartbeats 1600000 in
set_option maxRecDepth 100000 in
theorem hp_Reach (w0 : World) (s : HS) (k : Nat) (A : Option Addr) (c : Nat) (roots : List Int) (res : Option (List Int)) (W : World) (h : HeapAt w0 s W) (hfo : FieldsOK s.l) (hnl : s.last < 4611686018427387904) (hC : (Kd.int .i64).C W A roots.length roots) (hrk : ∀ y ∈ roots, I64 y) (hrl : roots.length < 17592186044416) (hm : markM k s roots = some res) (hml : ∀ met, res = some met → met.length < 17592186044416) :
    Calls Tryz.prog 24 #[.pointer (some ⟨s.hb, 0, none⟩), .slice A roots.length c] W fun e w' => Below W.heap.size W w' ∧ ((res = none ∧ e = .returned (.tuple #[.slice none 0 0, .int .i64 141])) ∨ ∃ (met : List Int) (v : Value) (ls : List Int), res = some met ∧ e = .returned (.tuple #[v, .int .i64 0]) ∧ Kd.R (Kd.int .i64) 3 w' W.heap.size (fun _ => True) v ls ∧ ls.Pairwise (· < ·) ∧ ∀ x, x ∈ ls ↔ x ∈ met) := by
  have hmn := map_some_neq
  have H := Aside0.mk h
  have HFO := Aside0.mk hfo
  have HNL := Aside0.mk hnl
  have HC := Aside0.mk hC
  have HRK := Aside0.mk hrk
  have HRL := Aside0.mk hrl
  have HMK := Aside0.mk hm
  have HML := Aside0.mk hml
  clear h hfo hnl hC hrk hrl hm hml
  go_enter Tryz.func24, Tryz.ntmps24
  go_wp2_with fail
  refine (hp_made w0 s _ H.out).mono ?_
  rintro e w1 ⟨rfl, hb⟩
  have HB := Aside0.mk hb
  replace H := Aside0.mk (show HeapAt w0 s w1 from by obtain ⟨ob, rb, h⟩ := H.out; exact ⟨ob, rb, h.step hb⟩)
  replace HC := Aside0.mk (Kd.C_below HC.out hb)
  clear hb
  go_wp2_with fail
  refine (hp_mark w0 s k A c roots res _ H.out HFO.out HNL.out HC.out HRK.out HRL.out HMK.out).mono ?_
  rintro e w2 ⟨hb, hp⟩
  replace HB := Aside0.mk (below_then HB.out HB.out.size hb)
  have HSZ := Aside0.mk hb.size
  clear hb
  rcases hp with ⟨hres, rfl⟩ | ⟨met, B, hres, rfl, hB, hU⟩
  · go_wp2
    go_ret2
    exact ⟨HB.out, Or.inl ⟨hres, rfl⟩⟩
  · go_wp2_with fail
    refine (keysB_calls B _).mono ?_
    rintro e w3 ⟨rfl, rfl⟩
    obtain ⟨D, hD, hD2⟩ := hU
    go_wp2_with fail
    refine (sortedB_calls hD (Nat.le_trans hD.size_le (Nat.le_of_lt (HML.out met hres)))).mono ?_
    rintro e w3 ⟨v, ss, rfl, hp, hrow, hb⟩
    obtain ⟨r1, r2, r3⟩ := sorted_keys hD hp hrow
    have HR := Aside0.mk (Kd.R_lower r1 HB.out.size)
    have HS2 := Aside0.mk r2
    have HS3 := Aside0.mk (show ∀ x, x ∈ (ss.mergeSort fun x y => decide (x ≤ y)) ↔ x ∈ met from fun x => by rw [r3, hD2]; simp [memH])
    have HB3 := Aside0.mk (below_then HB.out HB.out.size hb)
    clear r1 r2 r3 hp hrow hb hD hD2
    go_wp2
    go_ret2
    exact ⟨HB3.out, Or.inr ⟨met, v, _, hres, rfl, HR.out, HS2.out, HS3.out⟩⟩
def delM (m : Int → Option (Int × List Int)) (x : Int) : Int → Option (Int × List Int) := fun y => if y = x then none else m y
def goC (met : List Int) : HS → Int → List Int → Int × HS
  | s, n, [] => (n, s)
  | s, n, x :: l => if x ∈ met then goC met s n l else goC met { s with m := delM s.m x } (n + ((((s.m x).getD (0, [])).2.length : Int) + 1)) l
theorem PMap.del_has {D : DataW Unit} {g : Int → Option Nat} {x : Int} (h1 : ∀ x, Maps.has D (.int .i64 x) = (g x).isSome) (h2 : ∀ x b, g x = some b → ∀ z, D.atKey (.int .i64 x) z = .lit (.int .i64 (b : Int))) :
    (∀ y, Maps.has (D.del (.int .i64 x)) (.int .i64 y) = (delP g x y).isSome) ∧ (∀ y b, delP g x y = some b → ∀ z, (D.del (.int .i64 x)).atKey (.int .i64 y) z = .lit (.int .i64 (b : Int))) := by
  refine ⟨fun y => ?_, fun y c hy z => ?_⟩
  · unfold delP
    by_cases e : y = x
    · rw [if_pos e, e, Maps.has_del_same]; rfl
    · rw [if_neg e, Maps.has_del_other (fun e' => e (by cases e'; rfl)), h1]
  · unfold delP at hy
    by_cases e : y = x
    · rw [if_pos e] at hy
      cases hy
    · rw [if_neg e] at hy
      rw [Maps.atKey_del_other (fun e' => e (by cases e'; rfl)), h2 y c hy]
theorem pm_delete {ops : Array Oper} {rest : List Oper} {o : Oper} {a : Act} {Q : Exit → Act → World → Prop} (hgd : o.guard = none) {m x : Operand} (ho : o.op = Op.call { callee := Callee.builtin Builtin.delete, args := #[m, x], argTypes := #[52, 3] }) {W : World} {B n : Nat} {g : Int → Option Nat} (hm : a.eval m = .map (some B)) (hown : PMap W B n g) {k : Int} (hx : a.eval x = .int .i64 k) (hk : I64 k)
    (h : ∀ w1, PMap w1 B n (delP g k) → W.grownBy w1 (some B) → wpList Tryz.prog ops Q rest (a.put o.dst (.tuple #[])) w1) : wpList Tryz.prog ops Q (o :: rest) a W := by
  obtain ⟨D, h1, h2, h3⟩ := hown
  have hp := PMap.del_has (x := k) h2 h3
  exact wpList_delete_own W hgd m x _ _ ho _ mkeyed Tryz.underlying52 _ B n D hm h1 _ _ hx (Go.Maps.keyOf_int_mk Tryz.underlying3 hk.wf) (fun w1 r1 r2 => h w1 ⟨_, r1, hp.1, hp.2⟩ r2.grown)
theorem HeapIn.less {w0 : World} {s : HS} {ob rb : Int → Nat} {W W1 : World} (H : HeapIn w0 s ob rb W) {x : Int} (hmp : PMap W1 s.B s.last (delP (fun y => (s.m y).map fun _ => ob y) x)) (hg : W.grownBy W1 (some s.B)) :
    HeapIn w0 { s with m := delM s.m x } ob rb W1 := by
  have hB : ∀ (g : Nat) (cs : Array Value) (t : Nat), W.heap[g]? = some (.cells cs t (0, 0)) → W1.heap[g]? = some (.cells cs t (0, 0)) := fun g cs t hh => blk_grown hh hg (fun e => H.mp.ne hh (Option.some.inj e).symm)
  have hold : ∀ y o, delM s.m x y = some o → s.m y = some o := fun y o hy => by
    unfold delM at hy
    by_cases e : y = x
    · rw [if_pos e] at hy; cases hy
    · rw [if_neg e] at hy; exact hy
  refine ⟨hB _ _ _ H.hd, ?_, fun y o hy => ⟨hB _ _ _ (H.obj y o (hold y o hy)).1, hB _ _ _ (H.obj y o (hold y o hy)).2⟩, fun y z p q hp hq hyz => H.inj y z p q (hold y p hp) (hold z q hq) hyz, ⟨H.base.1, H.base.2.1, fun y o hy => H.base.2.2 y o (hold y o hy)⟩, Kd.R_mono (Kd.R_grown (Kd.R_bound H.cls) hg (fun k hk e => ?_)) (fun _ h => h.1), fun y o hy => H.dom y o (hold y o hy), H.num, H.below.grown hg H.below.size (fun k hk => by cases hk; exact H.base.2.1), ⟨Nat.le_trans H.keep.1 hg.size, fun k hf => ⟨(H.keep.2 k hf).1, (hg.block k (Nat.lt_of_lt_of_le (H.keep.2 k hf).1 H.keep.1) (fun e => (H.sep k hf).2.1 (Option.some.inj e))).trans (H.keep.2 k hf).2⟩⟩, fun k hf => ⟨(H.sep k hf).1, (H.sep k hf).2.1, fun y q hq => (H.sep k hf).2.2 y q (hold y q hq)⟩⟩
  · have e : (fun y => (delM s.m x y).map fun _ => ob y) = delP (fun y => (s.m y).map fun _ => ob y) x := by
      funext y
      unfold delM delP
      by_cases e : y = x
      · rw [if_pos e, if_pos e]; rfl
      · rw [if_neg e, if_neg e]
    show PMap W1 s.B s.last (fun y => (delM s.m x y).map fun _ => ob y)
    rw [e]
    exact hmp
  · obtain ⟨_, _, _, q, _, cells, hc⟩ := hk
    exact H.mp.ne hc (Option.some.inj e).symm
theorem rising_same {l r : List Int} (hl : l.Pairwise (· < ·)) (hr : r.Pairwise (· < ·)) (h : ∀ x, x ∈ l ↔ x ∈ r) : l = r :=
  List.Perm.eq_of_pairwise (le := fun a b => a < b) (fun a b _ _ h1 h2 => by omega) hl hr ((List.perm_ext_iff_of_nodup (hl.imp fun h => by omega) (hr.imp fun h => by omega)).2 h)
theorem wrap_c {a : Int} (h : 0 ≤ a) (h2 : a ≤ 72057594037927936) : IntKind.i64.wrap a = a := by rw [IntKind.wrap_i64]; omega
set_option maxHeartbeats 1600000 in
set_option maxRecDepth 100000 in
theorem hp_Collect (w0 : World) (s : HS) (k : Nat) (A : Option Addr) (c : Nat) (roots : List Int) (res : Option (List Int)) (lv : List Int) (W : World) (h : HeapAt w0 s W) (hfo : FieldsOK s.l) (hnl : s.last < 17592186044416) (hC : (Kd.int .i64).C W A roots.length roots) (hrk : ∀ y ∈ roots, I64 y) (hrl : roots.length < 17592186044416) (hm : markM k s roots = some res)
    (hls : lv.Pairwise (· < ·)) (hlm : ∀ x, x ∈ lv ↔ (s.m x).isSome = true) (hll : lv.length < 8796093022208) (hcu : ∀ met, res = some met → (goC met s 0 lv).1 ≤ s.used) :
    Calls Tryz.prog 27 #[.pointer (some ⟨s.hb, 0, none⟩), .slice A roots.length c] W fun e w' => (res = none ∧ e = .returned (.tuple #[.int .i64 0, .int .i64 141]) ∧ Below W.heap.size W w') ∨ ∃ met : List Int, res = some met ∧ e = .returned (.tuple #[.int .i64 (goC met s 0 lv).1, .int .i64 0]) ∧ HeapAt w0 { (goC met s 0 lv).2 with used := s.used - (goC met s 0 lv).1 } w' := by
  have H := Aside0.mk h
  have HFO := Aside0.mk hfo
  have HNL := Aside0.mk hnl
  have HC := Aside0.mk hC
  have HRK := Aside0.mk hrk
  have HRL := Aside0.mk hrl
  have HMK := Aside0.mk hm
  have HLS := Aside0.mk hls
  have HLM := Aside0.mk hlm
  have HLL := Aside0.mk hll
  have HCU := Aside0.mk hcu
  clear h hfo hnl hC hrk hrl hm hls hlm hll hcu
  go_enter Tryz.func27, Tryz.ntmps27
  go_wp2_with fail
  refine (hp_made w0 s _ H.out).mono ?_
  rintro e w1 ⟨rfl, hb⟩
  have HB := Aside0.mk hb
  replace H := Aside0.mk (show HeapAt w0 s w1 from by obtain ⟨ob, rb, h⟩ := H.out; exact ⟨ob, rb, h.step hb⟩)
  replace HC := Aside0.mk (Kd.C_below HC.out hb)
  clear hb
  go_wp2_with fail
  refine (hp_mark w0 s k A c roots res _ H.out HFO.out (by have := HNL.out; omega) HC.out HRK.out HRL.out HMK.out).mono ?_
  rintro e w2 ⟨hb, hp⟩
  replace HB := Aside0.mk (below_then HB.out HB.out.size hb)
  obtain ⟨ob, rb, hh⟩ := H.out
  have HBS := Aside0.mk (show s.B < w1.heap.size from hh.mp.lt)
  replace H := Aside0.mk (hh.step hb)
  clear hb hh
  rcases hp with ⟨hres, rfl⟩ | ⟨met, B, hres, rfl, hB, hU⟩
  · go_wp2
    go_ret2
    exact Or.inl ⟨hres, rfl, HB.out⟩
  · have HU := Aside0.mk hU
    have HBN := Aside0.mk (show ¬ B = s.B from by have := HBS.out; omega)
    have HRES := Aside0.mk hres
    have HCM := Aside0.mk (HCU.out met hres)
    clear hU hB hres HBS HCU
    go_wp2_with fail
    refine (hp_Live w0 s HNL.out _ ⟨ob, rb, H.out⟩).mono ?_
    rintro e w3 ⟨v, ls, rfl, hR, hp1, hp2, hb⟩
    obtain rfl : ls = lv := rising_same hp1 HLS.out (fun x => by rw [hp2, HLM.out])
    clear hp1 hp2
    replace H := Aside0.mk (H.out.step hb)
    replace HU := Aside0.mk (HU.out.block (hb.block _ HU.out.lt))
    obtain ⟨A3, c3, e3⟩ := Kd.R_slice hR
    subst e3
    have HR := Aside0.mk hR
    clear hR hb
    have HSZ := Aside0.mk HB.out.size
    go_wp2_with fail
    go_loopw [8, 27] (fun v8 v27 wr => ∃ (j : Nat) (n : Int) (m : Int → Option (Int × List Int)), v27 = .int .i64 (j : Int) ∧ v8 = .int .i64 n ∧ j ≤ ls.length ∧ Aside0 (0 ≤ n ∧ n ≤ 4097 * (j : Int)) ∧ Aside0 (HeapIn w0 { s with m := m } ob rb wr) ∧ Aside0 (UMap wr B met.length (memH met)) ∧ Aside0 (Kd.R (Kd.int .i64) 3 wr w2.heap.size (fun _ => True) (.slice A3 ls.length c3) ls) ∧ Aside0 (∀ y ∈ ls.drop j, m y = s.m y) ∧ Aside0 (goC met s 0 ls = goC met { s with m := m } n (ls.drop j))) (fun _ v27 _ => ((ls.length : Int) - intOf v27).toNat)
    case atStart => exact ⟨0, 0, s.m, rfl, rfl, Nat.zero_le _, ⟨by omega, by omega⟩, H, HU, HR, ⟨fun _ _ => rfl⟩, ⟨rfl⟩⟩
    case round =>
      rename_i wr
      clear H HU HR
      obtain ⟨j, n, m, rfl, rfl, hj, HN, H, HU, HR, HSAME, HGO⟩ := hrel
      by_cases c1 : j < ls.length
      · obtain ⟨x, hx⟩ : ∃ x, x = rd ls (j : Int) := ⟨_, rfl⟩
        obtain ⟨ad, e1, hxa⟩ := Kd.at_int (Kd.R_reads' HR.out).2.2 (j : Int) (by omega) (by omega)
        cases e1
        rw [← hx, Int.toNat_natCast] at hxa
        have hdr : ls.drop j = x :: ls.drop (j + 1) := by rw [List.drop_eq_getElem_cons c1, hx]; unfold rd; rw [Int.toNat_natCast, List.getD_eq_getElem?_getD, List.getElem?_eq_getElem c1]; rfl
        have hxm : x ∈ ls := List.drop_subset j ls (by rw [hdr]; exact List.mem_cons_self)
        obtain ⟨o, hso⟩ : ∃ o, s.m x = some o := Option.isSome_iff_exists.1 ((HLM.out x).1 hxm)
        have hmx : m x = some o := by rw [HSAME.out x (by rw [hdr]; exact List.mem_cons_self)]; exact hso
        have HSM : Aside0 (({ s with m := m } : HS).m x = some o) := ⟨hmx⟩
        have HSN := Aside0.mk hmx
        have hdm := H.out.dom x o hmx
        have HK : Aside0 (I64 x) := ⟨by have h1 := hdm.1; have h2 := hdm.2.1; have h3 := HNL.out; change x ≤ (s.last : Int) at h2; unfold I64; omega⟩
        have hol := hdm.2.2.1
        have hgo := HGO.out
        rw [hdr] at hgo
        have hnd : ∀ y ∈ ls.drop (j + 1), ¬ y = x := by
          have h1 : (ls.drop j).Pairwise (· < ·) := HLS.out.drop
          rw [hdr, List.pairwise_cons] at h1
          intro y hy e
          have := h1.1 y hy
          omega
        have HSM1 := Aside0.mk (show ∀ y ∈ ls.drop (j + 1), m y = s.m y from fun y hy => HSAME.out y (by rw [hdr]; exact List.mem_cons_of_mem _ hy))
        have HSM2 := Aside0.mk (show ∀ y ∈ ls.drop (j + 1), delM m x y = s.m y from fun y hy => by unfold delM; rw [if_neg (hnd y hy)]; exact HSM1.out y hy)
        have HW := Aside0.mk (wrap_h c1 (by have := HLL.out; omega))
        have HLO := Aside0.mk (show (0 : Int) ≤ (o.2.length : Int) ∧ (o.2.length : Int) ≤ 4096 by omega)
        have hw1 : IntKind.i64.wrap ((o.2.length : Int) + 1) = (o.2.length : Int) + 1 := wrap_c (by omega) (by omega)
        have hw2 : IntKind.i64.wrap (n + ((o.2.length : Int) + 1)) = n + ((o.2.length : Int) + 1) := wrap_c (by have := HN.out; omega) (by have := HN.out; have := HLL.out; omega)
        have c1b : decide ((j : Int) < (ls.length : Int)) = true := decide_eq_true (by omega)
        have c1c : decide (j < ls.length) = true := decide_eq_true c1
        have p5 : (0 ≤ (j : Int)) = True := eq_true (by omega)
        have p6 : ((j : Int) < (ls.length : Int)) = True := eq_true (by omega)
        have HJ := Aside0.mk c1
        have f4 := blk_cell H.out.hd 4
        have g1 := blk_cell (H.out.obj x o HSM.out).1 1
        simp only [HS.cell, List.getElem?_toArray, List.getElem?_cons_zero, List.getElem?_cons_succ] at f4 g1
        simp only [goC] at hgo
        clear hx hdr c1 HSAME hmx hso hdm hol hnd hxm HGO
        by_cases cm : x ∈ met
        · rw [if_pos cm] at hgo
          have HGO := Aside0.mk hgo
          have HMB := Aside0.mk (show memH met x = true from decide_eq_true cm)
          clear hgo cm
          go_wp2_with (first | ((with_reducible refine gate_dst (N := 34) rfl ?_); refine um_look rfl rfl rfl HU.out rfl HK.out ?_; rw [HMB.out]) | ((with_reducible refine gate_dst (N := 11) rfl ?_); refine rw_allocH rfl 100 rfl (cs := #[]) (by kernel_rfl) (Rws.nil _) ?_; intro b5 w_ hX hb9; have hU5 := blk_cell (hX.mem List.mem_cons_self) 0; replace H := Aside0.mk (H.out.step hb9); replace HU := Aside0.mk (HU.out.block (hb9.block _ HU.out.lt)); replace HR := Aside0.mk (Kd.R_below HR.out hb9); clear hX hb9 f4 g1; have f4 := blk_cell H.out.hd 4; have g1 := blk_cell (H.out.obj x o HSM.out).1 1; simp only [HS.cell, List.getElem?_toArray, List.getElem?_cons_zero, List.getElem?_cons_succ] at f4 g1) | ((with_reducible refine gate_dst (N := 45) rfl ?_); refine pm_look rfl rfl rfl H.out.mp rfl HK.out ?_; (try dsimp only); rw [HSN.out]; simp only [Option.map_none, Option.map_some]) | (at_delete; refine pm_delete rfl rfl rfl H.out.mp rfl HK.out ?_; intro w9 hp9 hg9; have HX9 := Aside0.mk (H.out.less hp9 hg9); replace HR := Aside0.mk (Kd.R_mono (Kd.R_grown (Kd.R_bound HR.out) hg9 (fun k hk e => by obtain ⟨_, _, _, q, _, cells, hc⟩ := hk; exact H.out.mp.ne hc (Option.some.inj e).symm)) (fun _ _ => trivial)); replace HU := Aside0.mk (HU.out.block (hg9.block _ HU.out.lt (fun e => HBN.out (Option.some.inj e)))); replace H := HX9; clear HX9 hp9 hg9 f4 g1))
          go_roundw
          case rel => exact ⟨j + 1, n, m, (by rw [HW.out]), rfl, HJ.out, ⟨HN.out.1, (by have := HN.out.2; omega)⟩, H, HU, HR, HSM1, HGO⟩
          case measure => exact meas_h HJ.out HW.out
        · rw [if_neg cm] at hgo
          have HGO := Aside0.mk hgo
          have HMB := Aside0.mk (show memH met x = false from decide_eq_false cm)
          clear hgo cm
          go_wp2_with (first | ((with_reducible refine gate_dst (N := 34) rfl ?_); refine um_look rfl rfl rfl HU.out rfl HK.out ?_; rw [HMB.out]) | ((with_reducible refine gate_dst (N := 11) rfl ?_); refine rw_allocH rfl 100 rfl (cs := #[]) (by kernel_rfl) (Rws.nil _) ?_; intro b5 w_ hX hb9; have hU5 := blk_cell (hX.mem List.mem_cons_self) 0; replace H := Aside0.mk (H.out.step hb9); replace HU := Aside0.mk (HU.out.block (hb9.block _ HU.out.lt)); replace HR := Aside0.mk (Kd.R_below HR.out hb9); clear hX hb9 f4 g1; have f4 := blk_cell H.out.hd 4; have g1 := blk_cell (H.out.obj x o HSM.out).1 1; simp only [HS.cell, List.getElem?_toArray, List.getElem?_cons_zero, List.getElem?_cons_succ] at f4 g1) | ((with_reducible refine gate_dst (N := 45) rfl ?_); refine pm_look rfl rfl rfl H.out.mp rfl HK.out ?_; (try dsimp only); rw [HSN.out]; simp only [Option.map_none, Option.map_some]) | (at_delete; refine pm_delete rfl rfl rfl H.out.mp rfl HK.out ?_; intro w9 hp9 hg9; have HX9 := Aside0.mk (H.out.less hp9 hg9); replace HR := Aside0.mk (Kd.R_mono (Kd.R_grown (Kd.R_bound HR.out) hg9 (fun k hk e => by obtain ⟨_, _, _, q, _, cells, hc⟩ := hk; exact H.out.mp.ne hc (Option.some.inj e).symm)) (fun _ _ => trivial)); replace HU := Aside0.mk (HU.out.block (hg9.block _ HU.out.lt (fun e => HBN.out (Option.some.inj e)))); replace H := HX9; clear HX9 hp9 hg9 f4 g1))
          go_roundw
          case rel => exact ⟨j + 1, n + ((o.2.length : Int) + 1), delM m x, (by rw [HW.out]), (by first | rfl | (simp; done)), HJ.out, ⟨(by have h1 := HN.out; have h2 := HLO.out; constructor <;> omega)⟩, H, HU, HR, HSM2, ⟨(by have e := HGO.out; simp only [HSN.out, Option.getD_some] at e; exact e)⟩⟩
          case measure => exact meas_h HJ.out HW.out
      · have c1b : decide ((j : Int) < (ls.length : Int)) = false := decide_eq_false (by omega)
        have c1c : decide (j < ls.length) = false := decide_eq_false c1
        have hgo := HGO.out
        rw [List.drop_eq_nil_of_le (by omega)] at hgo
        simp only [goC] at hgo
        have HGO2 := Aside0.mk hgo
        have hcm := HCM.out
        rw [hgo] at hcm
        have HNU := Aside0.mk (show n ≤ s.used from hcm)
        have HNM := Aside0.mk (show 0 ≤ s.used ∧ s.used ≤ s.room ∧ s.room ≤ 4096 from H.out.num)
        have hw1 : IntKind.i64.wrap (s.used - n) = s.used - n := wrap_c (by have := HNU.out; omega) (by have := HNM.out; have := HN.out.1; omega)
        have f2 := blk_cell H.out.hd 2
        simp only [HS.cell, List.getElem?_toArray, List.getElem?_cons_zero, List.getElem?_cons_succ] at f2
        clear hgo hcm c1 HGO hj HSAME
        go_wp2_with ((with_reducible refine gate_store (t := 3) (p := 65) rfl ?_); refine head_store rfl rfl 2 rfl rfl H.out (by decide) { s with m := m, used := s.used - n } rfl rfl rfl rfl rfl rfl rfl rfl (Nat.le_refl _) (by have h1 := HNU.out; have h2 := HNM.out; have h3 := HN.out.1; exact ⟨by show 0 ≤ s.used - n; omega, by show s.used - n ≤ s.room; omega, h2.2.2⟩) ?_; intro w9 ho hk; have HZ := Aside0.mk ho; clear ho hk f2)
        go_ret2
        exact Or.inr ⟨met, HRES.out, (by rw [HGO2.out]; rfl), (by rw [HGO2.out]; exact ⟨ob, rb, HZ.out⟩)⟩
end Go.Proofs.YtkjagcamikkjkaaGreat.P

end

section
namespace Go.Proofs.YtkjagcamikkjkaaGreat.P
open Go.RowKit Go.Proofs.YtkjagcamikkjkaaGreatW.PrintWords Go.Proofs.YtkjagcamikkjkaaGreatW.PrintLast Go.Proofs.YtkjagcamikkjkaaGreatW.PrintMore
attribute [local go_sem] max2_int min2_int max_two min_two max_three min_three max_four min_four
set_option linter.unusedVariables false
set_option linter.unusedSimpArgs false
def cutM (met : List Int) (l : List Int) (m : Int → Option (Int × List Int)) : Int → Option (Int × List Int) := fun y => if y ∈ l ∧ y ∉ met then none else m y
theorem goC_s (met : List Int) : ∀ (l : List Int) (s : HS) (n : Int), (goC met s n l).2 = { s with m := cutM met l s.m }
  | [], s, n => by
    have : cutM met [] s.m = s.m := by funext y; unfold cutM; simp
    unfold goC; rw [this]
  | x :: l, s, n => by
    unfold goC
    split
    · rename_i h
      rw [goC_s met l s n]
      have : cutM met (x :: l) s.m = cutM met l s.m := by
        funext y
        unfold cutM
        by_cases e : y = x
        · subst e; simp [h]
        · simp [e]
      rw [this]
    · rename_i h
      rw [goC_s met l _ _]
      have : cutM met l (delM s.m x) = cutM met (x :: l) s.m := by
        funext y
        unfold cutM delM
        by_cases e : y = x
        · subst e; simp [h]
        · simp [e]
      show ({ s with m := cutM met l (delM s.m x) } : HS) = _
      rw [this]
def costO (m : Int → Option (Int × List Int)) (x : Int) : Int := (((m x).getD (0, [])).2.length : Int) + 1
def costL (m : Int → Option (Int × List Int)) : List Int → Int
  | [] => 0
  | x :: l => costO m x + costL m l
theorem costO_pos (m : Int → Option (Int × List Int)) (x : Int) : 1 ≤ costO m x := by unfold costO; omega
theorem costL_nonneg (m : Int → Option (Int × List Int)) : ∀ l, 0 ≤ costL m l
  | [] => Int.le_refl _
  | x :: l => by have := costL_nonneg m l; have := costO_pos m x; unfold costL; omega
theorem costL_len (m : Int → Option (Int × List Int)) : ∀ l : List Int, (l.length : Int) ≤ costL m l
  | [] => Int.le_refl _
  | x :: l => by have := costL_len m l; have := costO_pos m x; unfold costL; simp only [List.length_cons]; omega
theorem costL_congr {m m' : Int → Option (Int × List Int)} : ∀ {l : List Int}, (∀ x ∈ l, costO m x = costO m' x) → costL m l = costL m' l
  | [], _ => rfl
  | x :: l, h => by
    unfold costL
    rw [h x List.mem_cons_self, costL_congr (fun y hy => h y (List.mem_cons_of_mem _ hy))]
theorem costL_append (m : Int → Option (Int × List Int)) : ∀ a b : List Int, costL m (a ++ b) = costL m a + costL m b
  | [], b => by simp [costL]
  | x :: a, b => by
    have := costL_append m a b
    simp only [List.cons_append, costL, this]
    omega
theorem costL_split (m : Int → Option (Int × List Int)) (p : Int → Bool) : ∀ l : List Int, costL m l = costL m (l.filter p) + costL m (l.filter fun x => !p x)
  | [] => rfl
  | x :: l => by
    have := costL_split m p l
    cases hp : p x <;> simp [hp, costL, this] <;> omega
theorem goC_n (met : List Int) : ∀ (l : List Int) (s : HS) (n : Int), l.Nodup → (goC met s n l).1 = n + costL s.m (l.filter fun x => !memH met x)
  | [], s, n, _ => by simp [goC, costL]
  | x :: l, s, n, hn => by
    obtain ⟨h1, h2⟩ := List.nodup_cons.1 hn
    unfold goC
    split
    · rename_i h
      rw [goC_n met l s n h2]
      have : memH met x = true := decide_eq_true h
      simp [this]
    · rename_i h
      have hb : memH met x = false := decide_eq_false h
      rw [goC_n met l _ _ h2]
      simp only [List.filter_cons, hb, Bool.not_false, if_true, costL]
      have : costL (delM s.m x) (l.filter fun y => !memH met y) = costL s.m (l.filter fun y => !memH met y) := costL_congr (fun y hy => by
        have hy := (List.mem_filter.1 hy).1
        unfold costO delM
        rw [if_neg (show ¬ y = x from fun e => h1 (e ▸ hy))])
      rw [this]
      unfold costO
      omega
def liveL (s : HS) : List Int := ((List.range s.last).map fun i : Nat => (i : Int) + 1).filter fun x => (s.m x).isSome
theorem range_rising : ∀ (n k : Nat), ((List.range' k n).map fun i : Nat => (i : Int) + 1).Pairwise (· < ·)
  | 0, k => by simp
  | n + 1, k => by
    rw [List.range'_succ, List.map_cons, List.pairwise_cons]
    refine ⟨fun y hy => ?_, range_rising n (k + 1)⟩
    obtain ⟨i, hi, rfl⟩ := List.mem_map.1 hy
    have := (List.mem_range'_1.1 hi).1
    omega
theorem liveL_rising (s : HS) : (liveL s).Pairwise (· < ·) := by
  unfold liveL
  rw [List.range_eq_range']
  exact (range_rising s.last 0).filter _
theorem liveL_mem {s : HS} (hd : ∀ x o, s.m x = some o → 1 ≤ x ∧ x ≤ (s.last : Int)) (x : Int) : x ∈ liveL s ↔ (s.m x).isSome = true := by
  unfold liveL
  rw [List.mem_filter]
  refine ⟨fun h => h.2, fun h => ⟨?_, h⟩⟩
  obtain ⟨o, ho⟩ := Option.isSome_iff_exists.1 h
  have := hd x o ho
  refine List.mem_map.2 ⟨(x - 1).toNat, List.mem_range.2 (by omega), by omega⟩
theorem rising_nodup {l : List Int} (h : l.Pairwise (· < ·)) : l.Nodup := h.imp fun h => by omega
def SumOK (s : HS) : Prop := (∀ x o, s.m x = some o → 1 ≤ x ∧ x ≤ (s.last : Int)) ∧ s.used = costL s.m (liveL s)
theorem SumOK.collect_le {s : HS} (h : SumOK s) (met : List Int) : (goC met s 0 (liveL s)).1 ≤ s.used := by
  rw [goC_n met _ s 0 (rising_nodup (liveL_rising s)), h.2, costL_split s.m (fun x => memH met x) (liveL s)]
  have := costL_nonneg s.m ((liveL s).filter fun x => memH met x)
  omega
theorem SumOK.add {s : HS} (h : SumOK s) (c n : Int) (hn : 0 ≤ n) : SumOK (addM s c n).2.2 := by
  unfold addM
  split
  · exact h
  · refine ⟨fun x o hx => ?_, ?_⟩
    · change updM s.m ((s.last : Int) + 1) (c, List.replicate n.toNat 0) x = some o at hx
      show 1 ≤ x ∧ x ≤ ((s.last + 1 : Nat) : Int)
      unfold updM at hx
      split at hx
      · omega
      · have := h.1 x o hx; omega
    · show s.used + (n + 1) = _
      have hnone : s.m ((s.last : Int) + 1) = none := by
        cases hm : s.m ((s.last : Int) + 1) with
        | none => rfl
        | some o => have := h.1 _ o hm; omega
      have hl : liveL { s with used := s.used + (n + 1), last := s.last + 1, m := updM s.m ((s.last : Int) + 1) (c, List.replicate n.toNat 0) } = liveL s ++ [(s.last : Int) + 1] := by
        unfold liveL
        simp only [List.range_succ, List.map_append, List.map_cons, List.map_nil, List.filter_append]
        congr 1
        · refine List.filter_congr (fun x hx => ?_)
          obtain ⟨i, hi, rfl⟩ := List.mem_map.1 hx
          have := List.mem_range.1 hi
          unfold updM
          rw [if_neg (by omega)]
        · simp [updM]
      show s.used + (n + 1) = costL _ (liveL { s with used := s.used + (n + 1), last := s.last + 1, m := updM s.m ((s.last : Int) + 1) (c, List.replicate n.toNat 0) })
      rw [hl, costL_append]
      have h1 : costL (updM s.m ((s.last : Int) + 1) (c, List.replicate n.toNat 0)) (liveL s) = costL s.m (liveL s) := costL_congr (fun x hx => by
        unfold costO updM
        rw [if_neg]
        intro e
        have hx := (liveL_mem h.1 x).1 hx
        rw [e, hnone] at hx
        cases hx)
      show s.used + (n + 1) = costL (updM s.m ((s.last : Int) + 1) (c, List.replicate n.toNat 0)) (liveL s) + costL (updM s.m ((s.last : Int) + 1) (c, List.replicate n.toNat 0)) [(s.last : Int) + 1]
      rw [h1, ← h.2]
      simp [costL, costO, updM]
      omega
theorem setNum_some {m : Int → Option (Int × List Int)} {x i v : Int} (y : Int) : (setNum m x i v y).isSome = (m y).isSome := by
  unfold setNum
  split
  · rename_i e; rw [e]; simp
  · rfl
theorem setNum_cost {m : Int → Option (Int × List Int)} {x i v : Int} (y : Int) : costO (setNum m x i v) y = costO m y := by
  unfold costO setNum
  split
  · rename_i e
    rw [e]
    cases m x with
    | none => rfl
    | some o => simp
  · rfl
theorem SumOK.put {s : HS} (h : SumOK s) (x i v : Int) : SumOK (putM s x i v).2 := by
  unfold putM
  split
  · split
    · exact h
    · refine ⟨fun y o hy => ?_, ?_⟩
      · have : (s.m y).isSome = true := by rw [← setNum_some (x := x) (i := i) (v := v)]; exact Option.isSome_iff_exists.2 ⟨o, hy⟩
        obtain ⟨o', ho⟩ := Option.isSome_iff_exists.1 this
        exact h.1 y o' ho
      · show s.used = costL (setNum s.m x i v) (liveL { s with m := setNum s.m x i v })
        have hl : liveL { s with m := setNum s.m x i v } = liveL s := by
          unfold liveL
          exact List.filter_congr (fun y _ => setNum_some y)
        rw [hl, h.2]
        exact costL_congr (fun y _ => (setNum_cost y).symm)
  · exact h
def colS (s : HS) (met : List Int) : HS := { (goC met s 0 (liveL s)).2 with used := s.used - (goC met s 0 (liveL s)).1 }
theorem colS_m {s : HS} (hd : ∀ x o, s.m x = some o → 1 ≤ x ∧ x ≤ (s.last : Int)) (met : List Int) (y : Int) : (colS s met).m y = if y ∈ met then s.m y else none := by
  unfold colS
  rw [goC_s]
  show cutM met (liveL s) s.m y = _
  unfold cutM
  by_cases h : y ∈ met
  · simp [h]
  · rw [if_neg h]
    split
    · rfl
    · rename_i h2
      have : y ∉ liveL s := fun h3 => h2 ⟨h3, h⟩
      rw [liveL_mem hd] at this
      cases hm : s.m y with
      | none => rfl
      | some o => rw [hm] at this; exact absurd rfl this
theorem colS_eq (s : HS) (met : List Int) : colS s met = { s with m := cutM met (liveL s) s.m, used := s.used - (goC met s 0 (liveL s)).1 } := by
  unfold colS
  rw [goC_s]
theorem SumOK.collect {s : HS} (h : SumOK s) (met : List Int) : SumOK (colS s met) := by
  have hl : liveL (colS s met) = (liveL s).filter fun x => memH met x := by
    refine rising_same (liveL_rising _) ((liveL_rising s).filter _) (fun x => ?_)
    rw [List.mem_filter, liveL_mem h.1, liveL_mem (s := colS s met) (fun x o hx => by
      rw [colS_m h.1] at hx
      split at hx
      · have := h.1 x o hx; rw [colS_eq]; exact this
      · cases hx), colS_m h.1]
    unfold memH
    by_cases hm : x ∈ met <;> simp [hm]
  refine ⟨fun x o hx => ?_, ?_⟩
  · rw [colS_m h.1] at hx
    split at hx
    · have := h.1 x o hx; rw [colS_eq]; exact this
    · cases hx
  · rw [hl]
    have e : (colS s met).used = s.used - (goC met s 0 (liveL s)).1 := rfl
    rw [e, goC_n met _ s 0 (rising_nodup (liveL_rising s)), h.2, costL_split s.m (fun x => memH met x) (liveL s)]
    have h1 : costL (colS s met).m ((liveL s).filter fun x => memH met x) = costL s.m ((liveL s).filter fun x => memH met x) := costL_congr (fun x hx => by
      have hx : x ∈ met := of_decide_eq_true (List.mem_filter.1 hx).2
      unfold costO
      rw [colS_m h.1, if_pos hx])
    rw [h1]
    omega
end Go.Proofs.YtkjagcamikkjkaaGreat.P

end

section
namespace Go.Proofs.YtkjagcamikkjkaaGreat.P
open Go.RowKit Go.Proofs.YtkjagcamikkjkaaGreatW.PrintWords Go.Proofs.YtkjagcamikkjkaaGreatW.PrintLast Go.Proofs.YtkjagcamikkjkaaGreatW.PrintMore
attribute [local go_sem] max2_int min2_int max_two min_two max_three min_three max_four min_four
set_option linter.unusedVariables false
set_option linter.unusedSimpArgs false
def SuccM (s : HS) (x v : Int) : Prop := ∃ (o : Int × List Int) (i : Nat), s.m x = some o ∧ 0 ≤ o.1 ∧ i < (fieldsL s.l o.1).length ∧ isRefH (rd_T41 (fieldsL s.l o.1) (i : Int)).f1 = true ∧ v = o.2.getD i 0 ∧ (s.m v).isSome = true
theorem nodup_le : ∀ {l r : List Int}, l.Nodup → (∀ x ∈ l, x ∈ r) → l.length ≤ r.length
  | [], _, _, _ => Nat.zero_le _
  | x :: l, r, hn, hs => by
    obtain ⟨h1, h2⟩ := List.nodup_cons.1 hn
    have hx := hs x List.mem_cons_self
    have h3 := nodup_le (l := l) (r := r.erase x) h2 (fun y hy => (List.mem_erase_of_ne (show y ≠ x from fun e => h1 (e ▸ hy))).2 (hs y (List.mem_cons_of_mem _ hy)))
    have h4 := List.length_erase_of_mem hx
    have h5 := List.length_pos_of_mem hx
    simp only [List.length_cons]
    omega
structure StOK (s : HS) (st : List Int × List Int) : Prop where
  n1 : st.1.Nodup
  n2 : st.2.Nodup
  sub : ∀ x ∈ st.2, x ∈ st.1
  live : ∀ x ∈ st.1, (s.m x).isSome = true
theorem nodup_snoc {l : List Int} {x : Int} (h : l.Nodup) (hx : x ∉ l) : (l ++ [x]).Nodup := by
  rw [List.nodup_append]
  exact ⟨h, by simp, fun a ha b hb e => hx (by rw [List.mem_singleton.1 hb] at e; exact e ▸ ha)⟩
theorem meetM_ok {s : HS} {st : List Int × List Int} (h : StOK s st) (x : Int) : StOK s (meetM s st x) := by
  unfold meetM
  split
  · rename_i c
    refine ⟨nodup_snoc h.n1 c.2, nodup_snoc h.n2 (fun hx => c.2 (h.sub x hx)), fun y hy => ?_, fun y hy => ?_⟩
    · rcases List.mem_append.1 hy with hy | hy
      · exact List.mem_append_left _ (h.sub y hy)
      · exact List.mem_append_right _ hy
    · rcases List.mem_append.1 hy with hy | hy
      · exact h.live y hy
      · rw [List.mem_singleton.1 hy]; exact c.1
  · exact h
theorem meetM_mem {s : HS} {st : List Int × List Int} (x y : Int) : y ∈ (meetM s st x).1 ↔ y ∈ st.1 ∨ (y = x ∧ (s.m x).isSome = true) := by
  unfold meetM
  split
  · rename_i c
    rw [List.mem_append, List.mem_singleton]
    exact ⟨fun h => h.imp id (fun e => ⟨e, c.1⟩), fun h => h.imp id And.left⟩
  · rename_i c
    refine ⟨.inl, fun h => h.elim id (fun ⟨e, h2⟩ => ?_)⟩
    rw [e]
    exact Classical.byContradiction fun hn => c ⟨h2, hn⟩
theorem meetM_shut {s : HS} {st : List Int × List Int} (x y : Int) (h1 : y ∈ (meetM s st x).1) (h2 : y ∉ (meetM s st x).2) : y ∈ st.1 ∧ y ∉ st.2 := by
  unfold meetM at h1 h2
  split at h1
  · rename_i c
    rw [if_pos c] at h2
    rcases List.mem_append.1 h1 with h | h
    · exact ⟨h, fun h3 => h2 (List.mem_append_left _ h3)⟩
    · exact absurd (List.mem_append_right _ h) h2
  · rename_i c
    rw [if_neg c] at h2
    exact ⟨h1, h2⟩
theorem meetM_count {s : HS} {st : List Int × List Int} (x : Int) : (meetM s st x).1.length + st.2.length = st.1.length + (meetM s st x).2.length := by
  unfold meetM
  split
  · simp only [List.length_append, List.length_singleton]; omega
  · rfl
theorem meetAll_ok {s : HS} {fl : List S41} {nums : List Int} {st : List Int × List Int} (h : StOK s st) : ∀ i, StOK s (meetAll s fl nums i st)
  | 0 => h
  | i + 1 => by
    unfold meetAll
    split
    · exact meetM_ok (meetAll_ok h i) _
    · exact meetAll_ok h i
theorem meetAll_mem {s : HS} {fl : List S41} {nums : List Int} {st : List Int × List Int} (y : Int) : ∀ i, y ∈ (meetAll s fl nums i st).1 ↔ y ∈ st.1 ∨ ∃ j, j < i ∧ isRefH (rd_T41 fl (j : Int)).f1 = true ∧ y = nums.getD j 0 ∧ (s.m y).isSome = true
  | 0 => ⟨.inl, fun h => h.elim id (fun ⟨j, hj, _⟩ => absurd hj (Nat.not_lt_zero _))⟩
  | i + 1 => by
    have ih := meetAll_mem (s := s) (fl := fl) (nums := nums) (st := st) y i
    unfold meetAll
    split
    · rename_i c
      rw [meetM_mem, ih]
      constructor
      · rintro ((h | ⟨j, h1, h2⟩) | ⟨h1, h2⟩)
        · exact .inl h
        · exact .inr ⟨j, by omega, h2⟩
        · exact .inr ⟨i, by omega, c, h1, by rw [h1]; exact h2⟩
      · rintro (h | ⟨j, h1, h2, h3, h4⟩)
        · exact .inl (.inl h)
        · by_cases e : j = i
          · subst e; exact .inr ⟨h3, by rw [← h3]; exact h4⟩
          · exact .inl (.inr ⟨j, by omega, h2, h3, h4⟩)
    · rename_i c
      rw [ih]
      constructor
      · rintro (h | ⟨j, h1, h2⟩)
        · exact .inl h
        · exact .inr ⟨j, by omega, h2⟩
      · rintro (h | ⟨j, h1, h2, h3⟩)
        · exact .inl h
        · by_cases e : j = i
          · subst e; exact absurd h2 c
          · exact .inr ⟨j, by omega, h2, h3⟩
theorem meetAll_shut {s : HS} {fl : List S41} {nums : List Int} {st : List Int × List Int} (y : Int) : ∀ i, y ∈ (meetAll s fl nums i st).1 → y ∉ (meetAll s fl nums i st).2 → y ∈ st.1 ∧ y ∉ st.2
  | 0 => fun h1 h2 => ⟨h1, h2⟩
  | i + 1 => by
    unfold meetAll
    split
    · intro h1 h2
      obtain ⟨h3, h4⟩ := meetM_shut _ y h1 h2
      exact meetAll_shut y i h3 h4
    · exact meetAll_shut y i
theorem meetAll_count {s : HS} {fl : List S41} {nums : List Int} {st : List Int × List Int} : ∀ i, (meetAll s fl nums i st).1.length + st.2.length = st.1.length + (meetAll s fl nums i st).2.length
  | 0 => rfl
  | i + 1 => by
    have ih := meetAll_count (s := s) (fl := fl) (nums := nums) (st := st) i
    unfold meetAll
    split
    · have := meetM_count (s := s) (st := meetAll s fl nums i st) (nums.getD i 0)
      omega
    · exact ih
theorem last_split {l : List Int} (h : ¬ l.length = 0) : l = l.dropLast ++ [l.getD (l.length - 1) 0] := by
  have hne : l ≠ [] := fun e => h (by rw [e]; rfl)
  conv => lhs; rw [← List.dropLast_concat_getLast hne]
  congr 2
  rw [List.getLast_eq_getElem, List.getD_eq_getElem?_getD, List.getElem?_eq_getElem (by omega)]
  rfl
theorem markGo_tells (s : HS) (N : Nat) (hN : ∀ l : List Int, l.Nodup → (∀ x ∈ l, (s.m x).isSome = true) → l.length ≤ N) (hN2 : N < 8796093022208) :
    ∀ (k : Nat) (st : List Int × List Int), StOK s st → (∀ x ∈ st.1, x ∉ st.2 → ∀ v, SuccM s x v → v ∈ st.1) → N - st.1.length + st.2.length < k →
      ∃ r, markGo s k st = some r ∧ r.Nodup ∧ (∀ x ∈ r, (s.m x).isSome = true) ∧ (∀ x ∈ st.1, x ∈ r) ∧ (∀ x ∈ r, ∀ v, SuccM s x v → v ∈ r) ∧ ∀ P : Int → Prop, (∀ x ∈ st.1, P x) → (∀ x v, P x → SuccM s x v → P v) → ∀ x ∈ r, P x
  | 0, _, _, _, h => absurd h (Nat.not_lt_zero _)
  | k + 1, st, hok, hcl, hk => by
    unfold markGo
    by_cases h0 : st.2.length = 0
    · rw [if_pos h0]
      have e : st.2 = [] := List.eq_nil_of_length_eq_zero h0
      exact ⟨st.1, rfl, hok.n1, hok.live, fun _ h => h, fun x hx v hv => hcl x hx (by rw [e]; simp) v hv, fun P h1 _ x hx => h1 x hx⟩
    · rw [if_neg h0]
      have hsp := last_split h0
      obtain ⟨z, hz⟩ : ∃ z, z = st.2.getD (st.2.length - 1) 0 := ⟨_, rfl⟩
      rw [← hz] at hsp ⊢
      obtain ⟨q, hq⟩ : ∃ q, q = st.2.dropLast := ⟨_, rfl⟩
      rw [← hq] at hsp ⊢
      have hz2 : z ∈ st.2 := by rw [hsp]; simp
      have hz1 := hok.sub z hz2
      obtain ⟨o, ho⟩ := Option.isSome_iff_exists.1 (hok.live z hz1)
      have hql : st.2.length = q.length + 1 := by rw [hsp]; simp
      have hm1 := hN st.1 hok.n1 hok.live
      have hm2 := hN st.2 hok.n2 (fun x hx => hok.live x (hok.sub x hx))
      have hfit : (fitM st.1.length && fitM st.2.length) = true := by
        unfold fitM
        rw [decide_eq_true (by omega), decide_eq_true (by omega)]
        rfl
      have hqn : q.Nodup ∧ z ∉ q := by
        have := hok.n2
        rw [hsp, List.nodup_append] at this
        exact ⟨this.1, fun hh => this.2.2 z hh z (by simp) rfl⟩
      have hok' : StOK s (st.1, q) := ⟨hok.n1, hqn.1, fun x hx => hok.sub x (by rw [hsp]; exact List.mem_append_left _ hx), hok.live⟩
      rw [ho]
      simp only [hfit, if_true]
      by_cases hc : o.1 < 0
      · rw [if_pos hc]
        obtain ⟨r, h1, h2, h3, h4, h5, h6⟩ := markGo_tells s N hN hN2 k (st.1, q) hok' (fun x hx hxq v hv => by
          by_cases e : x = z
          · obtain ⟨o', i, ho', hc', _⟩ := hv
            rw [e, ho] at ho'
            cases ho'
            omega
          · exact hcl x hx (fun hh => by rw [hsp] at hh; rcases List.mem_append.1 hh with hh | hh; exact hxq hh; exact e (List.mem_singleton.1 hh)) v hv) (by show N - st.1.length + q.length < k; omega)
        exact ⟨r, h1, h2, h3, h4, h5, h6⟩
      · rw [if_neg hc]
        obtain ⟨st', hst⟩ : ∃ st', st' = meetAll s (fieldsL s.l o.1) o.2 (fieldsL s.l o.1).length (st.1, q) := ⟨_, rfl⟩
        rw [← hst]
        have ok2 : StOK s st' := by rw [hst]; exact meetAll_ok hok' _
        have hmem : ∀ y, y ∈ st'.1 ↔ y ∈ st.1 ∨ SuccM s z y := fun y => by
          rw [hst, meetAll_mem]
          refine or_congr Iff.rfl ⟨fun ⟨j, h1, h2, h3, h4⟩ => ⟨o, j, ho, by omega, h1, h2, h3, h4⟩, fun ⟨o', j, ho', h0', h1, h2, h3, h4⟩ => ?_⟩
          rw [ho] at ho'
          cases ho'
          exact ⟨j, h1, h2, h3, h4⟩
        have hcount : st'.1.length + q.length = st.1.length + st'.2.length := by rw [hst]; exact meetAll_count _
        have hm3 := hN st'.1 ok2.n1 ok2.live
        have hge : st.1.length ≤ st'.1.length := by
          exact nodup_le hok.n1 (fun x hx => (hmem x).2 (.inl hx))
        obtain ⟨r, h1, h2, h3, h4, h5, h6⟩ := markGo_tells s N hN hN2 k st' ok2 (fun x hx hxq v hv => by
          have hsh : x ∈ st.1 ∧ x ∉ q := by
            rw [hst] at hx hxq
            exact meetAll_shut x _ hx hxq
          by_cases e : x = z
          · exact (hmem v).2 (.inr (e ▸ hv))
          · exact (hmem v).2 (.inl (hcl x hsh.1 (fun hh => by rw [hsp] at hh; rcases List.mem_append.1 hh with hh | hh; exact hsh.2 hh; exact e (List.mem_singleton.1 hh)) v hv))) (by omega)
        refine ⟨r, h1, h2, h3, fun x hx => h4 x ((hmem x).2 (.inl hx)), h5, fun P p1 p2 x hx => h6 P (fun y hy => ?_) p2 x hx⟩
        rcases (hmem y).1 hy with hy | hy
        · exact p1 y hy
        · exact p2 z y (p1 z hz1) hy
structure Reached (s : HS) (roots met : List Int) : Prop where
  nd : met.Nodup
  live : ∀ x ∈ met, (s.m x).isSome = true
  has : ∀ x ∈ roots, (s.m x).isSome = true → x ∈ met
  shut : ∀ x ∈ met, ∀ v, SuccM s x v → v ∈ met
  least : ∀ P : Int → Prop, (∀ x ∈ roots, (s.m x).isSome = true → P x) → (∀ x v, P x → SuccM s x v → P v) → ∀ x ∈ met, P x
theorem rootsM_tells (s : HS) : ∀ (roots : List Int) (st : List Int × List Int), StOK s st → (∀ x ∈ st.1, x ∈ st.2) → (∀ x ∈ roots, x ≠ 0 → (s.m x).isSome = true) →
    ∃ st', rootsM s roots st = some st' ∧ StOK s st' ∧ (∀ x ∈ st'.1, x ∈ st'.2) ∧ ∀ y, y ∈ st'.1 ↔ y ∈ st.1 ∨ (y ∈ roots ∧ (s.m y).isSome = true)
  | [], st, h1, h2, _ => ⟨st, rfl, h1, h2, fun y => by simp⟩
  | x :: r, st, h1, h2, h3 => by
    unfold rootsM
    rw [if_neg (fun h => by have := h3 x List.mem_cons_self h.1; rw [h.2] at this; cases this)]
    obtain ⟨st', e1, e2, e3, e4⟩ := rootsM_tells s r (meetM s st x) (meetM_ok h1 x) (fun y hy => Classical.byContradiction fun hn => by
      obtain ⟨q1, q2⟩ := meetM_shut x y hy hn
      exact q2 (h2 y q1)) (fun y hy => h3 y (List.mem_cons_of_mem _ hy))
    refine ⟨st', e1, e2, e3, fun y => ?_⟩
    rw [e4, meetM_mem, List.mem_cons]
    constructor
    · rintro ((h | ⟨h, h'⟩) | ⟨h, h'⟩)
      · exact .inl h
      · exact .inr ⟨.inl h, by rw [h]; exact h'⟩
      · exact .inr ⟨.inr h, h'⟩
    · rintro (h | ⟨h | h, h'⟩)
      · exact .inl (.inl h)
      · exact .inl (.inr ⟨h, by rw [← h]; exact h'⟩)
      · exact .inr ⟨h, h'⟩
theorem rootsM_bad (s : HS) : ∀ (roots : List Int) (st : List Int × List Int), (∃ x ∈ roots, x ≠ 0 ∧ s.m x = none) → rootsM s roots st = none
  | [], _, ⟨x, hx, _⟩ => by cases hx
  | x :: r, st, ⟨y, hy, h⟩ => by
    unfold rootsM
    split
    · rfl
    · rename_i c
      rcases List.mem_cons.1 hy with e | hy
      · exact absurd (e ▸ h) c
      · exact rootsM_bad s r _ ⟨y, hy, h⟩
theorem mark_bad (s : HS) (k : Nat) (roots : List Int) (h : ∃ x ∈ roots, x ≠ 0 ∧ s.m x = none) : markM k s roots = some none := by
  unfold markM
  rw [rootsM_bad s roots _ h]
theorem mark_good (s : HS) (N : Nat) (hN : ∀ l : List Int, l.Nodup → (∀ x ∈ l, (s.m x).isSome = true) → l.length ≤ N) (hN2 : N ≤ 4096) (roots : List Int) (h : ∀ x ∈ roots, x ≠ 0 → (s.m x).isSome = true) : ∃ met, markM 8193 s roots = some (some met) ∧ Reached s roots met := by
  obtain ⟨st, e1, e2, e3, e4⟩ := rootsM_tells s roots ([], []) ⟨by simp, by simp, by simp, by simp⟩ (by simp) h
  have hm2 := hN st.2 e2.n2 (fun x hx => e2.live x (e2.sub x hx))
  obtain ⟨r, h1, h2, h3, h4, h5, h6⟩ := markGo_tells s N hN (by omega) 8193 st e2 (fun x hx hn => absurd (e3 x hx) hn) (by omega)
  refine ⟨r, by unfold markM; rw [e1]; simp only [h1]; rfl, h2, h3, fun x hx hl => h4 x ((e4 x).2 (.inr ⟨hx, hl⟩)), h5, fun P p1 p2 x hx => h6 P (fun y hy => ?_) p2 x hx⟩
  rcases (e4 y).1 hy with hy | ⟨hy, hl⟩
  · cases hy
  · exact p1 y hy hl
theorem SumOK.few {s : HS} (h : SumOK s) {N : Nat} (hu : s.used ≤ N) : ∀ l : List Int, l.Nodup → (∀ x ∈ l, (s.m x).isSome = true) → l.length ≤ N := fun l hn hl => by
  have h1 : l.length ≤ (liveL s).length := nodup_le hn (fun x hx => (liveL_mem h.1 x).2 (hl x hx))
  have h2 := costL_len s.m (liveL s)
  have := h.2
  omega
end Go.Proofs.YtkjagcamikkjkaaGreat.P

end

section
namespace Go.Proofs.YtkjagcamikkjkaaGreat.P
open Go.RowKit Go.Proofs.YtkjagcamikkjkaaGreatW.PrintWords Go.Proofs.YtkjagcamikkjkaaGreatW.PrintLast Go.Proofs.YtkjagcamikkjkaaGreatW.PrintMore
attribute [local go_sem] max2_int min2_int max_two min_two max_three min_three max_four min_four
set_option linter.unusedVariables false
set_option linter.unusedSimpArgs false
def slices_Clone_Field_Field.f (l0 : List S41) : Option (List S41) := if l0.length < 5864062014805 then some l0 else none
set_option maxHeartbeats 800000 in
set_option maxRecDepth 100000 in
theorem slices_Clone_Field_Field.calls (A0 : Option Addr) (c0 : Nat) (l0 : List S41) (r : List S41) (w : World) (hr0 : Kd.C k41 w A0 l0.length l0) (hc0 : l0.length ≤ c0) (h : slices_Clone_Field_Field.f l0 = some r) :
    Calls Tryz.prog 10 #[.slice A0 l0.length c0] w fun e w' => ∃ v0_ : Value, e = .returned v0_ ∧ Kd.R k41 41 w' w.heap.size (fun _ => True) v0_ r ∧ Below w.heap.size w w' := by
  obtain ⟨hlim, rfl⟩ : l0.length < 5864062014805 ∧ r = l0 := by
    unfold slices_Clone_Field_Field.f at h
    split at h
    · rename_i h9
      exact ⟨h9, (Option.some.inj h).symm⟩
    · cases h
  have hnil := Lib.run_eql_slice_nil (P := Tryz.prog) (h := Tryz.underlying36)
  have HR := Aside0.mk hr0
  have HL := Aside0.mk hlim
  cases A0 with
  | none =>
    have e0 : r = [] := by
      rcases Nat.eq_zero_or_pos r.length with h0 | h0
      · exact List.length_eq_zero_iff.1 h0
      · obtain ⟨ad, e, _⟩ := hr0.2.2 h0
        cases e
    have E0 := Aside0.mk e0
    clear h hr0 hlim e0
    go_enter Tryz.func10, Tryz.ntmps10
    go_wp2
    go_ret
    refine ⟨_, rfl, ?_, Below.refl _ _⟩
    rw [E0.out]
    exact Kd.R_nil _ _ _ _ _
  | some ad =>
    clear h hr0 hlim
    go_enter Tryz.func10, Tryz.ntmps10
    go_wp2_with (first | ((with_reducible refine gate_dst (N := 5) rfl ?_); refine Kd.R_lit k41 _ 41 ?hg (N := 5) ?hd (xs := ([] : List S41)) (inner := []) (ok := fun _ => True) (okp := fun _ => True) ?hr ?hp (fun _ hk => hk) trivial (Below.refl _ _) (Nat.le_refl _) (by simp) ?_; (case hd => rfl); (case hg => rfl); (case hr => first | (go_simp; done) | (go_simp; rfl)); (case hp => exact (Reps.none _ _)); intro v1 w1 ho1 hb1 _ _; have n1 := Aside0.mk ho1; have n2 := Aside0.mk hb1; clear ho1 hb1; obtain ⟨A1, c1, e1⟩ := Kd.R_slice n1.out; subst e1) | ((with_reducible refine gate_builtin (b := .append) (xs := #[.tmp 5, .tmp 6]) rfl ?_); at_builtin; refine Kd.R_append_rows k41 (w0 := w) w.heap.size rfl (.tmp 5) (.tmp 6) 36 41 (.agg #[(.string ⟨#[]⟩), (.int .u8 0)]) 24 rfl Tryz.underlying36 info41 rfl (by decide) (by omega) (.slice A1 (([] : List S41)).length c1) ([] : List S41) r _ _ _ (fun _ => True) (fun _ => False) rfl rfl ?aO ?aR (fun _ _ h => h) (fun _ h => h.elim) ?aF ?aB ?aS ?aL ?_; (case aR => exact Kd.C_below HR.out n2.out); (case aB => exact n2.out); (case aF => exact (fun _ _ => trivial)); (case aO => exact n1.out); (case aS => exact n2.out.size); (case aL => have h9 := HL.out; simp only [List.length_nil]; omega); intro v2 w2 ho2 hb2 _ _; have n3 := Aside0.mk ho2; have n4 := Aside0.mk hb2; clear ho2 hb2))
    go_ret
    exact ⟨_, rfl, n3.out, n4.out⟩
section
variable {P : Program}
theorem run_append1 (w : World) (base : Nat) (t ty e : TypeId) (i : TypeInfo) (z : Value) (ht : P.underlying t = some (.slice e)) (hi : P.info? e = some i) (hz : i.zero = some z) (hzs : z.cells.size = i.size) (hsz : 0 < i.size)
    (v : Value) (n : Nat) (xs : List Value) (hown : w.ownsRow base e i.size v n xs) (a : Addr) (c : Nat) (news : List Value) (hl : news.length = 1 * i.size) (hnews : ∀ j u, news[j]? = some u → w.cell? (a.add j) = some u) (h1 : ∀ u ∈ news, u.oneCell' = true)
    (h63 : n + 1 ≤ maxLen) (hb1 : i.bytes ≤ 140737488355328) (hfit : Builtin.nextslicecap (n + 1) n * i.bytes ≤ 281474976710656) (hbase : base ≤ w.heap.size) :
    ∃ v' w', (Builtin.append_ #[t, t] ty #[v, .slice (some a) 1 c]).run P w = .ok v' w' ∧ w'.ownsRow base e i.size v' (n + 1) (xs ++ news) ∧ w.grownBy w' v.ownBlock ∧ (v'.ownBlock = v.ownBlock ∨ v'.ownBlock = some w.heap.size) := by
  rcases hown.2 with ⟨rfl, rfl⟩ | ⟨g, cap, cur, rfl, hbg, hg, hnc, hcm, hcs, htake⟩
  · obtain ⟨v', w', h2, h3, h4, _, h5⟩ := run_append_own_at (P := P) w base t ty e i z i.size i.bytes ht hi hz rfl rfl hzs hsz _ 0 xs hown a 1 c news hl hnews h1 (by omega) (by omega) hbase
    exact ⟨v', w', h2, h3, h4, h5⟩
  · have hsmall : n + 1 ≤ 9223372036854775807 := by simp only [maxLen] at h63; omega
    have hlen : (xs ++ news).length = (n + 1) * i.size := by rw [List.length_append, hown.1, hl, Nat.add_mul]
    by_cases hroom : n + 1 ≤ cap
    · have hfit2 : n * i.size + news.length ≤ cur.size := by rw [hl, hcs, ← Nat.add_mul]; exact Nat.mul_le_mul_right _ hroom
      have hr := run_append_room (P := P) w t ty e i ht hi g n cap cur hg a 1 c news hl hnews h1 hroom hfit2
      refine ⟨_, _, hr, ⟨hlen, .inr ⟨g, cap, _, rfl, hbg, setRow_heap w g cur _ e _ hg, hroom, hcm, ?_, ?_⟩⟩, ⟨rfl, rfl, rfl, by simp, fun k _ hk => setRow_other w g k _ (fun e => hk (by simp [Value.ownBlock, e]))⟩, Or.inl rfl⟩
      · simp only [List.size_toArray, List.length_append, List.length_take, List.length_drop, Array.length_toList]
        omega
      · rw [htake, ← hlen]
        exact List.take_left
    · have hcap : cap = n := by omega
      subst hcap
      have holds : ∀ j u, xs[j]? = some u → w.cell? ((⟨g, 0, none⟩ : Addr).add j) = some u := hown.cells (g := g) rfl
      have hr := run_append_grow (P := P) w t ty e i z ht hi hz ⟨g, 0, none⟩ cap cap xs hown.1 holds a 1 c news hl hnews (by omega) (by omega) hfit
      have hge := grownCap_ge w (cap + 1) cap e
      have hcm2 : grownCap w (cap + 1) cap e ≤ maxLen := grownCap_le_maxLen w (cap + 1) cap e h63
      refine ⟨_, _, hr, ⟨hlen, .inr ⟨w.heap.size, _, _, rfl, hbase, heap_alloc_new w.drew _, hge, hcm2, ?_, ?_⟩⟩, ⟨rfl, rfl, rfl, by simp, fun k hk _ => heap_alloc_old w.drew _ hk⟩, Or.inr rfl⟩
      · simp only [Array.size_append, List.size_toArray, size_zeroCells, hzs, hown.1, hl, ← Nat.add_mul]
        congr 1
        omega
      · simp only [Array.toList_append, List.append_assoc]
        rw [← List.append_assoc, ← hlen]
        exact List.take_left
section
variable {ops : Array Oper} {rest : List Oper} {o : Oper} {a : Act} {Q : Exit → Act → World → Prop}
theorem R_append1_wp {K : Act → World → Prop} {α : Type} (d : Kd α) {w0 W : World} (base : Nat) (hgd : o.guard = none) (s x : Operand) (t e : TypeId) (z : Value) (bytes : Nat)
    (ho : o.op = .call { callee := .builtin .append, args := #[s, x], argTypes := #[t, t] })
    (ht : P.underlying t = some (.slice e)) (hinfo : (P.info? e).map (fun i => (i.zero, i.size, i.bytes)) = some (some z, d.sz, bytes)) (hz : z.cells.size = d.sz) (hs0 : 0 < d.sz) (hb1 : bytes ≤ 140737488355328)
    (v : Value) (xs : List α) (p : α) (cs : List Value) (ok okp : Nat → Prop) (hs : a.eval s = v) (hx : a.eval x = .slice (some ⟨W.heap.size, 0, none⟩) 1 1) (hp : d.M W base okp p cs) (hokp : ∀ k, okp k → ok k ∧ some k ≠ v.ownBlock) (hfresh : ∀ k, W.heap.size ≤ k → ok k)
    (HO : d.R e W base ok v xs) (HB : Below base w0 W) (hbase : base ≤ W.heap.size) (hl : xs.length + 1 ≤ maxLen) (hfit : Builtin.nextslicecap (xs.length + 1) xs.length * bytes ≤ 281474976710656)
    (h : ∀ v1 w1, d.R e w1 base ok v1 (xs ++ [p]) → Below base w0 w1 → W.grownBy w1 v.ownBlock → (v1.ownBlock = v.ownBlock ∨ ∃ b, v1.ownBlock = some b ∧ W.heap.size ≤ b) → K (a.put o.dst v1) w1) :
    Oper.wp P o a (W.alloc (.cells cs.toArray e)) K Q := by
  obtain ⟨h0, inner, hown, hr⟩ := HO
  obtain ⟨i0, hi, hzz⟩ := Option.map_eq_some_iff.1 hinfo
  simp only [Prod.mk.injEq] at hzz
  obtain ⟨hz0, hz1, hz2⟩ := hzz
  have hcl : cs.length = d.sz := d.K_len (d.K_of_M hp)
  rw [← hz1] at hown hz hs0 hcl
  obtain ⟨v1, w1, hrun, hown1, hg, hat⟩ := run_append1 (P := P) (W.alloc (.cells cs.toArray e)) base t o.type e i0 z ht hi hz0 hz hs0 v xs.length inner (hown.alloc _) ⟨W.heap.size, 0, none⟩ 1 cs (by rw [hcl]; simp)
    (by simpa using World.news_of_block (cs := cs.toArray) (t := e) (fr := (0, 0)) (heap_alloc_new W (.cells cs.toArray e))) (d.K_one (d.K_of_M hp)) hl (by rw [hz2]; exact hb1) (by rw [hz2]; exact hfit) (by simp; omega)
  unfold Oper.wp execOp
  simp only [ho, resolve, invoke, builtin, Sem.run_bind, Sem.run_pure, Result.andThen_ok, List.map_toArray, List.map_cons, List.map_nil, hs, hx, hrun]
  have hg2 : W.grownBy w1 v.ownBlock := World.grownBy.trans (World.grownBy_alloc W _ _) hg
  have hat2 : v1.ownBlock = v.ownBlock ∨ ∃ b, v1.ownBlock = some b ∧ W.heap.size ≤ b := by
    rcases hat with hat | hat
    · exact .inl hat
    · exact .inr ⟨_, hat, by simp⟩
  rw [hz1] at hown1 hown
  exact (h v1 w1 (Kd.R_appended h0 hr hp hokp hfresh hown1 hg2 hat2) ((HB.alloc hbase _).grown hg (by simp; omega) (own_base hown)) hg2 hat2)
end
end
theorem cls_M {W : World} {base : Nat} {ok : Nat → Prop} {x : S38} {v : Value} (h : Kd.R k41 41 W base ok v x.f2) : Kd.M k38 W base ok x [.string x.f0, .int .i64 x.f1, v] :=
  ⟨[.string x.f0], [.int .i64 x.f1, v], rfl, rfl, [.int .i64 x.f1], [v], rfl, rfl, v, rfl, h⟩
theorem cls_fits {n : Nat} (h : n ≤ 4398046511104) : Builtin.nextslicecap (n + 1) n * 48 ≤ 281474976710656 := by
  unfold Builtin.nextslicecap
  split
  · omega
  · split
    · omega
    · have h1 : ∀ r c : Nat, n + 1 ≤ c → Builtin.growBy (n + 1) r c = c := fun r c hc => by
        cases r with
        | zero => rfl
        | succ r => unfold Builtin.growBy; rw [if_pos hc]
      unfold Builtin.growBy
      rw [if_neg (by omega), h1 3 _ (by omega)]
      omega
theorem rd_mem_c {l : List S38} {j : Nat} (h : j < l.length) : rd_T38 l (j : Int) ∈ l := by
  unfold rd_T38
  rw [Int.toNat_natCast, List.getD_eq_getElem?_getD, List.getElem?_eq_getElem h]
  exact List.getElem_mem h
set_option maxHeartbeats 1600000 in
set_option maxRecDepth 100000 in
theorem hp_New (k : Nat) (A0 : Option Addr) (c0 : Nat) (l0 : List S38) (room : Int) (r1 r2 : Int) (w : World) (hr0 : Kd.C k38 w A0 l0.length l0) (hc0 : l0.length ≤ c0) (hl : l0.length < 4398046511104) (hfl : ∀ c ∈ l0, c.f2.length < 5864062014805) (h : types_Check.f k l0 = some (r1, r2)) :
    Calls Tryz.prog 5 #[.slice A0 l0.length c0, .int .i64 room] w fun e w' => ((room < 0 ∨ room > 4096) ∧ e = .returned (.tuple #[.pointer none, .int .i64 1]) ∧ Below w.heap.size w w') ∨ (0 ≤ room ∧ room ≤ 4096 ∧ r2 ≠ 0 ∧ e = .returned (.tuple #[.pointer none, .int .i64 r2]) ∧ Below w.heap.size w w') ∨ (0 ≤ room ∧ room ≤ 4096 ∧ r2 = 0 ∧ ∃ (hb B : Nat) (vc : Value), e = .returned (.tuple #[.pointer (some ⟨hb, 0, none⟩), .int .i64 0]) ∧ HeapAt w ⟨hb, B, vc, l0, room, 0, 0, fun _ => none, fun _ => False, w⟩ w') := by
  have HR := Aside0.mk hr0
  have HC := Aside0.mk hc0
  have HL := Aside0.mk hl
  have HF := Aside0.mk hfl
  have HK := Aside0.mk h
  clear hr0 hc0 hl hfl h
  by_cases ca : room < 0
  · have d1 : decide (room < 0) = true := decide_eq_true ca
    have HCA := Aside0.mk ca
    clear ca
    go_enter Tryz.func5, Tryz.ntmps5
    go_wp2
    go_ret2
    exact Or.inl ⟨Or.inl HCA.out, rfl, Below.refl _ _⟩
  have d1 : decide (room < 0) = false := decide_eq_false ca
  have h0 := Aside0.mk (show 0 ≤ room by omega)
  clear ca
  by_cases cb : room > 4096
  · have d2 : decide (room > 4096) = true := decide_eq_true cb
    have d2b : decide (4096 < room) = true := decide_eq_true cb
    have HCB := Aside0.mk cb
    clear cb
    go_enter Tryz.func5, Tryz.ntmps5
    go_wp2
    go_ret2
    exact Or.inl ⟨Or.inr HCB.out, rfl, Below.refl _ _⟩
  have d2 : decide (room > 4096) = false := decide_eq_false cb
  have d2b : decide (4096 < room) = false := decide_eq_false cb
  have h1 := Aside0.mk (show room ≤ 4096 by omega)
  clear cb
  by_cases cr : r2 = 0
  · subst cr
    go_enter Tryz.func5, Tryz.ntmps5
    go_wp2_with fail
    refine (types_Check.calls k A0 c0 l0 r1 0 w HR.out HC.out HK.out).mono ?_
    rintro e w1 ⟨rfl, hb⟩
    have HBW := Aside0.mk hb
    clear hb
    go_wp2_with ((with_reducible refine gate_dst (N := 26) rfl ?_); refine pm_make rfl rfl ?_; intro hM; have HM := Aside0.mk hM; have hb9 := below_alloc (Below.refl w1.heap.size w1) (.map #[] 0); have HX := Aside0.mk ((Rws.nil w).step HBW.out); replace HX := Aside0.mk (HX.out.step hb9); have HSZ := Aside0.mk HBW.out.size; have HBB := Aside0.mk (Nat.le_refl w1.heap.size); clear hM hb9; obtain ⟨B, hB⟩ : ∃ B, B = w1.heap.size := ⟨_, rfl⟩; have HBE := Aside0.mk hB; rw [← hB] at HM ⊢; clear hB; generalize w1.alloc (.map #[] 0) = w5 at HX HM ⊢)
    have hX := HX.out.add 54 #[.slice none 0 0, .int .i64 room, .int .i64 0, .int .i64 0, .map (some B)]
    have hb9 := below_alloc (Below.refl w5.heap.size w5) (.cells #[.slice none 0 0, .int .i64 room, .int .i64 0, .int .i64 0, .map (some B)] 54 (0, 0))
    replace HM := Aside0.mk (HM.out.block (hb9.block _ HM.out.lt))
    have HBL : Aside0 (w.heap.size ≤ B) := ⟨by have h1 := HBE.out; have h2 := HSZ.out; omega⟩
    clear hb9 HX HBE HBB
    obtain ⟨hb, hhb⟩ : ∃ hb, hb = w5.heap.size := ⟨_, rfl⟩
    rw [← hhb] at hX ⊢
    clear hhb
    generalize w5.alloc (.cells #[.slice none 0 0, .int .i64 room, .int .i64 0, .int .i64 0, .map (some B)] 54 (0, 0)) = w6 at hX HM ⊢
    have HX := Aside0.mk hX
    clear hX
    go_loopw [31] (fun v31 wr => ∃ (j : Nat) (v : Value), v31 = .int .i64 (j : Int) ∧ j ≤ l0.length ∧ Aside0 (Rws w [(hb, 54, #[v, .int .i64 room, .int .i64 0, .int .i64 0, .map (some B)])] wr) ∧ Aside0 (PMap wr B 0 (fun _ => none)) ∧ Aside0 (Kd.R k38 38 wr w.heap.size (fun _ => True) v (l0.take j))) (fun v31 _ => ((l0.length : Int) - intOf v31).toNat)
    case atStart => exact ⟨0, _, rfl, Nat.zero_le _, HX, HM, ⟨Kd.R_nil _ _ _ _ _⟩⟩
    case round =>
      rename_i wr
      clear HX HM
      obtain ⟨j, v, rfl, hj, HX, HM, HV⟩ := hrel
      have HBW2 := Aside0.mk HX.out.below
      by_cases c1 : j < l0.length
      · have c1b : decide ((j : Int) < (l0.length : Int)) = true := decide_eq_true (by omega)
        have c1c : decide (j < l0.length) = true := decide_eq_true c1
        have p5 : (0 ≤ (j : Int)) = True := eq_true (by omega)
        have p6 : ((j : Int) < (l0.length : Int)) = True := eq_true (by omega)
        have HJ := Aside0.mk c1
        have HW := Aside0.mk (wrap_h c1 (by have := HL.out; omega))
        obtain ⟨x, hx⟩ : ∃ x, x = rd_T38 l0 (j : Int) := ⟨_, rfl⟩
        obtain ⟨ad, A2, c2, e1, hx0, hx1, hx2, hx3, hx4⟩ := at_T38 (Kd.C_below HR.out HBW2.out) (j : Int) (by omega) (by omega)
        cases e1
        rw [← hx, Int.toNat_natCast] at hx0 hx1 hx2
        rw [← hx] at hx3 hx4
        have HF4 := Aside0.mk hx4
        have HF3 := Aside0.mk hx3
        have HXX := Aside0.mk hx
        have HFL := Aside0.mk (HF.out x (by rw [hx]; exact rd_mem_c c1))
        clear c1 hx hx4 hx3
        go_wp2_with fail
        have hX := HX.out.add 38 #[.string x.f0, .int .i64 x.f1, .slice A2 x.f2.length c2]
        have hb9 := below_alloc (Below.refl wr.heap.size wr) (.cells #[.string x.f0, .int .i64 x.f1, .slice A2 x.f2.length c2] 38 (0, 0))
        have hs9 : wr.heap.size < (wr.alloc (.cells #[.string x.f0, .int .i64 x.f1, .slice A2 x.f2.length c2] 38 (0, 0))).heap.size := by simp
        replace HM := Aside0.mk (HM.out.block (hb9.block _ HM.out.lt))
        replace HV := Aside0.mk (Kd.R_mono (Kd.R_below (Kd.R_bound HV.out) hb9) (fun k hk => (show k < wr.heap.size from hk.2.2.1)))
        replace HF4 := Aside0.mk (Kd.C_below HF4.out hb9)
        clear HX hb9 hx0 hx1 hx2
        obtain ⟨b10, hb10⟩ : ∃ b10, b10 = wr.heap.size := ⟨_, rfl⟩
        rw [← hb10] at hX hs9 HV ⊢
        have HB10 := Aside0.mk (show w.heap.size ≤ b10 from by rw [hb10]; exact HBW2.out.size)
        clear hb10
        generalize wr.alloc (.cells #[.string x.f0, .int .i64 x.f1, .slice A2 x.f2.length c2] 38 (0, 0)) = w10 at hX hs9 HM HV HF4 ⊢
        have HX := Aside0.mk hX
        have HS9 := Aside0.mk hs9
        clear hX hs9
        refine (slices_Clone_Field_Field.calls A2 c2 x.f2 x.f2 _ HF4.out HF3.out (by unfold slices_Clone_Field_Field.f; rw [if_pos HFL.out])).mono ?_
        rintro e w11 ⟨v37, rfl, hV, hbb⟩
        replace HX := Aside0.mk (HX.out.step hbb)
        replace HM := Aside0.mk (HM.out.block (hbb.block _ HM.out.lt))
        replace HV := Aside0.mk (Kd.R_below HV.out hbb)
        have HS11 := Aside0.mk hbb.size
        obtain ⟨A9, c9, e9⟩ := Kd.R_slice hV
        subst e9
        have HC9 := Aside0.mk (Kd.R_mono (Kd.R_bound hV) (fun k hk => (show w10.heap.size ≤ k from hk.2.1)))
        clear hV hbb
        go_wp2_with ((with_reducible refine gate_store (t := 36) (p := 38) rfl ?_); refine rw_cell rfl 36 rfl (i := 2) rfl (u := .slice A9 x.f2.length c9) rfl rfl [] HX.out (by show (2 : Nat) < 3; decide) (by kernel_rfl) ?_; intro w12 hX hk9; replace HM := Aside0.mk (HM.out.block (hk9.2 _ HM.out.lt (HM.out.ne (HX.out.mem List.mem_cons_self)))); replace HV := Aside0.mk (Kd.R_step HV.out (fun k ho hk => hk9.2 k hk (Nat.ne_of_lt ho))); replace HC9 := Aside0.mk (Kd.R_step HC9.out (fun k ho hk => hk9.2 k hk (by have := HS9.out; omega))); replace HX : Aside0 (Rws w [(b10, 38, #[.string x.f0, .int .i64 x.f1, .slice A9 x.f2.length c9]), (hb, 54, #[v, .int .i64 room, .int .i64 0, .int .i64 0, .map (some B)])] w12) := ⟨hX⟩; clear hX hk9)
        (try simp only [Act.put, List.setIfInBounds_toArray, List.set_cons_zero, List.set_cons_succ])
        refine wp_region_held_drew (S := fun w' => w'.heap[b10]? = some (.cells #[.string x.f0, .int .i64 x.f1, .slice A9 x.f2.length c9] 38 (0, 0))) (by kernel_rfl) ?_ (fun hHeld => ?_)
        · exact HX.out.mem List.mem_cons_self
        replace HX : Aside0 (Rws w [(b10, 38, #[.string x.f0, .int .i64 x.f1, .slice A9 x.f2.length c9]), (hb, 54, #[v, .int .i64 room, .int .i64 0, .int .i64 0, .map (some B)])] w12.drew) := ⟨HX.out.step (pw_below_drewN (Below.refl _ _) 1)⟩
        replace HM : Aside0 (PMap w12.drew B 0 fun _ => none) := ⟨HM.out⟩
        replace HV := Aside0.mk (Kd.R_step (w1 := w12.drew) HV.out (fun _ _ _ => rfl))
        replace HC9 := Aside0.mk (Kd.R_step (w1 := w12.drew) HC9.out (fun _ _ _ => rfl))
        refine take_dst (i := 0) (v := ?_) 39 rfl rfl (by kernel_rfl) (by kernel_rfl) (by kernel_rfl) (fun _ _ _ h => h) (Or.inl ⟨by rfl, ?_⟩) (by assumption) ?_
        rotate_left
        · intro w hSw
          have g0 := blk_cell hSw 0
          have g1 := blk_cell hSw 1
          have g2 := blk_cell hSw 2
          go_simp
          try with_reducible rfl
        (try simp only [Act.put, List.setIfInBounds_toArray, List.set_cons_zero, List.set_cons_succ])
        refine take_dst (i := 1) (v := ?_) 40 rfl rfl (by kernel_rfl) (by kernel_rfl) (by kernel_rfl) (fun _ _ _ h => h) (Or.inl ⟨by rfl, ?_⟩) (by assumption) ?_
        rotate_left
        · intro w hSw
          have g0 := blk_cell hSw 0
          have g1 := blk_cell hSw 1
          have g2 := blk_cell hSw 2
          go_simp
          try with_reducible rfl
        (try simp only [Act.put, List.setIfInBounds_toArray, List.set_cons_zero, List.set_cons_succ])
        refine take_dst (i := 2) (v := ?_) 41 rfl rfl (by kernel_rfl) (by kernel_rfl) (by kernel_rfl) (fun _ _ _ h => h) (Or.inl ⟨by rfl, ?_⟩) (by assumption) ?_
        rotate_left
        · intro w hSw
          have g0 := blk_cell hSw 0
          have g1 := blk_cell hSw 1
          have g2 := blk_cell hSw 2
          go_simp
          try with_reducible rfl
        (try simp only [Act.put, List.setIfInBounds_toArray, List.set_cons_zero, List.set_cons_succ])
        refine take_dst (i := 3) (v := ?_) 42 rfl rfl (by kernel_rfl) (by kernel_rfl) (by kernel_rfl) (fun _ _ _ h => h) (Or.inl ⟨by rfl, ?_⟩) (by assumption) ?_
        rotate_left
        · intro w hSw
          have g0 := blk_cell hSw 0
          have g1 := blk_cell hSw 1
          have g2 := blk_cell hSw 2
          go_simp
          try with_reducible rfl
        (try simp only [Act.put, List.setIfInBounds_toArray, List.set_cons_zero, List.set_cons_succ])
        refine take_dst (i := 5) (v := ?_) 44 rfl rfl (by kernel_rfl) (by kernel_rfl) (by kernel_rfl) (fun _ _ _ h => h) (Or.inl ⟨by rfl, ?_⟩) (by assumption) ?_
        rotate_left
        · intro w hSw
          have g0 := blk_cell hSw 0
          have g1 := blk_cell hSw 1
          have g2 := blk_cell hSw 2
          go_simp
          try with_reducible rfl
        (try simp only [Act.put, List.setIfInBounds_toArray, List.set_cons_zero, List.set_cons_succ])
        generalize w12.drew = w13 at HX HM HV HC9 hHeld ⊢
        refine wpAnyH_ready (rs := [4, 6]) (by kernel_rfl) (by simp) ?_
        refine AllReadyH.cons rfl (fun K hK => ?_) (AllReadyH.cons rfl (fun K hK => ?_) AllReadyH.nil)
        · have f3 := blk_cell (HX.out.mem (List.mem_cons_of_mem _ List.mem_cons_self)) 0
          simp only [List.getElem?_toArray, List.getElem?_cons_zero, List.getElem?_cons_succ] at f3
          go_simp
          refine hK.out _ _ hHeld (fun hHeld => ?_)
          clear hK K f3
          (try simp only [Act.put, List.setIfInBounds_toArray, List.set_cons_zero, List.set_cons_succ])
          refine wpAnyH_ready (rs := [6]) (by kernel_rfl) (by simp) ?_
          refine AllReadyH.cons rfl (fun K hK => ?_) AllReadyH.nil
          go_simp
          have hb9 := below_alloc (Below.refl w13.heap.size w13) (.cells #[.string x.f0, .int .i64 x.f1, .slice A9 x.f2.length c9] 38 (0, 0))
          refine hK.out _ _ (blk_below hHeld hb9) (fun hHeld => ?_)
          clear hb9 hK K
          (try simp only [Act.put, List.setIfInBounds_toArray, List.set_cons_zero, List.set_cons_succ])
          refine wpAnyH_ready (rs := [7]) (by kernel_rfl) (by simp) ?_
          refine AllReadyH.cons rfl (fun K hK => ?_) AllReadyH.nil
          refine Eq.mpr (if_pos (by rfl)) ?_
          have HOWN := Aside0.mk HV.out.1
          have HB13 := Aside0.mk HX.out.below
          refine R_append1_wp k38 (w0 := w) w.heap.size rfl (.tmp 43) (.tmp 45) 22 38 (.agg #[.string ByteArray.empty, .int .i64 0, .slice none 0 0]) 48 rfl Tryz.underlying22 (by kernel_rfl) rfl (by show (0 : Nat) < 3; decide) (by decide) v (l0.take j) x [.string x.f0, .int .i64 x.f1, .slice A9 x.f2.length c9] (fun _ => True) (fun k => w10.heap.size ≤ k) rfl rfl (cls_M (Kd.R_lower HC9.out (by have := HS9.out; have := HB10.out; omega))) (fun k hk => ⟨trivial, fun e => by have h9 := HOWN.out k e.symm; have := HS9.out; omega⟩) (fun _ _ => trivial) (Kd.R_mono HV.out (fun _ _ => trivial)) HB13.out HB13.out.size (by have := HL.out; have := HJ.out; rw [List.length_take]; unfold maxLen; omega) (cls_fits (by have := HL.out; have := HJ.out; rw [List.length_take]; omega)) ?_
          intro v1 w14 hR hBl hg hat
          have hx1 := blk_grown (HX.out.mem List.mem_cons_self) hg (fun e => by have := HOWN.out b10 e.symm; omega)
          have hx2 := blk_grown (HX.out.mem (List.mem_cons_of_mem _ List.mem_cons_self)) hg (fun e => by
            obtain ⟨_, _, _, q, hq, cells, hc⟩ := (Kd.R_bound HV.out).1 hb e.symm
            have h9 := HX.out.mem (List.mem_cons_of_mem _ List.mem_cons_self)
            rw [h9] at hc
            injection hc with hc
            injection hc with _ hc
            subst hc
            revert hq
            decide)
          refine hK.out _ _ hx1 (fun hHeld => ?_)
          have HP := Aside0.mk (HM.out.block (hg.block _ HM.out.lt (fun e => by
            obtain ⟨_, _, _, q, hq, cells, hc⟩ := (Kd.R_bound HV.out).1 B e.symm
            exact HM.out.ne hc rfl)))
          have HR1 := Aside0.mk hR
          have HBL1 := Aside0.mk hBl
          have HHB := Aside0.mk (HX.out.lies _ (List.mem_cons_of_mem _ List.mem_cons_self)).2
          have HOV := Aside0.mk hat
          have HX1 : Aside0 (Rws w [(hb, 54, #[v, .int .i64 room, .int .i64 0, .int .i64 0, .map (some B)])] w14) := ⟨⟨fun p hp => by rw [List.mem_singleton.1 hp]; exact ⟨hx2, HHB.out⟩, by simp, hBl⟩⟩
          have HNE := Aside0.mk (show ¬ b10 = hb from fun e => by rw [e] at hx1; rw [hx2] at hx1; injection hx1 with h9; injection h9 with _ h9; revert h9; decide)
          obtain ⟨A14, c14, e14⟩ := Kd.R_slice HR1.out
          subst e14
          clear hR hBl hg hat hK K HX hx1 hx2
          (try simp only [Act.put, List.setIfInBounds_toArray, List.set_cons_zero, List.set_cons_succ])
          refine take_dst (i := 8) (v := ?_) 47 rfl rfl (by kernel_rfl) (by kernel_rfl) (by kernel_rfl) (fun _ _ _ h => h) (Or.inl ⟨by rfl, ?_⟩) (by assumption) ?_
          rotate_left
          · intro w hSw
            go_simp
            try with_reducible rfl
          (try simp only [Act.put, List.setIfInBounds_toArray, List.set_cons_zero, List.set_cons_succ])
          refine take_dst (i := 9) (v := ?_) 48 rfl rfl (by kernel_rfl) (by kernel_rfl) (by kernel_rfl) (fun _ _ _ h => h) (Or.inl ⟨by rfl, ?_⟩) (by assumption) ?_
          rotate_left
          · intro w hSw
            go_simp
            try with_reducible rfl
          (try simp only [Act.put, List.setIfInBounds_toArray, List.set_cons_zero, List.set_cons_succ])
          refine wpAnyH_ready (rs := [10]) (by kernel_rfl) (by simp) ?_
          refine AllReadyH.cons rfl (fun K hK => ?_) AllReadyH.nil
          refine Eq.mpr (if_pos (by rfl)) ?_
          refine rw_cell_wp 22 rfl (g := hb) (i := 0) rfl (u := .slice A14 (l0.take j ++ [x]).length c14) rfl rfl [] HX1.out (by show (0 : Nat) < 5; decide) (by kernel_rfl) ?_
          intro w15 hX15 hk15
          have HX2 : Aside0 (Rws w [(hb, 54, #[.slice A14 (l0.take j ++ [x]).length c14, .int .i64 room, .int .i64 0, .int .i64 0, .map (some B)])] w15) := ⟨hX15⟩
          have HP2 := Aside0.mk (HP.out.block (hk15.2 _ HP.out.lt (HP.out.ne (HX1.out.mem List.mem_cons_self))))
          refine hK.out _ _ (blk_kept hHeld hk15 HNE.out) (fun hHeld => ?_)
          clear hK K
          refine wpAnyH_done (by kernel_rfl) ?_ _
          (try simp only [Act.put, List.setIfInBounds_toArray, List.set_cons_zero, List.set_cons_succ])
          have HTK := Aside0.mk (show l0.take (j + 1) = l0.take j ++ [x] by rw [List.take_add_one, List.getElem?_eq_getElem HJ.out, HXX.out]; unfold rd_T38; rw [Int.toNat_natCast, List.getD_eq_getElem?_getD, List.getElem?_eq_getElem HJ.out]; rfl)
          have HR2 := Aside0.mk (Kd.R_mono (Kd.R_step (Kd.R_bound HR1.out) (fun k ho hk => hk15.2 k hk (fun e => by obtain ⟨_, _, _, q, hq, cells, hc⟩ := ho; rw [e, HX1.out.mem List.mem_cons_self] at hc; injection hc with hc; injection hc with _ hc; subst hc; revert hq; decide))) (fun _ _ => trivial))
          go_wp2
          go_roundw
          case rel => exact ⟨j + 1, .slice A14 (l0.take j ++ [x]).length c14, (by rw [HW.out]), HJ.out, HX2, HP2, ⟨(by rw [HTK.out]; exact HR2.out)⟩⟩
          case measure => exact meas_h HJ.out HW.out
        · go_simp
          have hb9 := below_alloc (Below.refl w13.heap.size w13) (.cells #[.string x.f0, .int .i64 x.f1, .slice A9 x.f2.length c9] 38 (0, 0))
          refine hK.out _ _ (blk_below hHeld hb9) (fun hHeld => ?_)
          have f3 := blk_cell (blk_below (HX.out.mem (List.mem_cons_of_mem _ List.mem_cons_self)) hb9) 0
          simp only [List.getElem?_toArray, List.getElem?_cons_zero, List.getElem?_cons_succ] at f3
          clear hb9 hK K
          (try simp only [Act.put, List.setIfInBounds_toArray, List.set_cons_zero, List.set_cons_succ])
          refine wpAnyH_ready (rs := [4]) (by kernel_rfl) (by simp) ?_
          refine AllReadyH.cons rfl (fun K hK => ?_) AllReadyH.nil
          go_simp
          refine hK.out _ _ hHeld (fun hHeld => ?_)
          clear f3 hK K
          (try simp only [Act.put, List.setIfInBounds_toArray, List.set_cons_zero, List.set_cons_succ])
          refine wpAnyH_ready (rs := [7]) (by kernel_rfl) (by simp) ?_
          refine AllReadyH.cons rfl (fun K hK => ?_) AllReadyH.nil
          refine Eq.mpr (if_pos (by rfl)) ?_
          have HOWN := Aside0.mk HV.out.1
          have HB13 := Aside0.mk HX.out.below
          refine R_append1_wp k38 (w0 := w) w.heap.size rfl (.tmp 43) (.tmp 45) 22 38 (.agg #[.string ByteArray.empty, .int .i64 0, .slice none 0 0]) 48 rfl Tryz.underlying22 (by kernel_rfl) rfl (by show (0 : Nat) < 3; decide) (by decide) v (l0.take j) x [.string x.f0, .int .i64 x.f1, .slice A9 x.f2.length c9] (fun _ => True) (fun k => w10.heap.size ≤ k) rfl rfl (cls_M (Kd.R_lower HC9.out (by have := HS9.out; have := HB10.out; omega))) (fun k hk => ⟨trivial, fun e => by have h9 := HOWN.out k e.symm; have := HS9.out; omega⟩) (fun _ _ => trivial) (Kd.R_mono HV.out (fun _ _ => trivial)) HB13.out HB13.out.size (by have := HL.out; have := HJ.out; rw [List.length_take]; unfold maxLen; omega) (cls_fits (by have := HL.out; have := HJ.out; rw [List.length_take]; omega)) ?_
          intro v1 w14 hR hBl hg hat
          have hx1 := blk_grown (HX.out.mem List.mem_cons_self) hg (fun e => by have := HOWN.out b10 e.symm; omega)
          have hx2 := blk_grown (HX.out.mem (List.mem_cons_of_mem _ List.mem_cons_self)) hg (fun e => by
            obtain ⟨_, _, _, q, hq, cells, hc⟩ := (Kd.R_bound HV.out).1 hb e.symm
            have h9 := HX.out.mem (List.mem_cons_of_mem _ List.mem_cons_self)
            rw [h9] at hc
            injection hc with hc
            injection hc with _ hc
            subst hc
            revert hq
            decide)
          refine hK.out _ _ hx1 (fun hHeld => ?_)
          have HP := Aside0.mk (HM.out.block (hg.block _ HM.out.lt (fun e => by
            obtain ⟨_, _, _, q, hq, cells, hc⟩ := (Kd.R_bound HV.out).1 B e.symm
            exact HM.out.ne hc rfl)))
          have HR1 := Aside0.mk hR
          have HBL1 := Aside0.mk hBl
          have HHB := Aside0.mk (HX.out.lies _ (List.mem_cons_of_mem _ List.mem_cons_self)).2
          have HOV := Aside0.mk hat
          have HX1 : Aside0 (Rws w [(hb, 54, #[v, .int .i64 room, .int .i64 0, .int .i64 0, .map (some B)])] w14) := ⟨⟨fun p hp => by rw [List.mem_singleton.1 hp]; exact ⟨hx2, HHB.out⟩, by simp, hBl⟩⟩
          have HNE := Aside0.mk (show ¬ b10 = hb from fun e => by rw [e] at hx1; rw [hx2] at hx1; injection hx1 with h9; injection h9 with _ h9; revert h9; decide)
          obtain ⟨A14, c14, e14⟩ := Kd.R_slice HR1.out
          subst e14
          clear hR hBl hg hat hK K HX hx1 hx2
          (try simp only [Act.put, List.setIfInBounds_toArray, List.set_cons_zero, List.set_cons_succ])
          refine take_dst (i := 8) (v := ?_) 47 rfl rfl (by kernel_rfl) (by kernel_rfl) (by kernel_rfl) (fun _ _ _ h => h) (Or.inl ⟨by rfl, ?_⟩) (by assumption) ?_
          rotate_left
          · intro w hSw
            go_simp
            try with_reducible rfl
          (try simp only [Act.put, List.setIfInBounds_toArray, List.set_cons_zero, List.set_cons_succ])
          refine take_dst (i := 9) (v := ?_) 48 rfl rfl (by kernel_rfl) (by kernel_rfl) (by kernel_rfl) (fun _ _ _ h => h) (Or.inl ⟨by rfl, ?_⟩) (by assumption) ?_
          rotate_left
          · intro w hSw
            go_simp
            try with_reducible rfl
          (try simp only [Act.put, List.setIfInBounds_toArray, List.set_cons_zero, List.set_cons_succ])
          refine wpAnyH_ready (rs := [10]) (by kernel_rfl) (by simp) ?_
          refine AllReadyH.cons rfl (fun K hK => ?_) AllReadyH.nil
          refine Eq.mpr (if_pos (by rfl)) ?_
          refine rw_cell_wp 22 rfl (g := hb) (i := 0) rfl (u := .slice A14 (l0.take j ++ [x]).length c14) rfl rfl [] HX1.out (by show (0 : Nat) < 5; decide) (by kernel_rfl) ?_
          intro w15 hX15 hk15
          have HX2 : Aside0 (Rws w [(hb, 54, #[.slice A14 (l0.take j ++ [x]).length c14, .int .i64 room, .int .i64 0, .int .i64 0, .map (some B)])] w15) := ⟨hX15⟩
          have HP2 := Aside0.mk (HP.out.block (hk15.2 _ HP.out.lt (HP.out.ne (HX1.out.mem List.mem_cons_self))))
          refine hK.out _ _ (blk_kept hHeld hk15 HNE.out) (fun hHeld => ?_)
          clear hK K
          refine wpAnyH_done (by kernel_rfl) ?_ _
          (try simp only [Act.put, List.setIfInBounds_toArray, List.set_cons_zero, List.set_cons_succ])
          have HTK := Aside0.mk (show l0.take (j + 1) = l0.take j ++ [x] by rw [List.take_add_one, List.getElem?_eq_getElem HJ.out, HXX.out]; unfold rd_T38; rw [Int.toNat_natCast, List.getD_eq_getElem?_getD, List.getElem?_eq_getElem HJ.out]; rfl)
          have HR2 := Aside0.mk (Kd.R_mono (Kd.R_step (Kd.R_bound HR1.out) (fun k ho hk => hk15.2 k hk (fun e => by obtain ⟨_, _, _, q, hq, cells, hc⟩ := ho; rw [e, HX1.out.mem List.mem_cons_self] at hc; injection hc with hc; injection hc with _ hc; subst hc; revert hq; decide))) (fun _ _ => trivial))
          go_wp2
          go_roundw
          case rel => exact ⟨j + 1, .slice A14 (l0.take j ++ [x]).length c14, (by rw [HW.out]), HJ.out, HX2, HP2, ⟨(by rw [HTK.out]; exact HR2.out)⟩⟩
          case measure => exact meas_h HJ.out HW.out
      · have c1b : decide ((j : Int) < (l0.length : Int)) = false := decide_eq_false (by omega)
        have c1c : decide (j < l0.length) = false := decide_eq_false c1
        have hv := HV.out
        rw [List.take_of_length_le (by omega)] at hv
        have HV2 := Aside0.mk hv
        clear hv c1 hj HV
        go_wp2_with fail
        go_ret2
        exact Or.inr (Or.inr ⟨h0.out, h1.out, trivial, hb, B, v, rfl, fun _ => 0, fun _ => 0, ⟨HX.out.mem List.mem_cons_self, HM.out, fun _ _ h => (by cases h), fun _ _ _ _ h => (by cases h), ⟨(HX.out.lies _ List.mem_cons_self).2, HBL.out, fun _ _ h => (by cases h)⟩, Kd.R_mono HV2.out (fun _ _ h => h), fun _ _ h => (by cases h), ⟨Int.le_refl 0, h0.out, h1.out⟩, HBW2.out, ⟨HBW2.out.size, fun _ h => h.elim⟩, fun _ h => h.elim⟩⟩)
  · have HCR := Aside0.mk cr
    have d3 : (r2 != 0) = true := by rw [bne_iff_ne]; exact cr
    have d4 : (r2 == 0) = false := by rw [beq_eq_false_iff_ne]; exact cr
    clear cr
    go_enter Tryz.func5, Tryz.ntmps5
    go_wp2_with fail
    refine (types_Check.calls k A0 c0 l0 r1 r2 w HR.out HC.out HK.out).mono ?_
    rintro e w1 ⟨rfl, hb⟩
    have HBW := Aside0.mk hb
    clear hb
    go_wp2
    go_ret2
    exact Or.inr (Or.inl ⟨h0.out, h1.out, HCR.out, rfl, HBW.out⟩)
end Go.Proofs.YtkjagcamikkjkaaGreat.P

end

section
namespace Go.Proofs.YtkjagcamikkjkaaGreat.P
open Go.RowKit Go.Proofs.YtkjagcamikkjkaaGreatW.PrintWords Go.Proofs.YtkjagcamikkjkaaGreatW.PrintLast Go.Proofs.YtkjagcamikkjkaaGreatW.PrintMore
set_option linter.unusedVariables false
set_option linter.unusedSimpArgs false

theorem w_next {i : Int} {n : Nat} (h0 : 0 ≤ i) (h : i < (n : Int)) (hn : n ≤ 9223372036854775807) : wrap64 (i + 1) = i + 1 := by
  unfold wrap64
  omega

def sign (i c : Int) : Bool :=
  (decide (97 ≤ c) && decide (c ≤ 122)) || (decide (65 ≤ c) && decide (c ≤ 90)) || (decide (0 < i) && ((decide (48 ≤ c) && decide (c ≤ 57)) || decide (c = 95)))
def tailOk (s : ByteArray) : Nat → Bool
  | 0 => true
  | d + 1 => sign ((s.size : Int) - (d + 1)) (bt s ((s.size : Int) - (d + 1))) && tailOk s d
def nameOk (s : ByteArray) : Bool := decide (1 ≤ s.size) && decide (s.size ≤ 24) && tailOk s s.size
theorem ref_name_tail (s : ByteArray) (hn : s.size ≤ 140737488351232) (d : Nat) : ∀ (i : Int), 0 ≤ i → i ≤ s.size → (s.size : Int) - i = d → Ev (fun k => provisoref02_IsName.l0 k s i) (tailOk s d) := by
  induction d with
  | zero =>
    intro i h0 h1 hd
    exact Ev.step (f := fun _ => some true) (fun k => by simp only [provisoref02_IsName.l0]; rw [if_neg (by omega)]) (Ev.now _)
  | succ d ih =>
    intro i h0 h1 hd
    have hlt : i < (s.size : Int) := by omega
    have hi : (s.size : Int) - (d + 1) = i := by omega
    have h := ih (i + 1) (by omega) (by omega) (by omega)
    cases hs : sign i (bt s i) with
    | true =>
      refine Ev.step (fun k => ?_) (show Ev _ (tailOk s (d + 1)) from by simp only [tailOk, hi, hs, Bool.true_and]; exact h)
      simp only [provisoref02_IsName.l0]
      rw [if_pos hlt, if_pos h0, w_next h0 hlt (by omega)]
      revert hs
      generalize bt s i = c
      intro hs
      by_cases a1 : 97 ≤ c <;> by_cases a2 : c ≤ 122 <;> by_cases a3 : 65 ≤ c <;> by_cases a4 : c ≤ 90 <;> by_cases a5 : i = 0 <;> by_cases a6 : c < 48 <;> by_cases a7 : 57 < c <;> by_cases a8 : c = 95 <;> (try omega) <;> (have a9 : 0 < i ∨ i = 0 := by omega) <;> simp [sign, a1, a2, a3, a4, a5, a6, a7, a8] at hs ⊢ <;> omega
    | false =>
      refine Ev.step (f := fun _ => some false) (fun k => ?_) (show Ev _ (tailOk s (d + 1)) from by simp only [tailOk, hi, hs, Bool.false_and]; exact Ev.now _)
      simp only [provisoref02_IsName.l0]
      rw [if_pos hlt, if_pos h0, w_next h0 hlt (by omega)]
      revert hs
      generalize bt s i = c
      intro hs
      by_cases a1 : 97 ≤ c <;> by_cases a2 : c ≤ 122 <;> by_cases a3 : 65 ≤ c <;> by_cases a4 : c ≤ 90 <;> by_cases a5 : i = 0 <;> by_cases a6 : c < 48 <;> by_cases a7 : 57 < c <;> by_cases a8 : c = 95 <;> (try omega) <;> (have a9 : 0 < i ∨ i = 0 := by omega) <;> simp [sign, a1, a2, a3, a4, a5, a6, a7, a8] at hs ⊢ <;> omega
theorem ref_name (s : ByteArray) (hn : s.size ≤ 140737488351232) : Ev (fun k => provisoref02_IsName.f k s) (nameOk s) := by
  have h := ref_name_tail s hn s.size 0 (by omega) (by omega) (by omega)
  by_cases a1 : (s.size : Int) < 1
  · have e : nameOk s = false := by unfold nameOk; rw [decide_eq_false (by omega)]; simp
    rw [e]
    refine Ev.congr (f := fun k => provisoref02_IsName.j0 k s true) (fun k => by unfold provisoref02_IsName.f; rw [if_pos a1]) ?_
    exact Ev.step (f := fun _ => some false) (fun k => by simp only [provisoref02_IsName.j0]; rfl) (Ev.now _)
  · refine Ev.congr (f := fun k => provisoref02_IsName.j0 k s (decide ((s.size : Int) > 24))) (fun k => by unfold provisoref02_IsName.f; rw [if_neg a1]) ?_
    by_cases a2 : (s.size : Int) > 24
    · have e : nameOk s = false := by unfold nameOk; rw [decide_eq_false (p := s.size ≤ 24) (by omega)]; simp
      rw [e]
      exact Ev.step (f := fun _ => some false) (fun k => by simp only [provisoref02_IsName.j0]; simp [a2]) (Ev.now _)
    · have e : nameOk s = tailOk s s.size := by unfold nameOk; rw [decide_eq_true (p := s.size ≤ 24) (by omega), decide_eq_true (p := 1 ≤ s.size) (by omega)]; simp
      rw [e]
      exact Ev.step (fun k => by simp only [provisoref02_IsName.j0]; simp [a2]) h

theorem str_eq (a b : ByteArray) : a.toList = b.toList ↔ a = b :=
  ⟨fun h => by rw [ByteArray.toList_eq, ByteArray.toList_eq] at h; exact Go.WideShapes.bytes_inj h, fun h => by rw [h]⟩
def words6 : List ByteArray := [⟨#[116, 111, 112]⟩, ⟨#[105, 110, 116]⟩, ⟨#[98, 111, 111, 108]⟩, ⟨#[110, 117, 108, 108]⟩, ⟨#[105, 110, 116, 115]⟩, ⟨#[97, 110, 121]⟩]
def isWordB (s : ByteArray) : Bool := words6.any fun t => decide (t = s)
theorem ref_word (s : ByteArray) : Ev (fun k => provisoref02_isWord.f k s) (isWordB s) := by
  have step : ∀ (x : Int) (t : ByteArray) (r : Bool), 0 ≤ x → x ≤ 5 → provisoref02_word.f x = some t → Ev (fun k => provisoref02_isWord.l0 k s (x + 1)) r → Ev (fun k => provisoref02_isWord.l0 k s x) (decide (t = s) || r) := by
    intro x t r h0 h5 ht h
    by_cases e : t = s
    · rw [decide_eq_true e, Bool.true_or]
      exact Ev.step (f := fun _ => some true) (fun k => by simp only [provisoref02_isWord.l0]; rw [if_pos (by omega), ht]; simp [e]) (Ev.now _)
    · rw [decide_eq_false e, Bool.false_or]
      refine Ev.step (fun k => ?_) h
      simp only [provisoref02_isWord.l0]
      rw [if_pos (by omega), ht]
      simp only [Option.bind_some, str_eq]
      rw [if_neg e, show (x + 1) % 256 = x + 1 from by omega]
  have h6 : Ev (fun k => provisoref02_isWord.l0 k s 6) false := Ev.step (f := fun _ => some false) (fun k => by simp only [provisoref02_isWord.l0]; rw [if_neg (by omega)]) (Ev.now _)
  have h := step 0 _ _ (by omega) (by omega) rfl (step 1 _ _ (by omega) (by omega) rfl (step 2 _ _ (by omega) (by omega) rfl (step 3 _ _ (by omega) (by omega) rfl (step 4 _ _ (by omega) (by omega) rfl (step 5 _ _ (by omega) (by omega) rfl h6)))))
  exact h

abbrev Tbl := List S38
def par (l : Tbl) (c : Int) : Int := (rd_T38 l c).f1
def nam (l : Tbl) (c : Int) : ByteArray := (rd_T38 l c).f0
def own (l : Tbl) (c : Int) : List S41 := (rd_T38 l c).f2
def Dec (l : Tbl) (n : Int) : Prop := ∀ i : Int, 0 ≤ i → i < n → par l i < i
def fieldsOf (l : Tbl) (c : Int) : List S41 := (climbL l c).reverse.flatMap fun i => own l i
theorem line_tells (l : Tbl) (n : Int) (hn : n ≤ l.length) (hl : l.length * 48 ≤ 140737488351232) (hd : Dec l n) : ∀ (d : Nat) (c : Int) (acc : List Int), c < n → (c + 1).toNat ≤ d → (acc.length : Int) + c < l.length → acc.length ≤ l.length →
    Ev (fun k => provisoref02_Line.l0 k l c acc) (acc ++ climbL l c)
  | 0, c, acc, _, h, _, _ => by
    rw [climbL_out l c (by omega), List.append_nil]
    exact Ev.step (f := fun _ => some acc) (fun k => by simp only [provisoref02_Line.l0]; rw [if_neg (by omega)]) (Ev.now _)
  | d + 1, c, acc, hc, hcd, ha, ha2 => by
    by_cases h0 : 0 ≤ c
    · have hp := hd c h0 hc
      have hcl : c < (l.length : Int) := by omega
      rw [climbL_in l c h0 hcl hp]
      have hx := line_tells l n hn hl hd d (par l c) (acc ++ [c]) (by omega) (by omega) (by simp; omega) (by simp; omega)
      rw [List.append_assoc] at hx
      refine Ev.step (fun k => ?_) hx
      simp only [provisoref02_Line.l0]
      rw [if_pos h0, if_pos hcl, if_pos (by omega), if_pos (by omega), if_pos h0]
      rfl
    · rw [climbL_out l c (by omega), List.append_nil]
      exact Ev.step (f := fun _ => some acc) (fun k => by simp only [provisoref02_Line.l0]; rw [if_neg (by omega)]) (Ev.now _)
theorem ref_line (l : Tbl) (n : Int) (hn : n ≤ l.length) (hl : l.length * 48 ≤ 140737488351232) (hd : Dec l n) (c : Int) (hc : c < n) : Ev (fun k => provisoref02_Line.f k l c) (climbL l c) := by
  by_cases h0 : l.length = 0
  · rw [climbL_out l c (by omega)]
    refine Ev.congr (f := fun k => provisoref02_Line.l0 k l c []) (fun k => rfl) ?_
    exact Ev.step (f := fun _ => some []) (fun k => by simp only [provisoref02_Line.l0]; rw [if_neg (by omega)]) (Ev.now _)
  · have := line_tells l n hn hl hd (c + 1).toNat c [] hc (Nat.le_refl _) (by simp; omega) (by simp)
    rw [List.nil_append] at this
    exact this
theorem fields_tells (l : Tbl) (line : List Int) (hm : ∀ x ∈ line, 0 ≤ x ∧ x < (l.length : Int)) (hl : l.length * 48 ≤ 140737488351232) (hll : line.length ≤ l.length) (hlim : (line.reverse.flatMap fun i => own l i).length < 5864062014805) : ∀ (d : Nat), d ≤ line.length →
    Ev (fun k => provisoref02_Fields.l0 k l line ((line.drop d).reverse.flatMap fun i => own l i) ((d : Int) - 1)) (line.reverse.flatMap fun i => own l i)
  | 0, _ => by
    rw [List.drop_zero]
    exact Ev.step (f := fun _ => some _) (fun k => by simp only [provisoref02_Fields.l0]; rw [if_neg (by omega)]) (Ev.now _)
  | d + 1, hd => by
    have ih := fields_tells l line hm hl hll hlim d (by omega)
    have hrd : rd line ((d : Nat) : Int) = line[d]'(by omega) := by simp [rd, List.getD_eq_getElem?_getD, show d < line.length by omega]
    have hmd := hm (line[d]'(by omega)) (List.getElem_mem _)
    have e1 : ((line.drop d).reverse.flatMap fun i => own l i) = ((line.drop (d + 1)).reverse.flatMap fun i => own l i) ++ own l (line[d]'(by omega)) := by
      rw [List.drop_eq_getElem_cons (by omega), List.reverse_cons, List.flatMap_append]
      simp
    have hle : ((line.drop d).reverse.flatMap fun i => own l i).length ≤ (line.reverse.flatMap fun i => own l i).length := by
      have : line = line.take d ++ line.drop d := by simp
      conv => rhs; rw [this, List.reverse_append, List.flatMap_append, List.length_append]
      omega
    rw [e1] at ih hle
    rw [List.length_append] at hle
    refine Ev.step (fun k => ?_) ih
    simp only [provisoref02_Fields.l0]
    rw [show ((d + 1 : Nat) : Int) - 1 = (d : Int) by omega, hrd, if_pos (by omega), if_pos (by omega), if_pos (by omega), if_pos hmd.1, if_pos hmd.2]
    rw [if_pos (by unfold own at hle hlim ⊢; omega), show wrap64 ((d : Int) - 1) = (d : Int) - 1 by unfold wrap64; omega]
    rfl
theorem ref_fields (l : Tbl) (n : Int) (hn : n ≤ l.length) (hl : l.length * 48 ≤ 140737488351232) (hd : Dec l n) (c : Int) (hc : c < n) (hlim : (fieldsOf l c).length < 5864062014805) : Ev (fun k => provisoref02_Fields.f k l c) (fieldsOf l c) := by
  have hll := climbL_length l c
  have h := fields_tells l (climbL l c) (climbL_mem l c) hl hll hlim (climbL l c).length (Nat.le_refl _)
  rw [List.drop_length, List.reverse_nil, List.flatMap_nil] at h
  refine Ev.congr (fun k => rfl) (Ev.bind (ref_line l n hn hl hd c hc) (f := fun k t => provisoref02_Fields.l0 k l t [] (wrap64 ((t.length : Int) - 1))) ?_)
  rw [show wrap64 (((climbL l c).length : Int) - 1) = ((climbL l c).length : Int) - 1 by unfold wrap64; omega]
  exact h

def hasB (fs : List S41) (s : ByteArray) : Bool := fs.any fun f => decide (f.f0 = s)
theorem has_tells (fs : List S41) (s : ByteArray) (hl : fs.length ≤ 9223372036854775807) : ∀ (d i : Nat), fs.length - i = d → i ≤ fs.length → Ev (fun k => provisoref02_has.l0 k fs s (i : Int)) (hasB (fs.drop i) s)
  | 0, i, hd, hi => by
    rw [List.drop_of_length_le (by omega)]
    exact Ev.step (f := fun _ => some false) (fun k => by simp only [provisoref02_has.l0]; rw [if_neg (by omega)]) (Ev.now _)
  | d + 1, i, hd, hi => by
    have ih := has_tells fs s hl d (i + 1) (by omega) (by omega)
    have hlt : i < fs.length := by omega
    have hrd : rd_T41 fs ((i : Nat) : Int) = fs[i] := by simp [rd_T41, List.getD_eq_getElem?_getD, hlt]
    rw [List.drop_eq_getElem_cons hlt]
    by_cases e : fs[i].f0 = s
    · have e2 : hasB (fs[i] :: fs.drop (i + 1)) s = true := by unfold hasB; rw [List.any_cons, decide_eq_true e, Bool.true_or]
      rw [e2]
      exact Ev.step (f := fun _ => some true) (fun k => by simp only [provisoref02_has.l0]; rw [if_pos (by omega), if_pos (by omega), hrd]; simp [e]) (Ev.now _)
    · have e2 : hasB (fs[i] :: fs.drop (i + 1)) s = hasB (fs.drop (i + 1)) s := by unfold hasB; rw [List.any_cons, decide_eq_false e, Bool.false_or]
      rw [e2]
      refine Ev.step (fun k => ?_) ih
      simp only [provisoref02_has.l0]
      rw [if_pos (by omega), if_pos (by omega), hrd, if_neg (by rw [str_eq]; exact e), w_next (n := fs.length) (by omega) (by omega) hl]
      rfl
theorem ref_has (fs : List S41) (s : ByteArray) (hl : fs.length ≤ 9223372036854775807) : Ev (fun k => provisoref02_has.f k fs s) (hasB fs s) := by
  have := has_tells fs s hl fs.length 0 (by omega) (by omega)
  rw [List.drop_zero] at this
  exact this
def validB (l : Tbl) (a : Int) : Bool := decide (a ≤ 5) || (decide (16 ≤ a) && decide (a - 16 < (l.length : Int)))
theorem ref_valid (l : Tbl) (a : Int) (ha : 0 ≤ a ∧ a ≤ 255) : provisoref02_Valid.f l a = some (validB l a) := by
  unfold provisoref02_Valid.f validB
  by_cases h1 : a ≤ 5
  · simp [h1]
  · by_cases h2 : a ≥ 16
    · rw [if_neg h1, if_pos h2, show (a - 16) % 256 = a - 16 by omega]
      simp [h1, h2]
    · rw [if_neg h1, if_neg h2]
      simp [h1, h2]
def storedB (l : Tbl) (a : Int) : Bool := validB l a && decide (a ≠ 0) && decide (a ≠ 3)
theorem ref_stored (l : Tbl) (a : Int) (ha : 0 ≤ a ∧ a ≤ 255) : provisoref02_Stored.f l a = some (storedB l a) := by
  unfold provisoref02_Stored.f storedB
  rw [ref_valid l a ha]
  simp only [Option.bind_some]
  cases validB l a <;> by_cases h0 : a = 0 <;> by_cases h3 : a = 3 <;> simp [h0, h3]
end Go.Proofs.YtkjagcamikkjkaaGreat.P


end

section
namespace Go.Proofs.YtkjagcamikkjkaaGreat.P
open Go.RowKit Go.Proofs.YtkjagcamikkjkaaGreatW.PrintWords Go.Proofs.YtkjagcamikkjkaaGreatW.PrintLast Go.Proofs.YtkjagcamikkjkaaGreatW.PrintMore
set_option linter.unusedVariables false
set_option linter.unusedSimpArgs false

def Sane (l : Tbl) : Prop := l.length ≤ 9223372036854775807 ∧ l.length * 48 ≤ 140737488351232 ∧ ∀ x ∈ l, Ok38 x
theorem rd_mem (l : Tbl) (c : Int) (h0 : 0 ≤ c) (h1 : c < (l.length : Int)) : rd_T38 l c ∈ l := by
  have h : c.toNat < l.length := by omega
  simp [rd_T38, List.getD_eq_getElem?_getD, h]
theorem Sane.size {l : Tbl} (h : Sane l) : l.length ≤ 2932031007320 := by have := h.2.1; omega
theorem Sane.nam {l : Tbl} (h : Sane l) {c : Int} (h0 : 0 ≤ c) (h1 : c < (l.length : Int)) : (nam l c).size ≤ 140737488351232 := (h.2.2 _ (rd_mem l c h0 h1)).1
theorem Sane.par {l : Tbl} (h : Sane l) {c : Int} (h0 : 0 ≤ c) (h1 : c < (l.length : Int)) : -9223372036854775808 ≤ par l c ∧ par l c ≤ 9223372036854775807 := by
  have := (h.2.2 _ (rd_mem l c h0 h1)).2.1
  simp [Lit.wf, IntKind.min, IntKind.max, IntKind.signed, IntKind.bits] at this
  exact this
theorem Sane.own {l : Tbl} (h : Sane l) {c : Int} (h0 : 0 ≤ c) (h1 : c < (l.length : Int)) : (own l c).length * 24 ≤ 140737488351232 ∧ ∀ x ∈ own l c, x.f0.size ≤ 140737488351232 ∧ (0 ≤ x.f1 ∧ x.f1 ≤ 255) := by
  obtain ⟨_, h2, h3⟩ := (h.2.2 _ (rd_mem l c h0 h1)).2.2
  refine ⟨h2, fun x hx => ⟨(h3 x hx).1, ?_⟩⟩
  have := (h3 x hx).2
  simp [Lit.wf, IntKind.min, IntKind.max, IntKind.signed, IntKind.bits] at this
  exact this

theorem nam_eq (l : Tbl) (i : Int) (s : ByteArray) : (rd_T38 l i).f0.toList = s.toList ↔ nam l i = s := str_eq _ _

def fieldFaultFrom (l : Tbl) (all fs : List S41) : Nat → Nat → Int
  | 0, _ => if (fs.length : Int) > 32 - (all.length : Int) then 4 else 0
  | d + 1, i => if nameOk (rd_T41 fs i).f0 = true then (if hasB all (rd_T41 fs i).f0 = true then 20 else if hasB (fs.take i) (rd_T41 fs i).f0 = true then 20 else if storedB l (rd_T41 fs i).f1 = true then fieldFaultFrom l all fs d (i + 1) else 22) else 6
def fieldFault (l : Tbl) (all fs : List S41) : Int := fieldFaultFrom l all fs fs.length 0
def aheadFrom (l : Tbl) (c : Int) : Nat → Bool
  | 0 => false
  | d + 1 => decide (nam l (c - (d + 1)) = nam l c) || aheadFrom l c d
def aheadB (l : Tbl) (c : Int) : Bool := aheadFrom l c c.toNat
def parFault (l : Tbl) (c : Int) : Int := if par l c < -1 then 21 else if par l c ≥ c then 21 else fieldFault l (fieldsOf l (par l c)) (own l c)
def faultB (l : Tbl) (c : Int) : Int :=
  if c ≥ 32 then 4 else if nameOk (nam l c) = true then (if isWordB (nam l c) = true then 6 else if aheadB l c = true then 20 else parFault l c) else 6

theorem fields_fault (l : Tbl) (all fs : List S41) (h1 : all.length ≤ 5864062014805) (h2 : fs.length * 24 ≤ 140737488351232) (h3 : ∀ x ∈ fs, x.f0.size ≤ 140737488351232 ∧ (0 ≤ x.f1 ∧ x.f1 ≤ 255)) (nm : ByteArray) (pr : Int) : ∀ (d i : Nat), fs.length - i = d → i ≤ fs.length →
    Ev (fun k => provisoref02_fault.l1 k l all (i : Int) nm pr fs) (fieldFaultFrom l all fs d i)
  | 0, i, hd, hi => by
    unfold fieldFaultFrom
    refine Ev.step (f := fun _ => some _) (fun k => ?_) (Ev.now _)
    simp only [provisoref02_fault.l1]
    rw [if_neg (by omega), show wrap64 (32 - (all.length : Int)) = 32 - (all.length : Int) by unfold wrap64; omega]
    split <;> rfl
  | d + 1, i, hd, hi => by
    have hlt : i < fs.length := by omega
    have hrd : rd_T41 fs ((i : Nat) : Int) = fs[i] := by simp [rd_T41, List.getD_eq_getElem?_getD, hlt]
    obtain ⟨hs, ht⟩ := h3 fs[i] (List.getElem_mem _)
    have ih := fields_fault l all fs h1 h2 h3 nm pr d (i + 1) (by omega) (by omega)
    unfold fieldFaultFrom
    rw [hrd]
    refine Ev.step (fun k => by simp only [provisoref02_fault.l1]; rw [if_pos (by omega), if_pos (by omega), hrd]) ?_
    refine Ev.bind (f := fun k t => if t = true then _ else _) (ref_name _ hs) ?_
    cases nameOk fs[i].f0 with
    | false => exact Ev.now _
    | true =>
      refine Ev.bind (f := fun k t => if t = true then _ else _) (ref_has all _ (by omega)) ?_
      cases hasB all fs[i].f0 with
      | true => exact Ev.now _
      | false =>
        refine Ev.congr (f := fun k => (provisoref02_has.f k (fs.take i) fs[i].f0).bind _) (fun k => by
          show (if (i : Int) ≤ (fs.length : Int) then _ else _) = _
          rw [if_pos (by omega), Int.toNat_natCast]) ?_
        refine Ev.bind (f := fun k t => if t = true then _ else _) (ref_has (fs.take i) _ (by simp; omega)) ?_
        cases hasB (fs.take i) fs[i].f0 with
        | true => exact Ev.now _
        | false =>
          refine Ev.congr (f := fun k => if storedB l fs[i].f1 = true then _ else _) (fun k => by
            show (provisoref02_Stored.f l fs[i].f1).bind _ = _
            rw [ref_stored l _ ht]
            rfl) ?_
          cases storedB l fs[i].f1 with
          | false => exact Ev.now _
          | true =>
            refine Ev.congr (fun k => ?_) ih
            show provisoref02_fault.l1 k l all (wrap64 ((i : Int) + 1)) nm pr fs = _
            rw [w_next (n := fs.length) (by omega) (by omega) (by omega)]
            rfl
theorem par_fault (l : Tbl) (hs : Sane l) (c : Int) (h0 : 0 ≤ c) (h1 : c < (l.length : Int)) (hd : Dec l c) (hlim : ∀ p : Int, -1 ≤ p → p < c → (fieldsOf l p).length ≤ 32) :
    Ev (fun k => provisoref02_fault.l0 k l c c (nam l c) (par l c) (own l c)) (parFault l c) := by
  unfold parFault
  have hj : Ev (fun k => provisoref02_fault.j2 k l true (nam l c) (par l c) (own l c)) 21 := Ev.step (f := fun _ => some 21) (fun k => by simp only [provisoref02_fault.j2]; rfl) (Ev.now _)
  by_cases p1 : par l c < -1
  · rw [if_pos p1]
    exact Ev.step (fun k => by simp only [provisoref02_fault.l0]; rw [if_neg (by omega), if_pos p1]) hj
  · rw [if_neg p1]
    by_cases p2 : par l c ≥ c
    · rw [if_pos p2]
      exact Ev.step (fun k => by simp only [provisoref02_fault.l0]; rw [if_neg (by omega), if_neg p1, decide_eq_true p2]) hj
    · rw [if_neg p2]
      refine Ev.step (f := fun k => provisoref02_fault.j2 k l false (nam l c) (par l c) (own l c)) (fun k => by simp only [provisoref02_fault.l0]; rw [if_neg (by omega), if_neg p1, decide_eq_false p2]) ?_
      have hlp := hlim (par l c) (by omega) (by omega)
      refine Ev.step (f := fun k => (provisoref02_Fields.f k l (par l c)).bind fun t => provisoref02_fault.l1 k l t 0 (nam l c) (par l c) (own l c)) (fun k => by simp only [provisoref02_fault.j2]; rfl) ?_
      refine Ev.bind (f := fun k t => provisoref02_fault.l1 k l t 0 (nam l c) (par l c) (own l c)) (ref_fields l c (by omega) hs.2.1 hd (par l c) (by omega) (by omega)) ?_
      exact fields_fault l _ (own l c) (by omega) (hs.own h0 h1).1 (hs.own h0 h1).2 _ _ _ 0 (by omega) (by omega)
theorem ahead_fault (l : Tbl) (hs : Sane l) (c : Int) (h0 : 0 ≤ c) (h1 : c < (l.length : Int)) (hd : Dec l c) (hlim : ∀ p : Int, -1 ≤ p → p < c → (fieldsOf l p).length ≤ 32) : ∀ (d : Nat), (d : Int) ≤ c →
    Ev (fun k => provisoref02_fault.l0 k l c (c - d) (nam l c) (par l c) (own l c)) (if aheadFrom l c d = true then 20 else parFault l c)
  | 0, _ => by
    have := par_fault l hs c h0 h1 hd hlim
    simpa [aheadFrom] using this
  | d + 1, hdc => by
    have ih := ahead_fault l hs c h0 h1 hd hlim d (by omega)
    have hsz := hs.size
    have e1 : c - ((d : Int) + 1) + 1 = c - d := by omega
    by_cases e : nam l (c - ((d : Int) + 1)) = nam l c
    · have e2 : aheadFrom l c (d + 1) = true := by unfold aheadFrom; rw [decide_eq_true e, Bool.true_or]
      rw [e2, if_pos rfl]
      refine Ev.step (f := fun _ => some 20) (fun k => ?_) (Ev.now _)
      show provisoref02_fault.l0 (k + 1) l c (c - ((d : Int) + 1)) (nam l c) (par l c) (own l c) = _
      simp only [provisoref02_fault.l0]
      rw [if_pos (by omega), if_pos (by omega), if_pos (by omega), if_pos ((nam_eq l _ _).mpr e)]
    · have e2 : aheadFrom l c (d + 1) = aheadFrom l c d := by conv => lhs; unfold aheadFrom
                                                              rw [decide_eq_false e, Bool.false_or]
      rw [e2]
      refine Ev.step (fun k => ?_) ih
      show provisoref02_fault.l0 (k + 1) l c (c - ((d : Int) + 1)) (nam l c) (par l c) (own l c) = _
      simp only [provisoref02_fault.l0]
      rw [if_pos (by omega), if_pos (by omega), if_pos (by omega), if_neg (fun h9 => e ((nam_eq l _ _).mp h9)), show wrap64 (c - ((d : Int) + 1) + 1) = c - d by rw [e1]; unfold wrap64; omega]
theorem ref_fault (l : Tbl) (hs : Sane l) (c : Int) (h0 : 0 ≤ c) (h1 : c < (l.length : Int)) (hd : Dec l c) (hlim : ∀ p : Int, -1 ≤ p → p < c → (fieldsOf l p).length ≤ 32) : Ev (fun k => provisoref02_fault.f k l c) (faultB l c) := by
  unfold faultB
  have ha := ahead_fault l hs c h0 h1 hd hlim c.toNat (by omega)
  rw [show c - (c.toNat : Int) = 0 by omega] at ha
  have hj : ∀ b : Bool, Ev (fun k => provisoref02_fault.j0 k l c b (nam l c) (par l c) (own l c)) (if b = true then 6 else if aheadB l c = true then 20 else parFault l c) := by
    intro b
    cases b with
    | true => exact Ev.step (f := fun _ => some 6) (fun k => by simp only [provisoref02_fault.j0]; rfl) (Ev.now _)
    | false => exact Ev.step (fun k => by simp only [provisoref02_fault.j0]; rfl) ha
  by_cases h32 : c ≥ 32
  · rw [if_pos h32]
    exact Ev.congr (f := fun _ => some 4) (fun k => by unfold provisoref02_fault.f; rw [if_pos h0, if_pos h1, if_pos h32]) (Ev.now _)
  · rw [if_neg h32]
    refine Ev.congr (fun k => by unfold provisoref02_fault.f; rw [if_pos h0, if_pos h1, if_neg h32]; rfl) (Ev.bind (f := fun k t => if t = true then ((provisoref02_isWord.f k (nam l c)).bind fun t119 => provisoref02_fault.j0 k l c t119 (nam l c) (par l c) (own l c)) else provisoref02_fault.j0 k l c true (nam l c) (par l c) (own l c)) (ref_name _ (hs.nam h0 h1)) ?_)
    have hjt := hj true
    cases nameOk (nam l c) with
    | false => exact hjt
    | true => exact Ev.bind (f := fun k t => provisoref02_fault.j0 k l c t (nam l c) (par l c) (own l c)) (ref_word _) (hj _)

def GoodTo (l : Tbl) (n : Int) : Prop := ∀ c : Int, 0 ≤ c → c < n → faultB l c = 0
theorem field_fault_long (l : Tbl) (all fs : List S41) : ∀ (d i : Nat), fieldFaultFrom l all fs d i = 0 → (fs.length : Int) ≤ 32 - all.length
  | 0, i, h => by
    unfold fieldFaultFrom at h
    split at h <;> omega
  | d + 1, i, h => by
    unfold fieldFaultFrom at h
    split at h
    · split at h
      · omega
      · split at h
        · omega
        · split at h
          · exact field_fault_long l all fs d (i + 1) h
          · omega
    · omega
theorem fault_zero {l : Tbl} {c : Int} (h : faultB l c = 0) : c < 32 ∧ nameOk (nam l c) = true ∧ isWordB (nam l c) = false ∧ aheadB l c = false ∧ -1 ≤ par l c ∧ par l c < c ∧ fieldFault l (fieldsOf l (par l c)) (own l c) = 0 := by
  unfold faultB parFault at h
  split at h
  · omega
  · split at h
    · split at h
      · omega
      · split at h
        · omega
        · split at h
          · omega
          · split at h
            · omega
            · rename_i h1 h2 h3 h4 h5 h6
              exact ⟨by omega, h2, by simpa using h3, by simpa using h4, by omega, by omega, h⟩
    · omega
theorem GoodTo.dec {l : Tbl} {n : Int} (h : GoodTo l n) : Dec l n := fun i h0 h1 => (fault_zero (h i h0 h1)).2.2.2.2.2.1
theorem fieldsOf_in (l : Tbl) (c : Int) (h0 : 0 ≤ c) (h1 : c < (l.length : Int)) (h2 : par l c < c) : fieldsOf l c = fieldsOf l (par l c) ++ own l c := by
  unfold fieldsOf
  rw [climbL_in l c h0 h1 h2, List.reverse_cons, List.flatMap_append]
  simp [par]
theorem fieldsOf_out (l : Tbl) (c : Int) (h : ¬ (0 ≤ c ∧ c < (l.length : Int))) : fieldsOf l c = [] := by
  unfold fieldsOf
  rw [climbL_out l c h]
  rfl
theorem GoodTo.fields {l : Tbl} {n : Int} (hn : n ≤ l.length) (h : GoodTo l n) (c : Int) (hc : c < n) : (fieldsOf l c).length ≤ 32 := by
  by_cases h0 : 0 ≤ c
  · obtain ⟨_, _, _, _, h5, h6, h7⟩ := fault_zero (h c h0 hc)
    have := field_fault_long l _ _ _ _ h7
    rw [fieldsOf_in l c h0 (by omega) h6, List.length_append]
    omega
  · rw [fieldsOf_out l c (by omega)]
    simp
def checkFrom (l : Tbl) : Nat → Int → Int × Int
  | 0, _ => (0, 0)
  | d + 1, c => if faultB l c = 0 then checkFrom l d (c + 1) else (c, faultB l c)
def checkB (l : Tbl) : Int × Int := checkFrom l l.length 0
theorem check_tells (l : Tbl) (hs : Sane l) : ∀ (d : Nat) (c : Int), 0 ≤ c → (l.length : Int) - c = d → GoodTo l c → Ev (fun k => provisoref02_Check.l0 k l c) (checkFrom l d c)
  | 0, c, h0, hd, hg => by
    unfold checkFrom
    exact Ev.step (f := fun _ => some _) (fun k => by simp only [provisoref02_Check.l0]; rw [if_neg (by omega)]) (Ev.now _)
  | d + 1, c, h0, hd, hg => by
    have hf := ref_fault l hs c h0 (by omega) hg.dec (fun p hp1 hp2 => hg.fields (by omega) p hp2)
    unfold checkFrom
    refine Ev.step (fun k => by simp only [provisoref02_Check.l0]; rw [if_pos (by omega)]) (Ev.bind (f := fun k t => if t = 0 then _ else _) hf ?_)
    by_cases e : faultB l c = 0
    · rw [if_pos e]
      have hsz := hs.size
      refine Ev.congr (fun k => ?_) (check_tells l hs d (c + 1) (by omega) (by omega) (fun i hi0 hi1 => if hi : i < c then hg i hi0 hi else by rw [show i = c by omega]; exact e))
      rw [if_pos e, show wrap64 (c + 1) = c + 1 by unfold wrap64; omega]
    · rw [if_neg e]
      exact Ev.congr (f := fun _ => some _) (fun k => by rw [if_neg e]) (Ev.now _)
theorem ref_check (l : Tbl) (hs : Sane l) : Ev (fun k => provisoref02_Check.f k l) (checkB l) :=
  check_tells l hs l.length 0 (by omega) (by omega) (fun i h0 h1 => by omega)
theorem checkFrom_zero (l : Tbl) : ∀ (d : Nat) (c : Int), (checkFrom l d c).2 = 0 ↔ ∀ i : Int, c ≤ i → i < c + d → faultB l i = 0
  | 0, c => by
    constructor
    · intro _ i h1 h2; omega
    · intro _; rfl
  | d + 1, c => by
    unfold checkFrom
    split
    · rename_i e
      rw [checkFrom_zero l d (c + 1)]
      constructor
      · intro h i h1 h2
        by_cases hi : i = c
        · rw [hi]; exact e
        · exact h i (by omega) (by omega)
      · intro h i h1 h2
        exact h i (by omega) (by omega)
    · rename_i e
      constructor
      · intro h; exact absurd h e
      · intro h; exact h c (by omega) (by omega)
def Good (l : Tbl) : Prop := GoodTo l l.length
theorem good_iff (l : Tbl) : (checkB l).2 = 0 ↔ Good l := by
  unfold checkB
  rw [checkFrom_zero l l.length 0]
  unfold Good GoodTo
  simp
theorem Good.short {l : Tbl} (h : Good l) : l.length ≤ 32 := by
  rcases Nat.lt_or_ge 32 l.length with h1 | h1
  · have := (fault_zero (h 32 (by omega) (by omega))).1
    omega
  · exact h1
theorem Good.dec {l : Tbl} (h : Good l) : Dec l l.length := GoodTo.dec h
end Go.Proofs.YtkjagcamikkjkaaGreat.P


end

section
namespace Go.Proofs.YtkjagcamikkjkaaGreat.P
open Go.RowKit Go.Proofs.YtkjagcamikkjkaaGreatW.PrintWords Go.Proofs.YtkjagcamikkjkaaGreatW.PrintLast Go.Proofs.YtkjagcamikkjkaaGreatW.PrintMore
set_option linter.unusedVariables false
set_option linter.unusedSimpArgs false

def idxFrom (ws : List ByteArray) (s : ByteArray) : Nat → Nat → Int
  | 0, _ => -1
  | d + 1, i => if s = ws.getD i ByteArray.empty then (i : Int) else idxFrom ws s d (i + 1)
theorem index_tells (ws : List ByteArray) (s : ByteArray) (hw : ws.length ≤ 9223372036854775807) : ∀ (d i : Nat), ws.length - i = d → i ≤ ws.length → Ev (fun k => slices_Index_string_string.l0 k ws s (ws.length : Int) (i : Int)) (idxFrom ws s d i)
  | 0, i, hd, hi => Ev.step (f := fun _ => some (-1)) (fun k => by simp only [slices_Index_string_string.l0]; rw [if_neg (by omega)]) (Ev.now _)
  | d + 1, i, hd, hi => by
    have ih := index_tells ws s hw d (i + 1) (by omega) (by omega)
    unfold idxFrom
    have hrd : rdOf ByteArray.empty ws ((i : Nat) : Int) = ws.getD i ByteArray.empty := by simp [rdOf]
    by_cases e : s = ws.getD i ByteArray.empty
    · rw [if_pos e]
      exact Ev.step (f := fun _ => some _) (fun k => by simp only [slices_Index_string_string.l0]; rw [if_pos (by omega), if_pos (by omega), if_pos (by omega), hrd, if_pos ((str_eq _ _).mpr e)]) (Ev.now _)
    · rw [if_neg e]
      refine Ev.step (fun k => ?_) ih
      simp only [slices_Index_string_string.l0]
      rw [if_pos (by omega), if_pos (by omega), if_pos (by omega), hrd, if_neg (fun h9 => e ((str_eq _ _).mp h9)), w_next (n := ws.length) (by omega) (by omega) (by omega)]
      rfl
theorem words_is : types_words.f = some words6 := rfl
theorem Good.nameOk {l : Tbl} (h : Good l) {c : Int} (h0 : 0 ≤ c) (h1 : c < (l.length : Int)) : nameOk (nam l c) = true ∧ isWordB (nam l c) = false :=
  ⟨(fault_zero (h c h0 h1)).2.1, (fault_zero (h c h0 h1)).2.2.1⟩
end Go.Proofs.YtkjagcamikkjkaaGreat.P


end

section
namespace Go.Proofs.YtkjagcamikkjkaaGreat.P
open Go.RowKit Go.Proofs.YtkjagcamikkjkaaGreatW.PrintWords Go.Proofs.YtkjagcamikkjkaaGreatW.PrintLast Go.Proofs.YtkjagcamikkjkaaGreatW.PrintMore
set_option linter.unusedVariables false
set_option linter.unusedSimpArgs false
def classOf (l : List S38) (a : Int) : Int := if a < 16 then -1 else if (a - 16) % 256 ≥ (l.length : Int) then -1 else (a - 16) % 256
theorem class_is (l : List S38) (a : Int) : types_class.f l a = some (classOf l a) := by
  unfold types_class.f classOf
  split
  · rfl
  · split <;> rfl
theorem class_valid (l : Tbl) (a : Int) (ha : 0 ≤ a ∧ a ≤ 255) : classOf l a = if 16 ≤ a ∧ a - 16 < (l.length : Int) then a - 16 else -1 := by
  unfold classOf
  by_cases h1 : a < 16
  · rw [if_pos h1, if_neg (by omega)]
  · rw [if_neg h1, show (a - 16) % 256 = a - 16 by omega]
    by_cases h2 : a - 16 ≥ (l.length : Int)
    · rw [if_pos h2, if_neg (by omega)]
    · rw [if_neg h2, if_pos (by omega)]
theorem rd_class (l : Tbl) (i : Nat) (h : i < l.length) : rd_T38 l (i : Int) = l[i] := by simp [rd_T38, List.getD_eq_getElem?_getD, h]
theorem fields_len {l : Tbl} (hg : Good l) (c : Int) : (fieldsOf l c).length ≤ 32 := by
  by_cases h : c < (l.length : Int)
  · exact GoodTo.fields (Int.le_refl _) hg c h
  · rw [fieldsOf_out l c (by omega)]
    exact Nat.zero_le _
theorem impl_fields' {l : Tbl} (hg : Good l) (c : Int) : types_Fields.f l c = some (fieldsOf l c) := by
  have := hg.short
  have h2 := climbL_length l c
  have h3 := fields_len hg c
  unfold types_Fields.f
  rw [if_pos ⟨by omega, by unfold fieldsOf own at h3; omega⟩]
  rfl
theorem ref_fields' {l : Tbl} (hs : Sane l) (hg : Good l) (c : Int) : Ev (fun k => provisoref02_Fields.f k l c) (fieldsOf l c) := by
  by_cases h : c < (l.length : Int)
  · have := fields_len hg c
    exact ref_fields l l.length (Int.le_refl _) hs.2.1 hg.dec c h (by omega)
  · rw [fieldsOf_out l c (by omega)]
    unfold provisoref02_Fields.f provisoref02_Line.f
    refine Ev.bind (Ev.step (g := fun k => provisoref02_Line.l0 k l c []) (f := fun _ => some []) (fun k => by simp only [provisoref02_Line.l0]; rw [if_pos (by omega), if_neg (by omega)]) (Ev.now _)) ?_
    exact Ev.step (f := fun _ => some []) (fun k => by simp only [provisoref02_Fields.l0]; rw [if_neg (show ¬ (wrap64 ((([] : List Int).length : Int) - 1) ≥ 0) from by unfold wrap64; simp)]) (Ev.now _)
end Go.Proofs.YtkjagcamikkjkaaGreat.P


end

section
namespace Go.Proofs.YtkjagcamikkjkaaGreat.P
open Go.RowKit Go.Proofs.YtkjagcamikkjkaaGreatW.PrintWords Go.Proofs.YtkjagcamikkjkaaGreatW.PrintLast Go.Proofs.YtkjagcamikkjkaaGreatW.PrintMore
set_option linter.unusedVariables false
set_option linter.unusedSimpArgs false

theorem impl_name_tail (s : ByteArray) (hn : s.size ≤ 140737488351232) (d : Nat) : ∀ (k : Nat) (i : Int), 0 ≤ i → i ≤ s.size → (s.size : Int) - i = d → 3 * d < k → wire_IsName.l0 k s (s.size : Int) i = some (tailOk s d) := by
  induction d with
  | zero =>
    intro k i h0 h1 hd hk
    obtain ⟨k, rfl⟩ : ∃ m, k = m + 1 := ⟨k - 1, by omega⟩
    simp only [wire_IsName.l0]; rw [if_neg (by omega)]; rfl
  | succ d ih =>
    intro k i h0 h1 hd hk
    obtain ⟨k, rfl⟩ : ∃ m, k = m + 3 := ⟨k - 3, by omega⟩
    have hlt : i < (s.size : Int) := by omega
    have hi : (s.size : Int) - (d + 1) = i := by omega
    have h := ih k (i + 1) (by omega) (by omega) (by omega) (by omega)
    simp only [wire_IsName.l0, wire_IsName.j2, wire_IsName.j3, tailOk, hi]
    rw [if_pos hlt, if_pos h0, if_pos hlt, w_next h0 hlt (by omega)]
    have h' : wire_IsName.l0 k s (s.size : Int) (i + 1) = some (tailOk s d) := h
    rw [h']
    generalize bt s i = c
    generalize tailOk s d = t
    by_cases a1 : 97 ≤ c <;> by_cases a2 : c ≤ 122 <;> by_cases a3 : 65 ≤ c <;> by_cases a4 : c ≤ 90 <;> by_cases a5 : 0 < i <;> by_cases a6 : 48 ≤ c <;> by_cases a7 : c ≤ 57 <;> by_cases a8 : c = 95 <;> (try omega) <;> simp [sign, a1, a2, a3, a4, a5, a6, a7, a8]
theorem impl_name (s : ByteArray) (hn : s.size ≤ 140737488351232) : Ev (fun k => wire_IsName.f k s) (nameOk s) := by
  refine Ev.of (fun k => wire_IsName.mono s k) (k := 3 * s.size + 2) ?_
  have h1 := impl_name_tail s hn s.size (3 * s.size + 1) 0 (by omega) (by omega) (by omega) (by omega)
  unfold wire_IsName.f nameOk
  simp only [wire_IsName.j0, h1]
  by_cases a1 : (s.size : Int) = 0
  · rw [if_pos a1, decide_eq_false (by omega)]
    simp
  · rw [if_neg a1, decide_eq_true (by omega : 1 ≤ s.size)]
    by_cases a3 : (s.size : Int) > 24
    · rw [decide_eq_true a3, decide_eq_false (by omega : ¬ s.size ≤ 24)]
      simp
    · rw [decide_eq_false a3, decide_eq_true (by omega : s.size ≤ 24)]
      simp
def memB (ws : List ByteArray) (s : ByteArray) : Bool := ws.any fun t => decide (t = s)
theorem memB_iff (ws : List ByteArray) (s : ByteArray) : memB ws s = true ↔ s ∈ ws := by
  unfold memB
  rw [List.any_eq_true]
  exact ⟨fun ⟨x, h1, h2⟩ => (of_decide_eq_true h2) ▸ h1, fun h => ⟨s, h, decide_eq_true rfl⟩⟩
theorem idx_mem (ws : List ByteArray) (s : ByteArray) : ∀ (d i : Nat), i + d = ws.length → decide (idxFrom ws s d i ≥ 0) = memB (ws.drop i) s
  | 0, i, h => by
    rw [List.drop_of_length_le (by omega)]
    rfl
  | d + 1, i, h => by
    have hi : i < ws.length := by omega
    have hg : ws.getD i ByteArray.empty = ws[i] := by simp [List.getD_eq_getElem?_getD, hi]
    rw [List.drop_eq_getElem_cons hi]
    show decide ((if s = ws.getD i ByteArray.empty then (i : Int) else idxFrom ws s d (i + 1)) ≥ 0) = _
    rw [hg]
    by_cases e : s = ws[i]
    · rw [if_pos e, decide_eq_true (by omega), (memB_iff _ _).2 (by rw [e]; exact List.mem_cons_self)]
    · rw [if_neg e, idx_mem ws s d (i + 1) (by omega), Bool.eq_iff_iff, memB_iff, memB_iff, List.mem_cons]
      exact ⟨.inr, fun h => h.resolve_left e⟩
theorem impl_contains (ws : List ByteArray) (s : ByteArray) (hw : ws.length ≤ 9223372036854775807) : Ev (fun k => slices_Contains_string_string.f k ws s) (memB ws s) := by
  have h := idx_mem ws s ws.length 0 (by omega)
  rw [List.drop_zero] at h
  rw [← h]
  unfold slices_Contains_string_string.f
  exact Ev.bind (index_tells ws s hw ws.length 0 (by omega) (by omega)) (Ev.now _)
theorem impl_stored (l : Tbl) (a : Int) (ha : 0 ≤ a ∧ a ≤ 255) : types_stored.f l a = some (storedB l a) := by
  unfold types_stored.f storedB
  rw [class_is, Option.bind_some, class_valid l a ha]
  by_cases h1 : a = 1
  · subst h1; simp [validB]
  · by_cases h2 : a = 2
    · subst h2; simp [validB]
    · by_cases h4 : a = 4
      · subst h4; simp [validB]
      · by_cases h5 : a = 5
        · subst h5; simp [validB]
        · rw [if_neg h1, if_neg h2, if_neg h4, if_neg h5]
          by_cases h6 : 16 ≤ a ∧ a - 16 < (l.length : Int)
          · rw [if_pos h6]
            have : a ≠ 0 ∧ a ≠ 3 := by omega
            simp [validB, this.1, this.2, h6.1, h6.2]
          · rw [if_neg h6]
            by_cases h7 : a ≤ 5
            · have : a = 0 ∨ a = 3 := by omega
              rcases this with rfl | rfl <;> simp
            · have : validB l a = false := by
                rw [Bool.eq_false_iff, Ne, show (validB l a = true ↔ _) from by unfold validB; simp; exact Iff.rfl]
                omega
              rw [this]
              simp

theorem hasB_mem (fs : List S41) (s : ByteArray) : hasB fs s = memB (namesOf fs) s := by
  rw [Bool.eq_iff_iff, memB_iff]
  unfold hasB namesOf
  rw [List.any_eq_true, List.mem_map]
  exact ⟨fun ⟨x, h1, h2⟩ => ⟨x, h1, of_decide_eq_true h2⟩, fun ⟨x, h1, h2⟩ => ⟨x, h1, decide_eq_true h2⟩⟩
theorem met_mem (l : Tbl) (line : List Int) (s : ByteArray) : s ∈ metOf l line ↔ s ∈ namesOf (line.reverse.flatMap fun i => own l i) := by
  unfold metOf namesOf own
  rw [List.map_flatMap, List.mem_flatMap, List.mem_flatMap]
  simp only [List.mem_reverse]
theorem met_len (l : Tbl) : ∀ (line : List Int), (metOf l line).length = (line.reverse.flatMap fun i => own l i).length
  | [] => rfl
  | x :: line => by
    have ih := met_len l line
    unfold metOf at ih ⊢
    rw [List.flatMap_cons, List.length_append, ih, List.reverse_cons, List.flatMap_append, List.length_append]
    unfold namesOf own
    simp
    omega
theorem fault_tells (l : Tbl) (all : List S41) (met : List ByteArray) (hm : ∀ s, s ∈ met ↔ s ∈ namesOf all) (hml : met.length = all.length) (h1 : all.length ≤ 32) (fs : List S41) (h2 : fs.length * 24 ≤ 140737488351232) (h3 : ∀ x ∈ fs, x.f0.size ≤ 140737488351232 ∧ (0 ≤ x.f1 ∧ x.f1 ≤ 255)) : ∀ (d i : Nat), i + d = fs.length →
    Ev (fun k => types_fields.l0 k l fs i (met ++ namesOf (fs.take i))) (fieldFaultFrom l all fs d i)
  | 0, i, hd => by
    refine Ev.step (f := fun _ => some (if (fs.length : Int) > 32 - (all.length : Int) then 4 else 0)) (fun k => ?_) (Ev.now _)
    simp only [types_fields.l0]
    rw [if_neg (by omega)]
    have hl : (met ++ namesOf (fs.take i)).length = all.length + fs.length := by
      rw [List.length_append, names_len fs i (by omega), hml]
      omega
    rw [hl]
    by_cases e : (fs.length : Int) > 32 - (all.length : Int)
    · rw [if_pos e, if_pos (by omega)]
    · rw [if_neg e, if_neg (by omega)]
  | d + 1, i, hd => by
    have hi : i < fs.length := by omega
    have ih := fault_tells l all met hm hml h1 fs h2 h3 d (i + 1) (by omega)
    rw [names_next fs i hi, ← List.append_assoc] at ih
    have hx : rd_T41 fs (i : Int) ∈ fs := by
      have : rd_T41 fs (i : Int) = fs[i] := by simp [rd_T41, List.getD_eq_getElem?_getD, hi]
      rw [this]
      exact List.getElem_mem hi
    obtain ⟨q1, q2⟩ := h3 _ hx
    have hlen : (met ++ namesOf (fs.take i)).length = all.length + i := by rw [List.length_append, names_len fs i (by omega), hml]
    unfold fieldFaultFrom
    refine Ev.step (f := fun k => (wire_IsName.f k (rd_T41 fs i).f0).bind fun a => if a = true then ((slices_Contains_string_string.f k (met ++ namesOf (fs.take i)) (rd_T41 fs i).f0).bind fun b => if b = true then some 20 else ((types_stored.f l (rd_T41 fs i).f1).bind fun c => if c = true then types_fields.l0 k l fs (i + 1) (met ++ namesOf (fs.take i) ++ [(rd_T41 fs i).f0]) else some 22)) else some 6) (fun k => ?_) ?_
    · simp only [types_fields.l0]
      rw [if_pos hi, if_pos (by omega)]
    · refine Ev.bind (impl_name _ q1) ?_
      cases nameOk (rd_T41 fs i).f0 with
      | false =>
        show Ev _ (6 : Int)
        exact Ev.congr (fun k => by rw [if_neg (by simp)]) (Ev.now _)
      | true =>
        refine Ev.congr (fun k => by rw [if_pos rfl]) (Ev.bind (impl_contains _ _ (by omega)) ?_)
        rw [if_pos rfl]
        by_cases e1 : hasB all (rd_T41 fs i).f0 = true
        · have e1' := e1
          rw [hasB_mem, memB_iff, ← hm] at e1'
          rw [if_pos e1, (memB_iff _ _).2 (List.mem_append_left _ e1')]
          exact Ev.congr (fun k => by rw [if_pos rfl]) (Ev.now _)
        · by_cases e2 : hasB (fs.take i) (rd_T41 fs i).f0 = true
          · have e2' := e2
            rw [hasB_mem, memB_iff] at e2'
            rw [if_neg e1, if_pos e2, (memB_iff _ _).2 (List.mem_append_right _ e2')]
            exact Ev.congr (fun k => by rw [if_pos rfl]) (Ev.now _)
          · have e3 : ¬ (rd_T41 fs i).f0 ∈ met ++ namesOf (fs.take i) := by
              rw [List.mem_append, hm]
              rw [hasB_mem, memB_iff] at e1 e2
              exact fun h => h.elim e1 e2
            rw [if_neg e1, if_neg e2, Bool.eq_false_iff.mpr (fun h => e3 ((memB_iff _ _).1 h))]
            refine Ev.congr (fun k => by rw [if_neg (by simp), impl_stored l _ q2, Option.bind_some]) ?_
            cases storedB l (rd_T41 fs i).f1 with
            | false =>
              show Ev _ (22 : Int)
              exact Ev.congr (fun k => by rw [if_neg (by simp)]) (Ev.now _)
            | true => exact Ev.congr (fun k => by rw [if_pos rfl]) (by rw [if_pos rfl]; exact ih)
theorem impl_fields_fault (l : Tbl) (hs : Sane l) (c : Int) (h0 : 0 ≤ c) (h1 : c < (l.length : Int)) (hp : par l c < c) (hg : GoodTo l c) : Ev (fun k => types_fields.f k l c) (fieldFault l (fieldsOf l (par l c)) (own l c)) := by
  have hall : (fieldsOf l (par l c)).length ≤ 32 := GoodTo.fields (by omega) hg _ hp
  have hml := met_len l (climbL l (par l c))
  have ho := hs.own h0 h1
  have h := fault_tells l (fieldsOf l (par l c)) (metOf l (climbL l (par l c))) (fun s => met_mem l _ s) hml hall (own l c) ho.1 ho.2 (own l c).length 0 (by omega)
  refine Ev.congr (fun k => ?_) h
  unfold types_fields.f
  have hlim : (metOf l (climbL l (rd_T38 l c).f1)).length < 8796093022208 := by
    have : (metOf l (climbL l (par l c))).length ≤ 32 := by rw [hml]; exact hall
    unfold par at this
    omega
  rw [if_pos ⟨h0, h1, hlim⟩]
  show types_fields.l0 k l (own l c) 0 (metOf l (climbL l (par l c))) = _
  congr 1
  exact (List.append_nil _).symm

theorem ahead_any (l : Tbl) (c : Nat) (hc : c < l.length) : ∀ d : Nat, d ≤ c → aheadFrom l c d = ((l.take c).drop (c - d)).any fun x => x.f0.toList == (rd_T38 l c).f0.toList
  | 0, h => by
    rw [List.drop_of_length_le (by rw [List.length_take]; omega)]
    rfl
  | d + 1, h => by
    have hi : c - (d + 1) < (l.take c).length := by rw [List.length_take]; omega
    have hr : rd_T38 l ((c : Int) - ((d : Int) + 1)) = (l.take c)[c - (d + 1)] := by
      rw [show (c : Int) - ((d : Int) + 1) = ((c - (d + 1) : Nat) : Int) by omega, List.getElem_take]
      exact rd_class l _ (by omega)
    rw [List.drop_eq_getElem_cons hi, List.any_cons, show c - (d + 1) + 1 = c - d by omega, ← ahead_any l c hc d (by omega), ← hr]
    show (decide (nam l ((c : Int) - ((d : Int) + 1)) = nam l c) || aheadFrom l c d) = _
    congr 1
    unfold nam
    rw [Bool.eq_iff_iff, decide_eq_true_iff, beq_iff_eq]
    exact (str_eq _ _).symm
theorem impl_check_tells (l : Tbl) (hs : Sane l) : ∀ (d i : Nat), i + d = l.length → GoodTo l i → Ev (fun k => types_Check.l0 k l i) (checkFrom l d (i : Int))
  | 0, i, hd, hg => by
    exact Ev.step (f := fun _ => some _) (fun k => by simp only [types_Check.l0]; rw [if_neg (by omega)]; rfl) (Ev.now _)
  | d + 1, i, hd, hg => by
    have hi : i < l.length := by omega
    have hw : (rd_T38 l i).f0.size ≤ 140737488351232 := hs.nam (c := (i : Int)) (by omega) (by omega)
    have hfault : Ev (fun k => if i ≥ 32 then some 4 else ((wire_IsName.f k (rd_T38 l i).f0).bind fun a => if a = true then (types_words.f.bind fun ws => (slices_Contains_string_string.f k ws (rd_T38 l i).f0).bind fun b => if b = true then some 6 else (if ((l.take i).any fun x => x.f0.toList == (rd_T38 l i).f0.toList) = true then some 20 else (if (rd_T38 l i).f1 < -1 ∨ (rd_T38 l i).f1 ≥ i then some 21 else types_fields.f k l i))) else some 6)) (faultB l i) := by
      unfold faultB
      by_cases e1 : (i : Int) ≥ 32
      · rw [if_pos e1]
        exact Ev.congr (fun k => by rw [if_pos (by omega)]) (Ev.now _)
      · rw [if_neg e1]
        refine Ev.congr (fun k => by rw [if_neg (by omega)]) (Ev.bind (impl_name _ hw) ?_)
        have hn : nam l i = (rd_T38 l i).f0 := rfl
        rw [hn]
        cases nameOk (rd_T38 l i).f0 with
        | false =>
          show Ev _ (6 : Int)
          exact Ev.congr (fun k => by rw [if_neg (by simp)]) (Ev.now _)
        | true =>
          rw [if_pos rfl]
          refine Ev.congr (fun k => by rw [if_pos rfl, words_is, Option.bind_some]) (Ev.bind (impl_contains words6 _ (by decide)) ?_)
          have hword : isWordB (rd_T38 l i).f0 = memB words6 (rd_T38 l i).f0 := rfl
          rw [hword]
          cases memB words6 (rd_T38 l i).f0 with
          | true =>
            show Ev _ (6 : Int)
            exact Ev.congr (fun k => by rw [if_pos rfl]) (Ev.now _)
          | false =>
            rw [if_neg (by simp)]
            have hah := ahead_any l i hi i (Nat.le_refl _)
            rw [Nat.sub_self, List.drop_zero] at hah
            have hah2 : aheadB l i = aheadFrom l i i := by unfold aheadB; rw [Int.toNat_natCast]
            rw [hah2, hah]
            refine Ev.congr (fun k => by rw [if_neg (by simp)]) ?_
            cases ((l.take i).any fun x => x.f0.toList == (rd_T38 l i).f0.toList) with
            | true =>
              show Ev _ (20 : Int)
              exact Ev.congr (fun k => by rw [if_pos rfl]) (Ev.now _)
            | false =>
              rw [if_neg (by simp)]
              refine Ev.congr (fun k => by rw [if_neg (by simp)]) ?_
              unfold parFault
              by_cases q1 : par l i < -1
              · rw [if_pos q1]
                exact Ev.congr (fun k => by rw [if_pos (.inl q1)]) (Ev.now _)
              · by_cases q2 : par l i ≥ i
                · rw [if_neg q1, if_pos q2]
                  exact Ev.congr (fun k => by rw [if_pos (.inr q2)]) (Ev.now _)
                · rw [if_neg q1, if_neg q2]
                  refine Ev.congr (fun k => by rw [if_neg (fun h => h.elim q1 q2)]) ?_
                  exact impl_fields_fault l hs i (by omega) (by omega) (by omega) hg
    refine Ev.step (fun k => ?_) (Ev.bind hfault (f := fun k e => if e = 0 then types_Check.l0 k l (i + 1) else some ((i : Int), e)) ?_)
    · simp only [types_Check.l0]
      rw [if_pos hi]
    · unfold checkFrom
      by_cases e0 : faultB l i = 0
      · rw [if_pos e0]
        have ih := impl_check_tells l hs d (i + 1) (by omega) (fun c h0 h1 => by
          by_cases e : c = (i : Int)
          · subst e; exact e0
          · exact hg c h0 (by omega))
        exact Ev.congr (fun k => by rw [if_pos e0]) ih
      · rw [if_neg e0]
        exact Ev.congr (fun k => by rw [if_neg e0]) (Ev.now _)
theorem impl_check (l : Tbl) (hs : Sane l) : Ev (fun k => types_Check.f k l) (checkB l) := impl_check_tells l hs l.length 0 (by omega) (fun c h0 h1 => by omega)
end Go.Proofs.YtkjagcamikkjkaaGreat.P


end

section
namespace Go.Proofs.YtkjagcamikkjkaaGreat.P
open Go.RowKit Go.Proofs.YtkjagcamikkjkaaGreatW.PrintWords Go.Proofs.YtkjagcamikkjkaaGreatW.PrintLast Go.Proofs.YtkjagcamikkjkaaGreatW.PrintMore
attribute [local go_sem] max2_int min2_int max_two min_two max_three min_three max_four min_four
set_option linter.unusedVariables false
set_option linter.unusedSimpArgs false
theorem good_fields {l : List S38} (hg : Good l) : FieldsOK l := fun c _ _ => impl_fields' hg c
theorem HeapAt.dom {w0 : World} {s : HS} {W : World} (h : HeapAt w0 s W) : ∀ x o, s.m x = some o → ObjOK s.l s.last x o := by
  obtain ⟨ob, rb, h⟩ := h
  exact h.dom
def BadRoots (s : HS) (roots : List Int) : Prop := ∃ x ∈ roots, x ≠ 0 ∧ s.m x = none
theorem good_roots {s : HS} {roots : List Int} (h : ¬ BadRoots s roots) : ∀ x ∈ roots, x ≠ 0 → (s.m x).isSome = true := fun x hx h0 => by
  cases hm : s.m x with
  | none => exact absurd ⟨x, hx, h0, hm⟩ h
  | some o => rfl
theorem mark_total {s : HS} (h : SumOK s) (hu : s.used ≤ 4096) (roots : List Int) : (BadRoots s roots ∧ markM 8193 s roots = some none) ∨ ∃ met, ¬ BadRoots s roots ∧ markM 8193 s roots = some (some met) ∧ Reached s roots met ∧ met.length ≤ 4096 := by
  by_cases hb : BadRoots s roots
  · exact .inl ⟨hb, mark_bad s _ roots hb⟩
  · obtain ⟨met, h1, h2⟩ := mark_good s 4096 (h.few hu) (Nat.le_refl _) roots (good_roots hb)
    exact .inr ⟨met, hb, h1, h2, h.few hu met h2.nd h2.live⟩
theorem HeapAt.used_le {w0 : World} {s : HS} {W : World} (h : HeapAt w0 s W) : s.used ≤ 4096 := by have := h.num; omega
theorem live_few {s : HS} (h : SumOK s) (hu : s.used ≤ 4096) : (liveL s).length ≤ 4096 := h.few hu _ (rising_nodup (liveL_rising s)) (fun x hx => (liveL_mem h.1 x).1 hx)
theorem hp_LiveS (w0 : World) (s : HS) (hs : SumOK s) (hlast : s.last < 17592186044416) (W : World) (h : HeapAt w0 s W) : Calls Tryz.prog 31 #[.pointer (some ⟨s.hb, 0, none⟩)] W fun e w' => ∃ v : Value, e = .returned v ∧ Kd.R (Kd.int .i64) 3 w' W.heap.size (fun _ => True) v (liveL s) ∧ Below W.heap.size W w' :=
  (hp_Live w0 s hlast W h).mono fun e w' ⟨v, ls, h1, h2, h3, h4, h5⟩ => by
    obtain rfl : ls = liveL s := rising_same h3 (liveL_rising s) (fun x => by rw [h4, liveL_mem hs.1])
    exact ⟨v, h1, h2, h5⟩
def reachL (s : HS) (met : List Int) : List Int := (liveL s).filter fun x => memH met x
theorem reachL_mem {s : HS} (hs : SumOK s) {met : List Int} (hl : ∀ x ∈ met, (s.m x).isSome = true) (x : Int) : x ∈ reachL s met ↔ x ∈ met := by
  unfold reachL memH
  rw [List.mem_filter, liveL_mem hs.1]
  simp only [decide_eq_true_eq]
  exact ⟨And.right, fun h => ⟨hl x h, h⟩⟩
theorem reachL_rising (s : HS) (met : List Int) : (reachL s met).Pairwise (· < ·) := (liveL_rising s).filter _
theorem hp_ReachS (w0 : World) (s : HS) (hs : SumOK s) (hg : Good s.l) (hlast : s.last < 4611686018427387904) (A : Option Addr) (c : Nat) (roots : List Int) (W : World) (h : HeapAt w0 s W) (hC : (Kd.int .i64).C W A roots.length roots) (hrk : ∀ y ∈ roots, I64 y) (hrl : roots.length < 17592186044416) :
    Calls Tryz.prog 24 #[.pointer (some ⟨s.hb, 0, none⟩), .slice A roots.length c] W fun e w' => Below W.heap.size W w' ∧ ((BadRoots s roots ∧ e = .returned (.tuple #[.slice none 0 0, .int .i64 141])) ∨ ∃ (met : List Int) (v : Value), ¬ BadRoots s roots ∧ Reached s roots met ∧ e = .returned (.tuple #[v, .int .i64 0]) ∧ Kd.R (Kd.int .i64) 3 w' W.heap.size (fun _ => True) v (reachL s met)) := by
  rcases mark_total hs h.used_le roots with ⟨hb, hm⟩ | ⟨met, hb, hm, hR, hl⟩
  · exact (hp_Reach w0 s 8193 A c roots none W h (good_fields hg) hlast hC hrk hrl hm (fun _ h => by cases h)).mono fun e w' ⟨h1, h2⟩ => ⟨h1, by
      rcases h2 with ⟨_, h2⟩ | ⟨met, _, _, h2, _⟩
      · exact .inl ⟨hb, h2⟩
      · cases h2⟩
  · exact (hp_Reach w0 s 8193 A c roots (some met) W h (good_fields hg) hlast hC hrk hrl hm (fun m h => by cases h; omega)).mono fun e w' ⟨h1, h2⟩ => ⟨h1, by
      rcases h2 with ⟨h2, _⟩ | ⟨met', v, ls, h2, h3, h4, h5, h6⟩
      · cases h2
      · cases h2
        obtain rfl : ls = reachL s met := rising_same h5 (reachL_rising s met) (fun x => by rw [h6, reachL_mem hs hR.live])
        exact .inr ⟨met, v, hb, hR, h3, h4⟩⟩
theorem hp_CollectS (w0 : World) (s : HS) (hs : SumOK s) (hg : Good s.l) (hlast : s.last < 17592186044416) (A : Option Addr) (c : Nat) (roots : List Int) (W : World) (h : HeapAt w0 s W) (hC : (Kd.int .i64).C W A roots.length roots) (hrk : ∀ y ∈ roots, I64 y) (hrl : roots.length < 17592186044416) :
    Calls Tryz.prog 27 #[.pointer (some ⟨s.hb, 0, none⟩), .slice A roots.length c] W fun e w' => (BadRoots s roots ∧ e = .returned (.tuple #[.int .i64 0, .int .i64 141]) ∧ HeapAt w0 s w') ∨ ∃ met : List Int, ¬ BadRoots s roots ∧ Reached s roots met ∧ e = .returned (.tuple #[.int .i64 (goC met s 0 (liveL s)).1, .int .i64 0]) ∧ HeapAt w0 (colS s met) w' := by
  have hlf := live_few hs h.used_le
  rcases mark_total hs h.used_le roots with ⟨hb, hm⟩ | ⟨met, hb, hm, hR, hl⟩
  · exact (hp_Collect w0 s 8193 A c roots none (liveL s) W h (good_fields hg) hlast hC hrk hrl hm (liveL_rising s) (fun x => liveL_mem hs.1 x) (by omega) (fun _ h => by cases h)).mono fun e w' h2 => by
      rcases h2 with ⟨_, h2, h3⟩ | ⟨met, h2, _⟩
      · exact .inl ⟨hb, h2, h.step h3⟩
      · cases h2
  · exact (hp_Collect w0 s 8193 A c roots (some met) (liveL s) W h (good_fields hg) hlast hC hrk hrl hm (liveL_rising s) (fun x => liveL_mem hs.1 x) (by omega) (fun m _ => hs.collect_le m)).mono fun e w' h2 => by
      rcases h2 with ⟨h2, _⟩ | ⟨met', h2, h3, h4⟩
      · cases h2
      · cases h2
        exact .inr ⟨met, hb, hR, h3, h4⟩
structure LifeS (l0 : List S38) (room : Int) (j : Nat) (s : HS) : Prop where
  l : s.l = l0
  good : Good l0
  room : s.room = room
  sum : SumOK s
  last : s.last ≤ j
  fr : ∀ k, ¬ s.fr k
theorem addM_last (s : HS) (c n : Int) : (addM s c n).2.2.last ≤ s.last + 1 ∧ (addM s c n).2.2.l = s.l ∧ (addM s c n).2.2.room = s.room ∧ (addM s c n).2.2.fr = s.fr ∧ (addM s c n).2.2.hb = s.hb := by
  unfold addM
  split
  · exact ⟨Nat.le_succ _, rfl, rfl, rfl, rfl⟩
  · exact ⟨Nat.le_refl _, rfl, rfl, rfl, rfl⟩
theorem LifeS.addM {l0 : List S38} {room : Int} {j : Nat} {s : HS} (h : LifeS l0 room j s) (c n : Int) (hn : 0 ≤ n) : LifeS l0 room (j + 1) (addM s c n).2.2 := by
  obtain ⟨h1, h2, h3, h4, _⟩ := addM_last s c n
  exact ⟨h2.trans h.l, h.good, h3.trans h.room, h.sum.add c n hn, by have := h.last; omega, by rw [h4]; exact h.fr⟩
theorem LifeS.up {l0 : List S38} {room : Int} {j : Nat} {s : HS} (h : LifeS l0 room j s) : LifeS l0 room (j + 1) s := ⟨h.l, h.good, h.room, h.sum, Nat.le_succ_of_le h.last, h.fr⟩
theorem LifeS.row {l0 : List S38} {room : Int} {j : Nat} {s : HS} (h : LifeS l0 room j s) (n : Int) : LifeS l0 room (j + 1) (rowM s n).2.2 := by
  unfold rowM
  split
  · exact h.up
  · exact h.addM _ _ (by omega)
theorem putM_keeps (s : HS) (x i v : Int) : (putM s x i v).2.last = s.last ∧ (putM s x i v).2.l = s.l ∧ (putM s x i v).2.room = s.room ∧ (putM s x i v).2.fr = s.fr ∧ (putM s x i v).2.hb = s.hb := by
  unfold putM
  split
  · split
    · exact ⟨rfl, rfl, rfl, rfl, rfl⟩
    · exact ⟨rfl, rfl, rfl, rfl, rfl⟩
  · exact ⟨rfl, rfl, rfl, rfl, rfl⟩
theorem LifeS.put {l0 : List S38} {room : Int} {j : Nat} {s : HS} (h : LifeS l0 room j s) (x i v : Int) : LifeS l0 room (j + 1) (putM s x i v).2 := by
  obtain ⟨h1, h2, h3, h4, _⟩ := putM_keeps s x i v
  exact ⟨h2.trans h.l, h.good, h3.trans h.room, h.sum.put x i v, by have := h.last; omega, by rw [h4]; exact h.fr⟩
theorem LifeS.collect {l0 : List S38} {room : Int} {j : Nat} {s : HS} (h : LifeS l0 room j s) (met : List Int) : LifeS l0 room (j + 1) (colS s met) := by
  refine ⟨?_, h.good, ?_, h.sum.collect met, ?_, ?_⟩ <;> rw [colS_eq]
  · exact h.l
  · exact h.room
  · exact Nat.le_succ_of_le h.last
  · exact h.fr
theorem LifeS.start (hb B : Nat) (vc : Value) {l0 : List S38} (hg : Good l0) (room : Int) (W : World) : LifeS l0 room 0 ⟨hb, B, vc, l0, room, 0, 0, fun _ => none, fun _ => False, W⟩ :=
  ⟨rfl, hg, rfl, ⟨fun x o h => (by cases h), (by unfold liveL; rfl)⟩, Nat.le_refl _, fun _ h => h⟩
end Go.Proofs.YtkjagcamikkjkaaGreat.P

end

section
namespace Go.Proofs.YtkjagcamikkjkaaGreat.P
open Go.RowKit Go.Proofs.YtkjagcamikkjkaaGreatW.PrintWords Go.Proofs.YtkjagcamikkjkaaGreatW.PrintLast Go.Proofs.YtkjagcamikkjkaaGreatW.PrintMore
attribute [local go_sem] max2_int min2_int max_two min_two max_three min_three max_four min_four
set_option linter.unusedVariables false
set_option linter.unusedSimpArgs false
def oz : Bool × Int × List Int := (false, 0, [])
structure DS where
  db : Nat
  A : Option Addr
  c : Nat
  l : List S38
  room : Int
  ov : Value
  obs : List (Bool × Int × List Int)
def objC (rb : Nat → Nat) (i : Nat) (o : Bool × Int × List Int) : List Value := [.bool o.1, .int .i64 o.2.1, .slice (if o.1 = true then some ⟨rb i, 0, none⟩ else none) o.2.2.length o.2.2.length]
def rowsD (obs : List (Bool × Int × List Int)) (rb : Nat → Nat) : List (List Value) := (List.range obs.length).map fun i => objC rb i (obs.getD i oz)
theorem rowsD_len (obs : List (Bool × Int × List Int)) (rb : Nat → Nat) : (rowsD obs rb).length = obs.length := by simp [rowsD]
def DOK (o : Bool × Int × List Int) : Prop := (o.1 = false → o.2.2 = []) ∧ o.2.2.length ≤ 4096 ∧ (∀ y ∈ o.2.2, -2147483648 ≤ y ∧ y ≤ 2147483647) ∧ -1 ≤ o.2.1
structure DIn (w0 : World) (F : Nat → Prop) (d : DS) (rb : Nat → Nat) (W : World) : Prop where
  hd : W.heap[d.db]? = some (.cells #[.slice d.A d.l.length d.c, .int .i64 d.room, d.ov] 57 (0, 0))
  ro : Kd.R (Kd.raw 3) 83 W w0.heap.size F d.ov (rowsD d.obs rb)
  pl : ∀ i, i < d.obs.length → (d.obs.getD i oz).1 = true → W.heap[rb i]? = some (.cells ((d.obs.getD i oz).2.2.map (Value.int .i64)).toArray 3 (0, 0)) ∧ F (rb i) ∧ w0.heap.size ≤ rb i
  inj : ∀ i j, i < d.obs.length → j < d.obs.length → (d.obs.getD i oz).1 = true → (d.obs.getD j oz).1 = true → i ≠ j → rb i ≠ rb j
  ok : ∀ i, i < d.obs.length → DOK (d.obs.getD i oz)
  fd : F d.db ∧ w0.heap.size ≤ d.db
  cl : Kd.C k38 w0 d.A d.l.length d.l ∧ d.l.length ≤ d.c
  below : Below w0.heap.size w0 W
theorem DIn.step {w0 : World} {F : Nat → Prop} {d : DS} {rb : Nat → Nat} {W W1 : World} (h : DIn w0 F d rb W) (hb : Below W.heap.size W W1) : DIn w0 F d rb W1 :=
  ⟨blk_below h.hd hb, Kd.R_below h.ro hb, fun i hi ht => ⟨blk_below (h.pl i hi ht).1 hb, (h.pl i hi ht).2⟩, h.inj, h.ok, h.fd, h.cl, below_step h.below hb⟩
theorem rows_at {obs : List (Bool × Int × List Int)} (rb : Nat → Nat) {i : Nat} (hi : i < obs.length) : (rowsD obs rb).getD i [] = objC rb i (obs.getD i oz) := by
  rw [List.getD_eq_getElem?_getD, List.getElem?_eq_getElem (by rw [rowsD_len]; exact hi)]
  simp [rowsD]
theorem DIn.ovs {w0 : World} {F : Nat → Prop} {d : DS} {rb : Nat → Nat} {W : World} (h : DIn w0 F d rb W) : ∃ A c, d.ov = .slice A d.obs.length c := by
  obtain ⟨A, c, e⟩ := Kd.R_slice h.ro
  rw [rowsD_len] at e
  exact ⟨A, c, e⟩
theorem DIn.at_ {w0 : World} {F : Nat → Prop} {d : DS} {rb : Nat → Nat} {W : World} (h : DIn w0 F d rb W) {i : Nat} (hi : i < d.obs.length) : ∃ ad c, d.ov = .slice (some ad) d.obs.length c ∧ W.cell? (ad.add (i * 3)) = some (.bool (d.obs.getD i oz).1) ∧ W.cell? ⟨(ad.add (i * 3)).block, (ad.add (i * 3)).off + 1, none⟩ = some (.int .i64 (d.obs.getD i oz).2.1) ∧ W.cell? ⟨(ad.add (i * 3)).block, (ad.add (i * 3)).off + 2, none⟩ = some (.slice (if (d.obs.getD i oz).1 = true then some ⟨rb i, 0, none⟩ else none) (d.obs.getD i oz).2.2.length (d.obs.getD i oz).2.2.length) := by
  obtain ⟨A, c, e, hl, hC⟩ := Kd.R_reads h.ro
  rw [rowsD_len] at e hC
  obtain ⟨ad, cs, eA, _, hK, hc0⟩ := Kd.C_get hC [] (i : Int) (by omega) (by omega)
  rw [Int.toNat_natCast, rows_at rb hi] at hK
  obtain rfl := hK.1
  have hc : ∀ j u, (objC rb i (d.obs.getD i oz))[j]? = some u → W.cell? (ad.add (i * 3 + j)) = some u := fun j u hj => by have := hc0 j u hj; rw [Int.toNat_natCast] at this; exact this
  refine ⟨ad, c, by rw [e, eA], hc 0 _ rfl, by rw [← add_field _ _ 1 (by omega)]; exact hc 1 _ rfl, by rw [← add_field _ _ 2 (by omega)]; exact hc 2 _ rfl⟩
theorem DIn.cells {w0 : World} {F : Nat → Prop} {d : DS} {rb : Nat → Nat} {W : World} (h : DIn w0 F d rb W) : W.cell? ⟨d.db, 0, none⟩ = some (.slice d.A d.l.length d.c) ∧ W.cell? ⟨d.db, 1, none⟩ = some (.int .i64 d.room) ∧ W.cell? ⟨d.db, 2, none⟩ = some d.ov := ⟨blk_cell h.hd 0, blk_cell h.hd 1, blk_cell h.hd 2⟩
def mOf (obs : List (Bool × Int × List Int)) : Int → Option (Int × List Int) := fun x => if 1 ≤ x ∧ x ≤ (obs.length : Int) ∧ (obs.getD (x - 1).toNat oz).1 = true then some ((obs.getD (x - 1).toNat oz).2.1, (obs.getD (x - 1).toNat oz).2.2) else none
theorem mOf_out {obs : List (Bool × Int × List Int)} {x : Int} (h : ¬ (1 ≤ x ∧ x ≤ (obs.length : Int))) : mOf obs x = none := by
  unfold mOf
  rw [if_neg (fun q => h ⟨q.1, q.2.1⟩)]
theorem mOf_in {obs : List (Bool × Int × List Int)} {i : Nat} (hi : i < obs.length) : mOf obs ((i : Int) + 1) = if (obs.getD i oz).1 = true then some ((obs.getD i oz).2.1, (obs.getD i oz).2.2) else none := by
  unfold mOf
  rw [show ((i : Int) + 1 - 1).toNat = i by omega]
  by_cases h : (obs.getD i oz).1 = true
  · rw [if_pos ⟨by omega, by omega, h⟩, if_pos h]
  · rw [if_neg (fun q => h q.2.2), if_neg h]
theorem ref_split {n : Nat} {x : Int} (h : 1 ≤ x ∧ x ≤ (n : Int)) : ∃ i : Nat, i < n ∧ x = (i : Int) + 1 := ⟨(x - 1).toNat, by omega, by omega⟩
end Go.Proofs.YtkjagcamikkjkaaGreat.P

end

section
namespace Go.Proofs.YtkjagcamikkjkaaGreat.P
open Go.RowKit Go.Proofs.YtkjagcamikkjkaaGreatW.PrintWords Go.Proofs.YtkjagcamikkjkaaGreatW.PrintLast Go.Proofs.YtkjagcamikkjkaaGreatW.PrintMore
attribute [local go_sem] max2_int min2_int max_two min_two max_three min_three max_four min_four
set_option linter.unusedVariables false
set_option linter.unusedSimpArgs false
set_option maxHeartbeats 1600000 in
set_option maxRecDepth 100000 in
theorem rf_There (w0 : World) (F : Nat → Prop) (d : DS) (rb : Nat → Nat) (x : Int) (hk : I64 x) (hn : d.obs.length < 4611686018427387904) (W : World) (h : DIn w0 F d rb W) : Calls Tryz.prog 34 #[.pointer (some ⟨d.db, 0, none⟩), .int .i64 x] W fun e w' => e = .returned (.bool (mOf d.obs x).isSome) ∧ Below W.heap.size W w' := by
  have H := Aside0.mk h
  obtain ⟨A, c, eo⟩ := h.ovs
  obtain ⟨f0, f1, f2⟩ := h.cells
  rw [eo] at f2
  clear f0 f1
  by_cases c1 : 1 ≤ x
  · have c1b : decide (x ≥ 1) = true := decide_eq_true c1
    have c1c : decide (1 ≤ x) = true := decide_eq_true c1
    by_cases c2 : x ≤ (d.obs.length : Int)
    · obtain ⟨i, hi, rfl⟩ := ref_split ⟨c1, c2⟩
      obtain ⟨ad, c', e', g0, g1, g2⟩ := h.at_ hi
      rw [eo] at e'
      injection e' with e1 _ e3
      subst e1 e3
      have c2b : decide ((i : Int) + 1 ≤ (d.obs.length : Int)) = true := decide_eq_true c2
      have hw : wrap64 (i : Int) = (i : Int) := by unfold wrap64; omega
      have p5 : (0 ≤ (i : Int)) = True := eq_true (by omega)
      have p6 : ((i : Int) < (d.obs.length : Int)) = True := eq_true (by omega)
      rw [mOf_in hi]
      cases ht : (d.obs.getD i oz).1 with
      | true =>
        rw [ht] at g0
        clear h eo c1 c2 hi hk hn g1 g2
        go_enter Tryz.func34, Tryz.ntmps34
        go_wp2

        go_ret
        exact ⟨rfl, Below.refl _ _⟩
      | false =>
        rw [ht] at g0
        clear h eo c1 c2 hi hk hn g1 g2
        go_enter Tryz.func34, Tryz.ntmps34
        go_wp2
        go_ret
        exact ⟨rfl, Below.refl _ _⟩
    · rw [mOf_out (fun q => c2 q.2), Option.isSome_none]
      have c2b : decide (x ≤ (d.obs.length : Int)) = false := decide_eq_false c2
      clear h eo c1 c2 hk hn
      go_enter Tryz.func34, Tryz.ntmps34
      go_wp2
      go_ret
      exact ⟨rfl, Below.refl _ _⟩
  · rw [mOf_out (fun q => c1 q.1), Option.isSome_none]
    have c1b : decide (x ≥ 1) = false := decide_eq_false c1
    have c1c : decide (1 ≤ x) = false := decide_eq_false c1
    clear h eo c1 hk hn
    go_enter Tryz.func34, Tryz.ntmps34
    go_wp2
    go_ret
    exact ⟨rfl, Below.refl _ _⟩
end Go.Proofs.YtkjagcamikkjkaaGreat.P

end

section
namespace Go.Proofs.YtkjagcamikkjkaaGreat.P
open Go.RowKit Go.Proofs.YtkjagcamikkjkaaGreatW.PrintWords Go.Proofs.YtkjagcamikkjkaaGreatW.PrintLast Go.Proofs.YtkjagcamikkjkaaGreatW.PrintMore
attribute [local go_sem] max2_int min2_int max_two min_two max_three min_three max_four min_four
set_option linter.unusedVariables false
set_option linter.unusedSimpArgs false
def fltM (m : Int → Option (Int × List Int)) (x : Int) : Int := if x = 0 then 140 else if (m x).isSome = true then 0 else 141
set_option maxHeartbeats 1600000 in
set_option maxRecDepth 100000 in
theorem rf_fault (w0 : World) (F : Nat → Prop) (d : DS) (rb : Nat → Nat) (x : Int) (hk : I64 x) (hn : d.obs.length < 4611686018427387904) (W : World) (h : DIn w0 F d rb W) : Calls Tryz.prog 50 #[.pointer (some ⟨d.db, 0, none⟩), .int .i64 x] W fun e w' => e = .returned (.int .i64 (fltM (mOf d.obs) x)) ∧ Below W.heap.size W w' := by
  have H := Aside0.mk h
  have HK := Aside0.mk hk
  have HN := Aside0.mk hn
  clear h hk hn
  unfold fltM
  by_cases c0 : x = 0
  · subst c0
    rw [if_pos rfl]
    go_enter Tryz.func50, Tryz.ntmps50
    go_wp2
    go_ret
    exact ⟨rfl, Below.refl _ _⟩
  · rw [if_neg c0]
    have c0b : (x == 0) = false := by rw [beq_eq_false_iff_ne]; exact c0
    clear c0
    have hcall := rf_There w0 F d rb x HK.out HN.out W H.out
    cases hq : (mOf d.obs x).isSome with
    | true =>
      rw [hq] at hcall
      rw [if_pos rfl]
      have HC := Aside0.mk hcall
      clear hcall hq
      go_enter Tryz.func50, Tryz.ntmps50
      go_wp2_with fail
      refine HC.out.mono ?_
      rintro e w1 ⟨rfl, hb⟩
      have HB := Aside0.mk hb
      clear hb HC
      go_wp2_with fail
      go_ret
      exact ⟨rfl, HB.out⟩
    | false =>
      rw [hq] at hcall
      rw [if_neg (by decide)]
      have HC := Aside0.mk hcall
      clear hcall hq
      go_enter Tryz.func50, Tryz.ntmps50
      go_wp2_with fail
      refine HC.out.mono ?_
      rintro e w1 ⟨rfl, hb⟩
      have HB := Aside0.mk hb
      clear hb HC
      go_wp2_with fail
      go_ret
      exact ⟨rfl, HB.out⟩
theorem flt_some {m : Int → Option (Int × List Int)} {x : Int} {o : Int × List Int} (h0 : ¬ x = 0) (ho : m x = some o) : fltM m x = 0 := by unfold fltM; rw [if_neg h0, ho]; rfl
theorem flt_no {m : Int → Option (Int × List Int)} {x : Int} (ho : m x = none) : fltM m x = (if x = 0 then 140 else 141) := by unfold fltM; rw [ho]; rfl
theorem mOf_zero (obs : List (Bool × Int × List Int)) : mOf obs 0 = none := mOf_out (by omega)
theorem mOf_ne {obs : List (Bool × Int × List Int)} {x : Int} {o : Int × List Int} (h : mOf obs x = some o) : ¬ x = 0 := fun e => by rw [e, mOf_zero] at h; cases h
theorem lenM_no {s : HS} {x : Int} (h : s.m x = none) : lenM s x = (0, if x = 0 then 140 else 141) := by unfold lenM; rw [h]; split <;> rfl
theorem lenM_yes {s : HS} {x : Int} {o : Int × List Int} (h0 : ¬ x = 0) (h : s.m x = some o) : lenM s x = ((o.2.length : Int), 0) := by unfold lenM; rw [if_neg h0, h]
set_option maxHeartbeats 1600000 in
set_option maxRecDepth 100000 in
theorem rf_Len (w0 : World) (F : Nat → Prop) (d : DS) (rb : Nat → Nat) (s : HS) (hm : s.m = mOf d.obs) (x : Int) (hk : I64 x) (hn : d.obs.length < 4611686018427387904) (W : World) (h : DIn w0 F d rb W) : Calls Tryz.prog 23 #[.pointer (some ⟨d.db, 0, none⟩), .int .i64 x] W fun e w' => e = .returned (.tuple #[.int .i64 (lenM s x).1, .int .i64 (lenM s x).2]) ∧ Below W.heap.size W w' := by
  have H := Aside0.mk h
  have HN := Aside0.mk hn
  have HK := Aside0.mk hk
  clear h hn hk
  have hcall := rf_fault w0 F d rb x HK.out HN.out W H.out
  cases ho : mOf d.obs x with
  | none =>
    rw [flt_no ho] at hcall
    rw [lenM_no (by rw [hm]; exact ho)]
    have HC := Aside0.mk hcall
    clear hcall ho hm
    obtain ⟨n, hn⟩ : ∃ n : Int, n = (if x = 0 then 140 else 141) := ⟨_, rfl⟩
    rw [← hn] at HC
    have hnb : (n != 0) = true := by rw [bne_iff_ne, hn]; split <;> decide
    have hnc : (n == 0) = false := by rw [beq_eq_false_iff_ne, hn]; split <;> decide
    simp only [← hn]
    clear hn
    go_enter Tryz.func23, Tryz.ntmps23
    go_wp2_with fail
    refine HC.out.mono ?_
    rintro e w1 ⟨rfl, hb⟩
    have HB := Aside0.mk hb
    clear hb HC
    go_wp2_with fail
    go_ret2
    exact ⟨rfl, HB.out⟩
  | some o =>
    have h0 := mOf_ne ho
    rw [flt_some h0 ho] at hcall
    rw [lenM_yes h0 (by rw [hm]; exact ho)]
    have HC := Aside0.mk hcall
    clear hcall h0 hm
    obtain ⟨i, hi, rfl⟩ : ∃ i : Nat, i < d.obs.length ∧ x = (i : Int) + 1 := ref_split (Classical.byContradiction fun q => by rw [mOf_out q] at ho; cases ho)
    have hot : (d.obs.getD i oz).1 = true ∧ (d.obs.getD i oz).2.1 = o.1 ∧ (d.obs.getD i oz).2.2 = o.2 := by
      rw [mOf_in hi] at ho
      split at ho
      · rename_i h9
        cases ho
        exact ⟨h9, rfl, rfl⟩
      · cases ho
    have HI := Aside0.mk hi
    have hw : wrap64 (i : Int) = (i : Int) := by have := HN.out; unfold wrap64; omega
    have p5 : (0 ≤ (i : Int)) = True := eq_true (by omega)
    have p6 : ((i : Int) < (d.obs.length : Int)) = True := eq_true (by omega)
    have HOT := Aside0.mk hot
    clear hi hot ho
    go_enter Tryz.func23, Tryz.ntmps23
    go_wp2_with fail
    refine HC.out.mono ?_
    rintro e w1 ⟨rfl, hb⟩
    have HB := Aside0.mk hb
    replace H := Aside0.mk (H.out.step hb)
    clear hb HC
    obtain ⟨ad, cc, eo, g0, g1, g2⟩ := H.out.at_ HI.out
    rw [HOT.out.1, if_pos rfl, HOT.out.2.2] at g2
    rw [HOT.out.2.1] at g1
    obtain ⟨_, _, f2⟩ := H.out.cells
    rw [eo] at f2
    go_wp2_with fail
    go_ret2
    exact ⟨rfl, HB.out⟩
theorem getM_no {s : HS} {x i : Int} (h : s.m x = none) : getM s x i = (0, if x = 0 then 140 else 141) := by
  unfold getM placeE
  rw [h]
  by_cases h0 : x = 0
  · rw [if_pos h0]; rfl
  · rw [if_neg h0]; rfl
theorem getM_out {s : HS} {x i : Int} {o : Int × List Int} (h0 : ¬ x = 0) (h : s.m x = some o) (hi : ¬ (0 ≤ i ∧ i < (o.2.length : Int))) : getM s x i = (0, 142) := by
  unfold getM
  rw [placeE_out h0 h hi, if_neg (by decide)]
theorem getM_yes {s : HS} {x i : Int} {o : Int × List Int} (h0 : ¬ x = 0) (h : s.m x = some o) (hi : 0 ≤ i ∧ i < (o.2.length : Int)) : getM s x i = (o.2.getD i.toNat 0, 0) := by
  unfold getM numAt
  rw [placeE_in h0 h hi, if_pos rfl, h]
  rfl
set_option maxHeartbeats 1600000 in
set_option maxRecDepth 100000 in
theorem rf_Get (w0 : World) (F : Nat → Prop) (d : DS) (rb : Nat → Nat) (s : HS) (hm : s.m = mOf d.obs) (x j : Int) (hk : I64 x) (hn : d.obs.length < 4611686018427387904) (W : World) (h : DIn w0 F d rb W) : Calls Tryz.prog 19 #[.pointer (some ⟨d.db, 0, none⟩), .int .i64 x, .int .i64 j] W fun e w' => e = .returned (.tuple #[.int .i64 (getM s x j).1, .int .i64 (getM s x j).2]) ∧ Below W.heap.size W w' := by
  have H := Aside0.mk h
  have HN := Aside0.mk hn
  have HK := Aside0.mk hk
  clear h hn hk
  have hcall := rf_Len w0 F d rb s hm x HK.out HN.out W H.out
  cases ho : mOf d.obs x with
  | none =>
    rw [lenM_no (by rw [hm]; exact ho)] at hcall
    rw [getM_no (by rw [hm]; exact ho)]
    have HC := Aside0.mk hcall
    clear hcall ho hm
    obtain ⟨n, hn⟩ : ∃ n : Int, n = (if x = 0 then 140 else 141) := ⟨_, rfl⟩
    simp only [← hn] at HC ⊢
    have hnb : (n != 0) = true := by rw [bne_iff_ne, hn]; split <;> decide
    have hnc : (n == 0) = false := by rw [beq_eq_false_iff_ne, hn]; split <;> decide
    clear hn
    go_enter Tryz.func19, Tryz.ntmps19
    go_wp2_with fail
    refine HC.out.mono ?_
    rintro e w1 ⟨rfl, hb⟩
    have HB := Aside0.mk hb
    clear hb HC
    go_wp2_with fail
    go_ret2
    exact ⟨rfl, HB.out⟩
  | some o =>
    have h0 := mOf_ne ho
    rw [lenM_yes h0 (by rw [hm]; exact ho)] at hcall
    have HC := Aside0.mk hcall
    clear hcall
    by_cases cj : 0 ≤ j ∧ j < (o.2.length : Int)
    · rw [getM_yes h0 (by rw [hm]; exact ho) cj]
      clear h0 hm
      obtain ⟨i, hi, rfl⟩ : ∃ i : Nat, i < d.obs.length ∧ x = (i : Int) + 1 := ref_split (Classical.byContradiction fun q => by rw [mOf_out q] at ho; cases ho)
      have hot : (d.obs.getD i oz).1 = true ∧ (d.obs.getD i oz).2.1 = o.1 ∧ (d.obs.getD i oz).2.2 = o.2 := by
        rw [mOf_in hi] at ho
        split at ho
        · rename_i h9
          cases ho
          exact ⟨h9, rfl, rfl⟩
        · cases ho
      have HI := Aside0.mk hi
      have hw : wrap64 (i : Int) = (i : Int) := by have := HN.out; unfold wrap64; omega
      have p5 : (0 ≤ (i : Int)) = True := eq_true (by omega)
      have p6 : ((i : Int) < (d.obs.length : Int)) = True := eq_true (by omega)
      have HOT := Aside0.mk hot
      clear hi hot ho
      have d1 : decide (j < 0) = false := decide_eq_false (by omega)
      have d2 : decide (j ≥ (o.2.length : Int)) = false := decide_eq_false (by omega)
      have d3 : decide ((o.2.length : Int) ≤ j) = false := decide_eq_false (by omega)
      obtain ⟨jn, rfl⟩ : ∃ jn : Nat, j = (jn : Int) := ⟨j.toNat, by omega⟩
      have HJ := Aside0.mk (show jn < o.2.length by omega)
      have d4 : decide (o.2.length ≤ jn) = false := decide_eq_false (by omega)
      have d5 : decide (jn < o.2.length) = true := decide_eq_true (by omega)
      have d6 : (o.2.length ≤ jn) = False := eq_false (by omega)
      have p7 : (0 ≤ (jn : Int)) = True := eq_true (by omega)
      have p8 : ((jn : Int) < (o.2.length : Int)) = True := eq_true (by omega)
      rw [Int.toNat_natCast]
      clear cj
      go_enter Tryz.func19, Tryz.ntmps19
      go_wp2_with fail
      refine HC.out.mono ?_
      rintro e w1 ⟨rfl, hb⟩
      have HB := Aside0.mk hb
      replace H := Aside0.mk (H.out.step hb)
      clear hb HC
      obtain ⟨ad, cc, eo, g0, g1, g2⟩ := H.out.at_ HI.out
      rw [HOT.out.1, if_pos rfl, HOT.out.2.2] at g2
      rw [HOT.out.2.1] at g1
      obtain ⟨_, _, f2⟩ := H.out.cells
      rw [eo] at f2
      have hp := (H.out.pl _ HI.out HOT.out.1).1
      rw [HOT.out.2.2] at hp
      have g3 := num_cell hp HJ.out
      clear hp
      go_wp2_with fail
      go_ret2
      exact ⟨rfl, HB.out⟩
    · rw [getM_out h0 (by rw [hm]; exact ho) cj]
      clear h0 hm
      by_cases cn : j < 0
      · have d1 : decide (j < 0) = true := decide_eq_true cn
        clear cn cj
        go_enter Tryz.func19, Tryz.ntmps19
        go_wp2_with fail
        refine HC.out.mono ?_
        rintro e w1 ⟨rfl, hb⟩
        have HB := Aside0.mk hb
        clear hb HC
        go_wp2_with fail
        go_ret2
        exact ⟨rfl, HB.out⟩
      · have d1 : decide (j < 0) = false := decide_eq_false cn
        have d2 : decide (j ≥ (o.2.length : Int)) = true := decide_eq_true (by omega)
        have d3 : decide ((o.2.length : Int) ≤ j) = true := decide_eq_true (by omega)
        clear cn cj
        go_enter Tryz.func19, Tryz.ntmps19
        go_wp2_with fail
        refine HC.out.mono ?_
        rintro e w1 ⟨rfl, hb⟩
        have HB := Aside0.mk hb
        clear hb HC
        go_wp2_with fail
        go_ret2
        exact ⟨rfl, HB.out⟩
theorem classM_no {s : HS} {x : Int} (h : s.m x = none) : classM s x = (0, false) := by unfold classM; rw [h]; split <;> rfl
theorem classM_yes {s : HS} {x : Int} {o : Int × List Int} (h0 : ¬ x = 0) (h : s.m x = some o) : classM s x = if o.1 < 0 then (0, false) else (o.1, true) := by unfold classM; rw [if_neg h0, h]
set_option maxHeartbeats 1600000 in
set_option maxRecDepth 100000 in
theorem rf_Class (w0 : World) (F : Nat → Prop) (d : DS) (rb : Nat → Nat) (s : HS) (hm : s.m = mOf d.obs) (x : Int) (hk : I64 x) (hn : d.obs.length < 4611686018427387904) (W : World) (h : DIn w0 F d rb W) : Calls Tryz.prog 33 #[.pointer (some ⟨d.db, 0, none⟩), .int .i64 x] W fun e w' => e = .returned (.tuple #[.int .i64 (classM s x).1, .bool (classM s x).2]) ∧ Below W.heap.size W w' := by
  have H := Aside0.mk h
  have HN := Aside0.mk hn
  have HK := Aside0.mk hk
  clear h hn hk
  have hcall := rf_There w0 F d rb x HK.out HN.out W H.out
  cases ho : mOf d.obs x with
  | none =>
    rw [ho, Option.isSome_none] at hcall
    rw [classM_no (by rw [hm]; exact ho)]
    have HC := Aside0.mk hcall
    clear hcall ho hm
    go_enter Tryz.func33, Tryz.ntmps33
    go_wp2_with fail
    refine HC.out.mono ?_
    rintro e w1 ⟨rfl, hb⟩
    have HB := Aside0.mk hb
    clear hb HC
    go_wp2_with fail
    go_ret2
    exact ⟨rfl, HB.out⟩
  | some o =>
    have h0 := mOf_ne ho
    rw [ho, Option.isSome_some] at hcall
    rw [classM_yes h0 (by rw [hm]; exact ho)]
    have HC := Aside0.mk hcall
    clear hcall h0 hm
    obtain ⟨i, hi, rfl⟩ : ∃ i : Nat, i < d.obs.length ∧ x = (i : Int) + 1 := ref_split (Classical.byContradiction fun q => by rw [mOf_out q] at ho; cases ho)
    have hot : (d.obs.getD i oz).1 = true ∧ (d.obs.getD i oz).2.1 = o.1 ∧ (d.obs.getD i oz).2.2 = o.2 := by
      rw [mOf_in hi] at ho
      split at ho
      · rename_i h9
        cases ho
        exact ⟨h9, rfl, rfl⟩
      · cases ho
    have HI := Aside0.mk hi
    have hw : wrap64 (i : Int) = (i : Int) := by have := HN.out; unfold wrap64; omega
    have p5 : (0 ≤ (i : Int)) = True := eq_true (by omega)
    have p6 : ((i : Int) < (d.obs.length : Int)) = True := eq_true (by omega)
    have HOT := Aside0.mk hot
    clear hi hot ho
    have hok := (H.out.ok _ HI.out).2.2.2
    rw [HOT.out.2.1] at hok
    by_cases cn : o.1 < 0
    · rw [if_pos cn]
      have cm : (o.1 == -1) = true := by rw [beq_iff_eq]; omega
      clear cn hok
      go_enter Tryz.func33, Tryz.ntmps33
      go_wp2_with fail
      refine HC.out.mono ?_
      rintro e w1 ⟨rfl, hb⟩
      have HB := Aside0.mk hb
      replace H := Aside0.mk (H.out.step hb)
      clear hb HC
      obtain ⟨ad, cc, eo, g0, g1, g2⟩ := H.out.at_ HI.out
      rw [HOT.out.1, if_pos rfl, HOT.out.2.2] at g2
      rw [HOT.out.2.1] at g1
      obtain ⟨_, _, f2⟩ := H.out.cells
      rw [eo] at f2
      go_wp2_with fail
      go_ret2
      exact ⟨rfl, HB.out⟩
    · rw [if_neg cn]
      have cm : (o.1 == -1) = false := by rw [beq_eq_false_iff_ne]; omega
      clear cn hok
      go_enter Tryz.func33, Tryz.ntmps33
      go_wp2_with fail
      refine HC.out.mono ?_
      rintro e w1 ⟨rfl, hb⟩
      have HB := Aside0.mk hb
      replace H := Aside0.mk (H.out.step hb)
      clear hb HC
      obtain ⟨ad, cc, eo, g0, g1, g2⟩ := H.out.at_ HI.out
      rw [HOT.out.1, if_pos rfl, HOT.out.2.2] at g2
      rw [HOT.out.2.1] at g1
      obtain ⟨_, _, f2⟩ := H.out.cells
      rw [eo] at f2
      go_wp2_with fail
      go_ret2
      exact ⟨rfl, HB.out⟩
end Go.Proofs.YtkjagcamikkjkaaGreat.P

end

section
namespace Go.Proofs.YtkjagcamikkjkaaGreat.P
open Go.RowKit Go.Proofs.YtkjagcamikkjkaaGreatW.PrintWords Go.Proofs.YtkjagcamikkjkaaGreatW.PrintLast Go.Proofs.YtkjagcamikkjkaaGreatW.PrintMore
attribute [local go_sem] max2_int min2_int max_two min_two max_three min_three max_four min_four
set_option linter.unusedVariables false
set_option linter.unusedSimpArgs false
theorem wrap_one {i n : Nat} (h : i < n) (hn : n ≤ 9223372036854775807) : wrap64 ((i : Int) + 1) = ((i + 1 : Nat) : Int) := by unfold wrap64; omega
theorem eq_ints (l : List Int) (hl : l.length ≤ 9223372036854775807) : ∀ (d i : Nat), l.length - i = d → i ≤ l.length → Ev (fun k => slices_Equal_int_int.l0 k l l (l.length : Int) (i : Int)) true
  | 0, i, hd, hi => by
    refine Ev.step (f := fun _ => some true) (fun k => ?_) (Ev.now _)
    simp only [slices_Equal_int_int.l0]
    rw [if_neg (by omega)]
  | d + 1, i, hd, hi => by
    have ih := eq_ints l hl d (i + 1) (by omega) (by omega)
    refine Ev.step (fun k => ?_) ih
    simp only [slices_Equal_int_int.l0]
    rw [if_pos (by omega), if_pos (by omega), if_pos (by omega), if_pos (by omega), if_pos True.intro, wrap_one (n := l.length) (by omega) hl]
theorem ints_ev (l : List Int) (hl : l.length ≤ 9223372036854775807) : Ev (fun k => slices_Equal_int_int.f k l l) true := by
  refine Ev.congr (fun k => ?_) (eq_ints l hl l.length 0 (by omega) (by omega))
  unfold slices_Equal_int_int.f
  rw [if_pos rfl]
  rfl
theorem ct_EqualSelf (A : Option Addr) (c : Nat) (A1 : Option Addr) (c1 : Nat) (l : List Int) (w : World) (hr : Kd.C (Kd.int .i64) w A l.length l) (hc : l.length ≤ c) (hr1 : Kd.C (Kd.int .i64) w A1 l.length l) (hc1 : l.length ≤ c1) :
    Calls Tryz.prog 26 #[.slice A l.length c, .slice A1 l.length c1] w fun e w' => e = .returned (.bool true) ∧ Below w.heap.size w w' := by
  obtain ⟨k, hk⟩ := (ints_ev l (Kd.C_max hr)).rounds
  exact (slices_Equal_int_int.calls k A c l A1 c1 l _ w hr hc hr1 hc1 hk).mono fun e w' h => ⟨h.1, h.2.below⟩
theorem int_fits {n : Nat} (h : n ≤ 17592186060800) : Builtin.nextslicecap (n + 1) n * 8 ≤ 281474976710656 := by
  unfold Builtin.nextslicecap
  split
  · omega
  · split
    · omega
    · have h1 : ∀ r c : Nat, n + 1 ≤ c → Builtin.growBy (n + 1) r c = c := fun r c hc => by
        cases r with
        | zero => rfl
        | succ r => unfold Builtin.growBy; rw [if_pos hc]
      unfold Builtin.growBy
      rw [if_neg (by omega), h1 3 _ (by omega)]
      omega
section
variable {ops : Array Oper} {rest : List Oper} {o : Oper} {a : Act} {Q : Exit → Act → World → Prop}
theorem ap_int (hgd : o.guard = none) {s x : Operand} (ho : o.op = .call { callee := .builtin .append, args := #[s, x], argTypes := #[42, 42] }) {w0 W : World} (base : Nat) {v : Value} {xs : List Int} (p : Int) (HO : Kd.R (Kd.int .i64) 3 W base (fun _ => True) v xs) (hs : a.eval s = v) (hx : a.eval x = .slice (some ⟨W.heap.size, 0, none⟩) 1 1)
    (HB : Below base w0 W) (hbase : base ≤ W.heap.size) (hl : xs.length ≤ 17592186060800)
    (h : ∀ v1 w1, Kd.R (Kd.int .i64) 3 w1 base (fun _ => True) v1 (xs ++ [p]) → Below base w0 w1 → wpList Tryz.prog ops Q rest (a.put o.dst v1) w1) : wpList Tryz.prog ops Q (o :: rest) a (W.alloc (.cells #[.int .i64 p] 3)) :=
  wpList_plain hgd fun K hK => R_append1_wp (Kd.int .i64) (w0 := w0) base hgd s x 42 3 (.int .i64 0) 8 ho Tryz.underlying42 info3 rfl (by decide) (by decide) v xs p [.int .i64 p] (fun _ => True) (fun _ => False) hs hx rfl (fun _ h => h.elim) (fun _ _ => trivial) HO HB hbase (by unfold maxLen; omega) (int_fits hl) (fun v1 w1 h1 h2 _ _ => hK _ _ (h v1 w1 h1 h2))
end
end Go.Proofs.YtkjagcamikkjkaaGreat.P

end

section
namespace Go.Proofs.YtkjagcamikkjkaaGreat.P
open Go.RowKit Go.Proofs.YtkjagcamikkjkaaGreatW.PrintWords Go.Proofs.YtkjagcamikkjkaaGreatW.PrintLast Go.Proofs.YtkjagcamikkjkaaGreatW.PrintMore
attribute [local go_sem] max2_int min2_int max_two min_two max_three min_three max_four min_four
set_option linter.unusedVariables false
set_option linter.unusedSimpArgs false
def liveTo (s : HS) (i : Nat) : List Int := ((List.range i).map fun i : Nat => (i : Int) + 1).filter fun x => (s.m x).isSome
theorem liveTo_succ (s : HS) (i : Nat) : liveTo s (i + 1) = liveTo s i ++ (if (s.m ((i : Int) + 1)).isSome = true then [(i : Int) + 1] else []) := by
  unfold liveTo
  rw [List.range_succ, List.map_append, List.filter_append]
  congr 1
  by_cases h : (s.m ((i : Int) + 1)).isSome = true
  · rw [if_pos h]; simp [h]
  · rw [if_neg h]; simp at h; simp [h]
theorem liveTo_le (s : HS) : ∀ (k i : Nat), costL s.m (liveTo s i) ≤ costL s.m (liveTo s (i + k))
  | 0, i => Int.le_refl _
  | k + 1, i => by
    have h1 := liveTo_le s k i
    rw [show i + (k + 1) = (i + k) + 1 by omega, liveTo_succ, costL_append]
    have h2 := costL_nonneg s.m (if (s.m (((i + k : Nat) : Int) + 1)).isSome = true then [((i + k : Nat) : Int) + 1] else [])
    omega
theorem liveTo_len (s : HS) (i : Nat) : (liveTo s i).length ≤ i := by
  unfold liveTo
  refine Nat.le_trans (List.length_filter_le _ _) ?_
  simp
structure Like (s : HS) (d : DS) : Prop where
  m : s.m = mOf d.obs
  last : s.last = d.obs.length
  sum : SumOK s
  used : s.used ≤ 4096
  l : s.l = d.l
  room : s.room = d.room
set_option maxHeartbeats 1600000 in
set_option maxRecDepth 100000 in
theorem rf_Used (w0 : World) (F : Nat → Prop) (d : DS) (rb : Nat → Nat) (s : HS) (hs : Like s d) (hn9 : d.obs.length < 4398046511104) (W : World) (h : DIn w0 F d rb W) : Calls Tryz.prog 30 #[.pointer (some ⟨d.db, 0, none⟩)] W fun e w' => e = .returned (.int .i64 s.used) ∧ Drawn0 W w' := by
  have H := Aside0.mk h
  have HS1 := Aside0.mk hs
  have HN9 := Aside0.mk hn9
  obtain ⟨A, c, eo⟩ := h.ovs
  have f2 := h.cells.2.2
  rw [eo] at f2
  have HE := Aside0.mk eo
  clear h hs eo hn9
  go_enter Tryz.func30, Tryz.ntmps30
  go_wp2_with fail
  go_loopw [3, 4] (fun v3 v4 wr => ∃ (i : Nat) (n : Int), v4 = .int .i64 (i : Int) ∧ v3 = .int .i64 n ∧ i ≤ d.obs.length ∧ Aside0 (n = costL s.m (liveTo s i)) ∧ Aside0 (wr = W)) (fun _ v4 _ => ((d.obs.length : Int) - intOf v4).toNat)
  case atStart => exact ⟨0, 0, rfl, rfl, Nat.zero_le _, ⟨rfl⟩, ⟨rfl⟩⟩
  case round =>
    obtain ⟨i, n, rfl, rfl, hi, HN, HWW⟩ := hrel
    rw [HWW.out]
    have HNB := Aside0.mk (show 0 ≤ n ∧ n ≤ 4096 by
      have h1 := liveTo_le s (d.obs.length - i) i
      rw [show i + (d.obs.length - i) = d.obs.length by omega] at h1
      have h2 := HS1.out.sum.2
      have h3 : costL s.m (liveTo s d.obs.length) = s.used := by rw [h2]; unfold liveL liveTo; rw [HS1.out.last]
      have h4 := HS1.out.used
      have h5 := HN.out
      have h6 := costL_nonneg s.m (liveTo s i)
      exact ⟨by omega, by omega⟩)
    by_cases c1 : i < d.obs.length
    · have c1b : decide ((i : Int) < (d.obs.length : Int)) = true := decide_eq_true (by omega)
      have c1c : decide (i < d.obs.length) = true := decide_eq_true c1
      have p5 : (0 ≤ (i : Int)) = True := eq_true (by omega)
      have p6 : ((i : Int) < (d.obs.length : Int)) = True := eq_true (by omega)
      have HI := Aside0.mk c1
      have HW := Aside0.mk (wrap_h c1 (by have := HN9.out; omega))
      obtain ⟨ad, cc, eo, g0, g1, g2⟩ := H.out.at_ c1
      rw [HE.out] at eo
      injection eo with e1 _ e3
      subst e1 e3
      have hmi := mOf_in c1
      rw [← HS1.out.m] at hmi
      have hnx := liveTo_succ s i
      cases ht : (d.obs.getD i oz).1 with
      | true =>
        rw [ht, if_pos rfl] at hmi
        rw [ht] at g0
        rw [ht, if_pos rfl] at g2
        obtain ⟨ln, hln⟩ : ∃ ln, ln = (d.obs.getD i oz).2.2.length := ⟨_, rfl⟩
        rw [← hln] at g2
        have HNX := Aside0.mk (show n + 1 + (ln : Int) = costL s.m (liveTo s (i + 1)) by
          rw [hnx, hmi, Option.isSome_some, if_pos rfl, costL_append, ← HN.out]
          show n + 1 + (ln : Int) = n + (costO s.m ((i : Int) + 1) + 0)
          unfold costO
          rw [hmi, hln]
          show n + 1 + ((d.obs.getD i oz).2.2.length : Int) = n + (((d.obs.getD i oz).2.2.length : Int) + 1 + 0)
          omega)
        have hlk := (H.out.ok i c1).2.1
        rw [← hln] at hlk
        have hw1 : IntKind.i64.wrap (n + 1) = n + 1 := wrap_c (by have := HNB.out; omega) (by have := HNB.out; omega)
        have hw2 : IntKind.i64.wrap (n + 1 + (ln : Int)) = n + 1 + (ln : Int) := wrap_c (by have := HNB.out; omega) (by have := HNB.out; omega)
        clear hln hlk hmi hnx c1
        go_wp2_with fail
        go_roundw
        case rel => exact ⟨i + 1, _, (by rw [HW.out]), rfl, HI.out, HNX, ⟨by first | rfl | trivial⟩⟩
        case measure => exact meas_h HI.out HW.out
      | false =>
        rw [ht, if_neg (by decide)] at hmi
        rw [ht] at g0
        have HNX := Aside0.mk (show n = costL s.m (liveTo s (i + 1)) by
          rw [hnx, hmi, if_neg (by decide), List.append_nil]
          exact HN.out)
        clear hmi hnx c1 g2
        go_wp2_with fail
        go_roundw
        case rel => exact ⟨i + 1, n, (by rw [HW.out]), rfl, HI.out, HNX, ⟨by first | rfl | trivial⟩⟩
        case measure => exact meas_h HI.out HW.out
    · have c1b : decide ((i : Int) < (d.obs.length : Int)) = false := decide_eq_false (by omega)
      have c1c : decide (i < d.obs.length) = false := decide_eq_false c1
      have HEQ := Aside0.mk (show n = s.used by
        have h1 := HN.out
        rw [show i = d.obs.length by omega] at h1
        rw [h1, HS1.out.sum.2]
        unfold liveL liveTo
        rw [HS1.out.last])
      clear c1 hi
      go_wp2_with fail
      go_ret
      exact ⟨by rw [HEQ.out]; rfl, Drawn0.refl _⟩
set_option maxHeartbeats 1600000 in
set_option maxRecDepth 100000 in
theorem rf_Live (w0 : World) (F : Nat → Prop) (d : DS) (rb : Nat → Nat) (s : HS) (hs : Like s d) (hn9 : d.obs.length < 4398046511104) (W : World) (h : DIn w0 F d rb W) : Calls Tryz.prog 9 #[.pointer (some ⟨d.db, 0, none⟩)] W fun e w' => ∃ v : Value, e = .returned v ∧ Kd.R (Kd.int .i64) 3 w' W.heap.size (fun _ => True) v (liveL s) ∧ Below W.heap.size W w' := by
  have H := Aside0.mk h
  have HS1 := Aside0.mk hs
  have HN9 := Aside0.mk hn9
  obtain ⟨A, c, eo⟩ := h.ovs
  have HE := Aside0.mk eo
  have f2 := h.cells.2.2
  rw [eo] at f2
  clear h hs eo hn9
  go_enter Tryz.func9, Tryz.ntmps9
  go_wp2_with fail
  go_loopw [3, 4] (fun v3 v4 wr => ∃ (i : Nat) (v : Value) (zs : List Int), v4 = .int .i64 ((i : Int) + 1) ∧ v3 = v ∧ i ≤ d.obs.length ∧ Aside0 (zs = liveTo s i) ∧ Aside0 (Below W.heap.size W wr) ∧ Aside0 (Kd.R (Kd.int .i64) 3 wr W.heap.size (fun _ => True) v zs)) (fun _ v4 _ => ((d.obs.length : Int) + 1 - intOf v4).toNat)
  case atStart => exact ⟨0, _, [], rfl, rfl, Nat.zero_le _, ⟨rfl⟩, ⟨Below.refl _ _⟩, ⟨Kd.R_nil _ _ _ _ _⟩⟩
  case round =>
    obtain ⟨i, v, zs, rfl, rfl, hi, HZ, HB, HV⟩ := hrel
    obtain ⟨Av, cv, ev⟩ := Kd.R_slice HV.out
    subst ev
    clear f2
    have f2 := (H.out.step HB.out).cells.2.2
    rw [HE.out] at f2
    by_cases c1 : i < d.obs.length
    · have c1b : decide ((i : Int) + 1 ≤ (d.obs.length : Int)) = true := decide_eq_true (by omega)
      have c1c : decide (i < d.obs.length) = true := decide_eq_true c1
      have HI := Aside0.mk c1
      have hw1 : wrap64 ((i : Int) + 1 + 1) = ((i + 1 : Nat) : Int) + 1 := by have := HN9.out; unfold wrap64; omega
      have HW := Aside0.mk hw1
      have HZL := Aside0.mk (show zs.length ≤ 17592186060800 by rw [HZ.out]; have h1 := liveTo_len s i; have h2 := HN9.out; omega)
      have hnx := liveTo_succ s i
      have HK := Aside0.mk (show I64 ((i : Int) + 1) by have := HN9.out; unfold I64; omega)
      have hcall := rf_There w0 F d rb ((i : Int) + 1) HK.out (by have := HN9.out; omega) _ (H.out.step HB.out)
      rw [← HS1.out.m] at hcall
      cases hq : (s.m ((i : Int) + 1)).isSome with
      | true =>
        rw [hq] at hcall
        rw [hq, if_pos rfl, ← HZ.out] at hnx
        have HNX := Aside0.mk hnx.symm
        have HC := Aside0.mk hcall
        clear hcall hq hnx c1
        go_wp2_with fail
        refine HC.out.mono ?_
        rintro e w5 ⟨rfl, hb⟩
        replace HB := Aside0.mk (below_step HB.out hb)
        replace HV := Aside0.mk (Kd.R_below HV.out hb)
        clear hb HC
        go_wp2_with ((with_reducible refine gate_dst (N := 20) rfl ?_); refine ap_int rfl rfl (w0 := W) W.heap.size ((i : Int) + 1) HV.out rfl rfl HB.out HB.out.size HZL.out ?_; intro v9 w9 hV hb9; replace HV := Aside0.mk hV; replace HB := Aside0.mk hb9; clear hV hb9; obtain ⟨A9, c9, e9⟩ := Kd.R_slice HV.out; subst e9)
        go_roundw
        case rel => exact ⟨i + 1, _, zs ++ [(i : Int) + 1], (by rw [HW.out]), rfl, HI.out, HNX, HB, ⟨by have h9 := HV.out; first | exact h9 | (simp only [List.length_append, List.length_singleton] at h9; exact h9)⟩⟩
        case measure => rw [HW.out]; have := HI.out; show ((d.obs.length : Int) + 1 - (((i + 1 : Nat) : Int) + 1)).toNat < ((d.obs.length : Int) + 1 - ((i : Int) + 1)).toNat; omega
      | false =>
        rw [hq] at hcall
        rw [hq, if_neg (by decide), List.append_nil, ← HZ.out] at hnx
        have HNX := Aside0.mk hnx.symm
        have HC := Aside0.mk hcall
        clear hcall hq hnx c1
        go_wp2_with fail
        refine HC.out.mono ?_
        rintro e w5 ⟨rfl, hb⟩
        replace HB := Aside0.mk (below_step HB.out hb)
        replace HV := Aside0.mk (Kd.R_below HV.out hb)
        clear hb HC
        go_wp2_with fail
        go_roundw
        case rel => exact ⟨i + 1, _, zs, (by rw [HW.out]), rfl, HI.out, HNX, HB, HV⟩
        case measure => rw [HW.out]; have := HI.out; show ((d.obs.length : Int) + 1 - (((i + 1 : Nat) : Int) + 1)).toNat < ((d.obs.length : Int) + 1 - ((i : Int) + 1)).toNat; omega
    · have c1b : decide ((i : Int) + 1 ≤ (d.obs.length : Int)) = false := decide_eq_false (by omega)
      have HEQ := Aside0.mk (show zs = liveL s by
        rw [HZ.out, show i = d.obs.length by omega]
        unfold liveL liveTo
        rw [HS1.out.last])
      clear c1 hi
      go_wp2_with fail
      go_ret
      exact ⟨_, rfl, by rw [← HEQ.out]; exact HV.out, HB.out⟩
end Go.Proofs.YtkjagcamikkjkaaGreat.P

end

section
namespace Go.Proofs.YtkjagcamikkjkaaGreat.P
open Go.RowKit Go.Proofs.YtkjagcamikkjkaaGreatW.PrintWords Go.Proofs.YtkjagcamikkjkaaGreatW.PrintLast Go.Proofs.YtkjagcamikkjkaaGreatW.PrintMore
attribute [local go_sem] max2_int min2_int max_two min_two max_three min_three max_four min_four
set_option linter.unusedVariables false
set_option linter.unusedSimpArgs false
theorem DIn.wider {w0 : World} {F F' : Nat → Prop} {d : DS} {rb : Nat → Nat} {W : World} (h : DIn w0 F d rb W) (hF : ∀ k, F k → F' k) : DIn w0 F' d rb W := ⟨h.hd, Kd.R_mono h.ro hF, fun i hi ht => ⟨(h.pl i hi ht).1, hF _ (h.pl i hi ht).2.1, (h.pl i hi ht).2.2⟩, h.inj, h.ok, ⟨hF _ h.fd.1, h.fd.2⟩, h.cl, h.below⟩
def RfPost (w0 : World) (F : Nat → Prop) (d : DS) (W : World) (s' : HS) (w' : World) : Prop := ∃ (d' : DS) (rb' : Nat → Nat), d'.db = d.db ∧ d'.obs.length ≤ d.obs.length + 1 ∧ Like s' d' ∧ DIn w0 (fun k => F k ∨ W.heap.size ≤ k) d' rb' w' ∧ ∀ k, k < W.heap.size → ¬ F k → w'.heap[k]? = W.heap[k]?
theorem RfPost.same {w0 : World} {F : Nat → Prop} {d : DS} {rb : Nat → Nat} {W : World} {s : HS} {w' : World} (hs : Like s d) (h : DIn w0 F d rb W) (hb : Below W.heap.size W w') : RfPost w0 F d W s w' :=
  ⟨d, rb, rfl, Nat.le_succ _, hs, (h.step hb).wider (fun _ q => .inl q), fun k hk _ => hb.block k hk⟩
theorem getD_snoc_lt {α : Type} {l : List α} {x z : α} {i : Nat} (h : i < l.length) : (l ++ [x]).getD i z = l.getD i z := by
  rw [List.getD_eq_getElem?_getD, List.getElem?_append_left h, List.getD_eq_getElem?_getD]
theorem rows_snoc (obs : List (Bool × Int × List Int)) (rb : Nat → Nat) (g : Nat) (o : Bool × Int × List Int) : rowsD (obs ++ [o]) (fun i => if i = obs.length then g else rb i) = rowsD obs rb ++ [objC (fun _ => g) obs.length o] := by
  unfold rowsD
  rw [List.length_append, List.length_singleton, List.range_succ, List.map_append]
  congr 1
  · refine List.map_congr_left (fun i hi => ?_)
    have h := List.mem_range.1 hi
    unfold objC
    rw [getD_snoc_lt h]
    simp only [if_neg (show ¬ i = obs.length by omega)]
  · unfold objC
    simp
theorem getD_snoc_eq {α : Type} {l : List α} {x z : α} : (l ++ [x]).getD l.length z = x := by
  rw [List.getD_eq_getElem?_getD]
  simp
theorem DIn.added {w0 : World} {F F' : Nat → Prop} {d : DS} {rb : Nat → Nat} {W w5 w6 : World} (h : DIn w0 F d rb W) (hF : ∀ k, F k → F' k) {g2 : Nat} {c : Int} {xs : List Int} (hc : -1 ≤ c) (hx : xs.length ≤ 4096) (hxv : ∀ y ∈ xs, -2147483648 ≤ y ∧ y ≤ 2147483647) (hg2 : W.heap[g2]? = some (.cells (xs.map (Value.int .i64)).toArray 3 (0, 0))) (hge : w0.heap.size ≤ g2) (hFg : F' g2) (hfresh : ∀ i, i < d.obs.length → (d.obs.getD i oz).1 = true → rb i ≠ g2) {v1 : Value}
    (hR : Kd.R (Kd.raw 3) 83 w5 w0.heap.size F' v1 (rowsD d.obs rb ++ [objC (fun _ => g2) d.obs.length (true, c, xs)])) (hg : W.grownBy w5 d.ov.ownBlock) (hX : w6.heap[d.db]? = some (.cells #[.slice d.A d.l.length d.c, .int .i64 d.room, v1] 57 (0, 0))) (hk : Kept w5 w6 (fun k => k = d.db)) (hbl : Below w0.heap.size w0 w6) :
    DIn w0 F' { d with ov := v1, obs := d.obs ++ [(true, c, xs)] } (fun i => if i = d.obs.length then g2 else rb i) w6 := by
  have hty : ∀ (b : Nat) (cs : Array Value) (t : Nat), W.heap[b]? = some (.cells cs t (0, 0)) → t ≠ 83 → t ≠ 57 → w6.heap[b]? = some (.cells cs t (0, 0)) := fun b cs t hb h1 h2 => by
    have h3 := blk_grown hb hg (fun e => by
      obtain ⟨cells, h4⟩ := Kd.R_typed h.ro b e.symm
      rw [hb] at h4
      injection h4 with h4
      injection h4 with _ h4
      exact h1 h4)
    exact blk_kept h3 hk (fun e => by
      rw [e, h.hd] at hb
      injection hb with hb
      injection hb with _ hb
      exact h2 hb.symm)
  refine ⟨hX, ?_, fun i hi ht => ?_, fun i j hi hj h1 h2 hij => ?_, fun i hi => ?_, ⟨hF _ h.fd.1, h.fd.2⟩, h.cl, hbl⟩
  · show Kd.R (Kd.raw 3) 83 w6 w0.heap.size F' v1 (rowsD (d.obs ++ [(true, c, xs)]) _)
    rw [rows_snoc]
    have h5 := blk_grown h.hd hg (fun e => by
      obtain ⟨cells, h4⟩ := Kd.R_typed h.ro d.db e.symm
      rw [h.hd] at h4
      injection h4 with h4
      injection h4 with _ h4
      revert h4
      decide)
    exact Kd.R_mono (Kd.R_step (Kd.R_types hR h5 (by show ∀ q, q ∈ (83 : Nat) :: (Kd.raw 3).E → q ≠ (57 : Nat); decide)) (fun j hj hlt => hk.2 j hlt hj.2)) (fun _ q => q.1)
  · change i < (d.obs ++ [(true, c, xs)]).length at hi
    rw [List.length_append, List.length_singleton] at hi
    change ((d.obs ++ [(true, c, xs)]).getD i oz).1 = true at ht
    show w6.heap[if i = d.obs.length then g2 else rb i]? = some (.cells (((d.obs ++ [(true, c, xs)]).getD i oz).2.2.map (Value.int .i64)).toArray 3 (0, 0)) ∧ F' (if i = d.obs.length then g2 else rb i) ∧ w0.heap.size ≤ (if i = d.obs.length then g2 else rb i)
    by_cases e : i = d.obs.length
    · subst e
      rw [if_pos rfl, getD_snoc_eq]
      exact ⟨hty _ _ _ hg2 (by decide) (by decide), hFg, hge⟩
    · rw [if_neg e, getD_snoc_lt (by omega)]
      rw [getD_snoc_lt (by omega)] at ht
      have h9 := h.pl i (by omega) ht
      exact ⟨hty _ _ _ h9.1 (by decide) (by decide), hF _ h9.2.1, h9.2.2⟩
  · change i < (d.obs ++ [(true, c, xs)]).length at hi
    change j < (d.obs ++ [(true, c, xs)]).length at hj
    rw [List.length_append, List.length_singleton] at hi hj
    change ((d.obs ++ [(true, c, xs)]).getD i oz).1 = true at h1
    change ((d.obs ++ [(true, c, xs)]).getD j oz).1 = true at h2
    show (if i = d.obs.length then g2 else rb i) ≠ (if j = d.obs.length then g2 else rb j)
    by_cases e : i = d.obs.length
    · rw [if_pos e, if_neg (by omega)]
      rw [getD_snoc_lt (by omega)] at h2
      exact fun q => hfresh j (by omega) h2 q.symm
    · rw [if_neg e]
      rw [getD_snoc_lt (by omega)] at h1
      by_cases e2 : j = d.obs.length
      · rw [if_pos e2]
        exact hfresh i (by omega) h1
      · rw [if_neg e2]
        rw [getD_snoc_lt (by omega)] at h2
        exact h.inj i j (by omega) (by omega) h1 h2 hij
  · change i < (d.obs ++ [(true, c, xs)]).length at hi
    rw [List.length_append, List.length_singleton] at hi
    show DOK ((d.obs ++ [(true, c, xs)]).getD i oz)
    by_cases e : i = d.obs.length
    · subst e
      rw [getD_snoc_eq]
      exact ⟨fun q => (by cases q), hx, hxv, hc⟩
    · rw [getD_snoc_lt (by omega)]
      exact h.ok i (by omega)
theorem Like.added {s : HS} {d : DS} (h : Like s d) {c n : Int} (hn : 0 ≤ n) (hc : ¬ n > s.room - s.used - 1) (hr : s.room ≤ 4096) (v1 : Value) : Like (addM s c n).2.2 { d with ov := v1, obs := d.obs ++ [(true, c, List.replicate n.toNat 0)] } := by
  have hsum := h.sum.add c n hn
  have e : (addM s c n).2.2 = { s with used := s.used + (n + 1), last := s.last + 1, m := updM s.m ((s.last : Int) + 1) (c, List.replicate n.toNat 0) } := by unfold addM; rw [if_neg hc]
  rw [e] at hsum ⊢
  refine ⟨?_, ?_, hsum, ?_, h.l, h.room⟩
  · show updM s.m ((s.last : Int) + 1) (c, List.replicate n.toNat 0) = mOf (d.obs ++ [(true, c, List.replicate n.toNat 0)])
    funext x
    unfold updM
    by_cases e9 : x = (s.last : Int) + 1
    · rw [if_pos e9, e9, h.last, mOf_in (by rw [List.length_append, List.length_singleton]; omega), getD_snoc_eq]
      rfl
    · rw [if_neg e9, h.m]
      by_cases hx : 1 ≤ x ∧ x ≤ (d.obs.length : Int)
      · obtain ⟨i, hi, rfl⟩ := ref_split hx
        rw [mOf_in hi, mOf_in (by rw [List.length_append]; omega), getD_snoc_lt hi]
      · rw [mOf_out hx, mOf_out (fun q => by rw [List.length_append, List.length_singleton] at q; have := h.last; omega)]
  · show s.last + 1 = (d.obs ++ [(true, c, List.replicate n.toNat 0)]).length
    rw [List.length_append, List.length_singleton, h.last]
  · show s.used + (n + 1) ≤ 4096
    omega
theorem obj_fits {n : Nat} (h : n ≤ 4398046511104) : Builtin.nextslicecap (n + 1) n * 40 ≤ 281474976710656 := by
  unfold Builtin.nextslicecap
  split
  · omega
  · split
    · omega
    · have h1 : ∀ r c : Nat, n + 1 ≤ c → Builtin.growBy (n + 1) r c = c := fun r c hc => by
        cases r with
        | zero => rfl
        | succ r => unfold Builtin.growBy; rw [if_pos hc]
      unfold Builtin.growBy
      rw [if_neg (by omega), h1 3 _ (by omega)]
      omega
end Go.Proofs.YtkjagcamikkjkaaGreat.P

end


