/- Proved: the law HeapRings holds for every input that the row lets in. No condition of ours. -/
import Derived.Test.YtkjagcamikkjkaaBHeapRingsc
import Derived.Test.YtkjagcamikkjkaaRows
import Derived.ShutString
import Derived.ChangeOld
import Derived.Lib.SmallJoins
section
namespace Go.Proofs.Ytkjagcamikkjkaa.P
open Go.RowKit Go.Proofs.YtkjagcamikkjkaaW.PrintWords Go.Proofs.YtkjagcamikkjkaaW.PrintLast Go.Proofs.YtkjagcamikkjkaaW.PrintMore
attribute [local go_sem] max2_int min2_int max_two min_two max_three min_three max_four min_four
set_option linter.unusedVariables false
set_option linter.unusedSimpArgs false
set_option maxHeartbeats 1600000 in
set_option maxRecDepth 100000 in
theorem hp_New (k : Nat) (A0 : Option Addr) (c0 : Nat) (l0 : List S32) (room : Int) (r1 r2 : Int) (w : World) (hr0 : Kd.C k32 w A0 l0.length l0) (hc0 : l0.length ≤ c0) (hl : l0.length < 4398046511104) (hfl : ∀ c ∈ l0, c.f2.length < 5864062014805) (h : types_Check.f k l0 = some (r1, r2)) :
    Calls Try.prog 9 #[.slice A0 l0.length c0, .int .i64 room] w fun e w' => ((room < 0 ∨ room > 4096) ∧ e = .returned (.tuple #[.pointer none, .int .i64 1]) ∧ Below w.heap.size w w') ∨ (0 ≤ room ∧ room ≤ 4096 ∧ r2 ≠ 0 ∧ e = .returned (.tuple #[.pointer none, .int .i64 r2]) ∧ Below w.heap.size w w') ∨ (0 ≤ room ∧ room ≤ 4096 ∧ r2 = 0 ∧ ∃ (hb B : Nat) (vc : Value), e = .returned (.tuple #[.pointer (some ⟨hb, 0, none⟩), .int .i64 0]) ∧ HeapAt w ⟨hb, B, vc, l0, room, 0, 0, fun _ => none, fun _ => False, w⟩ w') := by
  have HR := Aside0.mk hr0
  have HC := Aside0.mk hc0
  have HL := Aside0.mk hl
  have HF := Aside0.mk hfl
  have HK := Aside0.mk h
  clear hr0 hc0 hl hfl h
  by_cases ca : room < 0
  · have d1 : decide (room < 0) = true := decide_eq_true ca
    have HCA := Aside0.mk ca
    clear ca
    go_enter Try.func9, Try.ntmps9
    go_wp2
    go_ret2
    exact Or.inl ⟨Or.inl HCA.out, rfl, Below.refl _ _⟩
  have d1 : decide (room < 0) = false := decide_eq_false ca
  have h0 := Aside0.mk (show 0 ≤ room by omega)
  clear ca
  by_cases cb : room > 4096
  · have d2 : decide (room > 4096) = true := decide_eq_true cb
    have d2b : decide (4096 < room) = true := decide_eq_true cb
    have HCB := Aside0.mk cb
    clear cb
    go_enter Try.func9, Try.ntmps9
    go_wp2
    go_ret2
    exact Or.inl ⟨Or.inr HCB.out, rfl, Below.refl _ _⟩
  have d2 : decide (room > 4096) = false := decide_eq_false cb
  have d2b : decide (4096 < room) = false := decide_eq_false cb
  have h1 := Aside0.mk (show room ≤ 4096 by omega)
  clear cb
  by_cases cr : r2 = 0
  · subst cr
    go_enter Try.func9, Try.ntmps9
    go_wp2_with fail
    refine (types_Check.calls k A0 c0 l0 r1 0 w HR.out HC.out HK.out).mono ?_
    rintro e w1 ⟨rfl, hb⟩
    have HBW := Aside0.mk hb
    clear hb
    go_wp2_with ((with_reducible refine gate_dst (N := 26) rfl ?_); refine pm_make rfl rfl ?_; intro hM; have HM := Aside0.mk hM; have hb9 := below_alloc (Below.refl w1.heap.size w1) (.map #[] 0); have HX := Aside0.mk ((Rws.nil w).step HBW.out); replace HX := Aside0.mk (HX.out.step hb9); have HSZ := Aside0.mk HBW.out.size; have HBB := Aside0.mk (Nat.le_refl w1.heap.size); clear hM hb9; obtain ⟨B, hB⟩ : ∃ B, B = w1.heap.size := ⟨_, rfl⟩; have HBE := Aside0.mk hB; rw [← hB] at HM ⊢; clear hB; generalize w1.alloc (.map #[] 0) = w5 at HX HM ⊢)
    have hX := HX.out.add 50 #[.slice none 0 0, .int .i64 room, .int .i64 0, .int .i64 0, .map (some B)]
    have hb9 := below_alloc (Below.refl w5.heap.size w5) (.cells #[.slice none 0 0, .int .i64 room, .int .i64 0, .int .i64 0, .map (some B)] 50 (0, 0))
    replace HM := Aside0.mk (HM.out.block (hb9.block _ HM.out.lt))
    have HBL : Aside0 (w.heap.size ≤ B) := ⟨by have h1 := HBE.out; have h2 := HSZ.out; omega⟩
    clear hb9 HX HBE HBB
    obtain ⟨hb, hhb⟩ : ∃ hb, hb = w5.heap.size := ⟨_, rfl⟩
    rw [← hhb] at hX ⊢
    clear hhb
    generalize w5.alloc (.cells #[.slice none 0 0, .int .i64 room, .int .i64 0, .int .i64 0, .map (some B)] 50 (0, 0)) = w6 at hX HM ⊢
    have HX := Aside0.mk hX
    clear hX
    go_loopw [31] (fun v31 wr => ∃ (j : Nat) (v : Value), v31 = .int .i64 (j : Int) ∧ j ≤ l0.length ∧ Aside0 (Rws w [(hb, 50, #[v, .int .i64 room, .int .i64 0, .int .i64 0, .map (some B)])] wr) ∧ Aside0 (PMap wr B 0 (fun _ => none)) ∧ Aside0 (Kd.R k32 32 wr w.heap.size (fun _ => True) v (l0.take j))) (fun v31 _ => ((l0.length : Int) - intOf v31).toNat)
    case atStart => exact ⟨0, _, rfl, Nat.zero_le _, HX, HM, ⟨Kd.R_nil _ _ _ _ _⟩⟩
    case round =>
      rename_i wr
      clear HX HM
      obtain ⟨j, v, rfl, hj, HX, HM, HV⟩ := hrel
      have HBW2 := Aside0.mk HX.out.below
      by_cases c1 : j < l0.length
      · have c1b : decide ((j : Int) < (l0.length : Int)) = true := decide_eq_true (by omega)
        have c1c : decide (j < l0.length) = true := decide_eq_true c1
        have p5 : (0 ≤ (j : Int)) = True := eq_true (by omega)
        have p6 : ((j : Int) < (l0.length : Int)) = True := eq_true (by omega)
        have HJ := Aside0.mk c1
        have HW := Aside0.mk (wrap_h c1 (by have := HL.out; omega))
        obtain ⟨x, hx⟩ : ∃ x, x = rd_T32 l0 (j : Int) := ⟨_, rfl⟩
        obtain ⟨ad, A2, c2, e1, hx0, hx1, hx2, hx3, hx4⟩ := at_T32 (Kd.C_below HR.out HBW2.out) (j : Int) (by omega) (by omega)
        cases e1
        rw [← hx, Int.toNat_natCast] at hx0 hx1 hx2
        rw [← hx] at hx3 hx4
        have HF4 := Aside0.mk hx4
        have HF3 := Aside0.mk hx3
        have HXX := Aside0.mk hx
        have HFL := Aside0.mk (HF.out x (by rw [hx]; exact rd_mem_c c1))
        clear c1 hx hx4 hx3
        go_wp2_with fail
        have hX := HX.out.add 32 #[.string x.f0, .int .i64 x.f1, .slice A2 x.f2.length c2]
        have hb9 := below_alloc (Below.refl wr.heap.size wr) (.cells #[.string x.f0, .int .i64 x.f1, .slice A2 x.f2.length c2] 32 (0, 0))
        have hs9 : wr.heap.size < (wr.alloc (.cells #[.string x.f0, .int .i64 x.f1, .slice A2 x.f2.length c2] 32 (0, 0))).heap.size := by simp
        replace HM := Aside0.mk (HM.out.block (hb9.block _ HM.out.lt))
        replace HV := Aside0.mk (Kd.R_mono (Kd.R_below (Kd.R_bound HV.out) hb9) (fun k hk => (show k < wr.heap.size from hk.2.2.1)))
        replace HF4 := Aside0.mk (Kd.C_below HF4.out hb9)
        clear HX hb9 hx0 hx1 hx2
        obtain ⟨b10, hb10⟩ : ∃ b10, b10 = wr.heap.size := ⟨_, rfl⟩
        rw [← hb10] at hX hs9 HV ⊢
        have HB10 := Aside0.mk (show w.heap.size ≤ b10 from by rw [hb10]; exact HBW2.out.size)
        clear hb10
        generalize wr.alloc (.cells #[.string x.f0, .int .i64 x.f1, .slice A2 x.f2.length c2] 32 (0, 0)) = w10 at hX hs9 HM HV HF4 ⊢
        have HX := Aside0.mk hX
        have HS9 := Aside0.mk hs9
        clear hX hs9
        refine (slices_Clone_Field_Field.calls A2 c2 x.f2 x.f2 _ HF4.out HF3.out (by unfold slices_Clone_Field_Field.f; rw [if_pos HFL.out])).mono ?_
        rintro e w11 ⟨v37, rfl, hV, hbb⟩
        replace HX := Aside0.mk (HX.out.step hbb)
        replace HM := Aside0.mk (HM.out.block (hbb.block _ HM.out.lt))
        replace HV := Aside0.mk (Kd.R_below HV.out hbb)
        have HS11 := Aside0.mk hbb.size
        obtain ⟨A9, c9, e9⟩ := Kd.R_slice hV
        subst e9
        have HC9 := Aside0.mk (Kd.R_mono (Kd.R_bound hV) (fun k hk => (show w10.heap.size ≤ k from hk.2.1)))
        clear hV hbb
        go_wp2_with ((with_reducible refine gate_store (t := 30) (p := 38) rfl ?_); refine rw_cell rfl 30 rfl (i := 2) rfl (u := .slice A9 x.f2.length c9) rfl rfl [] HX.out (by show (2 : Nat) < 3; decide) (by kernel_rfl) ?_; intro w12 hX hk9; replace HM := Aside0.mk (HM.out.block (hk9.2 _ HM.out.lt (HM.out.ne (HX.out.mem List.mem_cons_self)))); replace HV := Aside0.mk (Kd.R_step HV.out (fun k ho hk => hk9.2 k hk (Nat.ne_of_lt ho))); replace HC9 := Aside0.mk (Kd.R_step HC9.out (fun k ho hk => hk9.2 k hk (by have := HS9.out; omega))); replace HX : Aside0 (Rws w [(b10, 32, #[.string x.f0, .int .i64 x.f1, .slice A9 x.f2.length c9]), (hb, 50, #[v, .int .i64 room, .int .i64 0, .int .i64 0, .map (some B)])] w12) := ⟨hX⟩; clear hX hk9)
        (try simp only [Act.put, List.setIfInBounds_toArray, List.set_cons_zero, List.set_cons_succ])
        refine wp_region_held_drew (S := fun w' => w'.heap[b10]? = some (.cells #[.string x.f0, .int .i64 x.f1, .slice A9 x.f2.length c9] 32 (0, 0))) (by kernel_rfl) ?_ (fun hHeld => ?_)
        · exact HX.out.mem List.mem_cons_self
        replace HX : Aside0 (Rws w [(b10, 32, #[.string x.f0, .int .i64 x.f1, .slice A9 x.f2.length c9]), (hb, 50, #[v, .int .i64 room, .int .i64 0, .int .i64 0, .map (some B)])] w12.drew) := ⟨HX.out.step (pw_below_drewN (Below.refl _ _) 1)⟩
        replace HM : Aside0 (PMap w12.drew B 0 fun _ => none) := ⟨HM.out⟩
        replace HV := Aside0.mk (Kd.R_step (w1 := w12.drew) HV.out (fun _ _ _ => rfl))
        replace HC9 := Aside0.mk (Kd.R_step (w1 := w12.drew) HC9.out (fun _ _ _ => rfl))
        refine take_dst (i := 0) (v := ?_) 39 rfl rfl (by kernel_rfl) (by kernel_rfl) (by kernel_rfl) (fun _ _ _ h => h) (Or.inl ⟨by rfl, ?_⟩) (by assumption) ?_
        rotate_left
        · intro w hSw
          have g0 := blk_cell hSw 0
          have g1 := blk_cell hSw 1
          have g2 := blk_cell hSw 2
          go_simp
          try with_reducible rfl
        (try simp only [Act.put, List.setIfInBounds_toArray, List.set_cons_zero, List.set_cons_succ])
        refine take_dst (i := 1) (v := ?_) 40 rfl rfl (by kernel_rfl) (by kernel_rfl) (by kernel_rfl) (fun _ _ _ h => h) (Or.inl ⟨by rfl, ?_⟩) (by assumption) ?_
        rotate_left
        · intro w hSw
          have g0 := blk_cell hSw 0
          have g1 := blk_cell hSw 1
          have g2 := blk_cell hSw 2
          go_simp
          try with_reducible rfl
        (try simp only [Act.put, List.setIfInBounds_toArray, List.set_cons_zero, List.set_cons_succ])
        refine take_dst (i := 2) (v := ?_) 41 rfl rfl (by kernel_rfl) (by kernel_rfl) (by kernel_rfl) (fun _ _ _ h => h) (Or.inl ⟨by rfl, ?_⟩) (by assumption) ?_
        rotate_left
        · intro w hSw
          have g0 := blk_cell hSw 0
          have g1 := blk_cell hSw 1
          have g2 := blk_cell hSw 2
          go_simp
          try with_reducible rfl
        (try simp only [Act.put, List.setIfInBounds_toArray, List.set_cons_zero, List.set_cons_succ])
        refine take_dst (i := 3) (v := ?_) 42 rfl rfl (by kernel_rfl) (by kernel_rfl) (by kernel_rfl) (fun _ _ _ h => h) (Or.inl ⟨by rfl, ?_⟩) (by assumption) ?_
        rotate_left
        · intro w hSw
          have g0 := blk_cell hSw 0
          have g1 := blk_cell hSw 1
          have g2 := blk_cell hSw 2
          go_simp
          try with_reducible rfl
        (try simp only [Act.put, List.setIfInBounds_toArray, List.set_cons_zero, List.set_cons_succ])
        refine take_dst (i := 5) (v := ?_) 44 rfl rfl (by kernel_rfl) (by kernel_rfl) (by kernel_rfl) (fun _ _ _ h => h) (Or.inl ⟨by rfl, ?_⟩) (by assumption) ?_
        rotate_left
        · intro w hSw
          have g0 := blk_cell hSw 0
          have g1 := blk_cell hSw 1
          have g2 := blk_cell hSw 2
          go_simp
          try with_reducible rfl
        (try simp only [Act.put, List.setIfInBounds_toArray, List.set_cons_zero, List.set_cons_succ])
        generalize w12.drew = w13 at HX HM HV HC9 hHeld ⊢
        refine wpAnyH_ready (rs := [4, 6]) (by kernel_rfl) (by simp) ?_
        refine AllReadyH.cons rfl (fun K hK => ?_) (AllReadyH.cons rfl (fun K hK => ?_) AllReadyH.nil)
        · have f3 := blk_cell (HX.out.mem (List.mem_cons_of_mem _ List.mem_cons_self)) 0
          simp only [List.getElem?_toArray, List.getElem?_cons_zero, List.getElem?_cons_succ] at f3
          go_simp
          refine hK.out _ _ hHeld (fun hHeld => ?_)
          clear hK K f3
          (try simp only [Act.put, List.setIfInBounds_toArray, List.set_cons_zero, List.set_cons_succ])
          refine wpAnyH_ready (rs := [6]) (by kernel_rfl) (by simp) ?_
          refine AllReadyH.cons rfl (fun K hK => ?_) AllReadyH.nil
          go_simp
          have hb9 := below_alloc (Below.refl w13.heap.size w13) (.cells #[.string x.f0, .int .i64 x.f1, .slice A9 x.f2.length c9] 32 (0, 0))
          refine hK.out _ _ (blk_below hHeld hb9) (fun hHeld => ?_)
          clear hb9 hK K
          (try simp only [Act.put, List.setIfInBounds_toArray, List.set_cons_zero, List.set_cons_succ])
          refine wpAnyH_ready (rs := [7]) (by kernel_rfl) (by simp) ?_
          refine AllReadyH.cons rfl (fun K hK => ?_) AllReadyH.nil
          refine Eq.mpr (if_pos (by rfl)) ?_
          have HOWN := Aside0.mk HV.out.1
          have HB13 := Aside0.mk HX.out.below
          refine R_append1_wp k32 (w0 := w) w.heap.size rfl (.tmp 43) (.tmp 45) 33 32 (.agg #[.string ByteArray.empty, .int .i64 0, .slice none 0 0]) 48 rfl Try.underlying33 (by kernel_rfl) rfl (by show (0 : Nat) < 3; decide) (by decide) v (l0.take j) x [.string x.f0, .int .i64 x.f1, .slice A9 x.f2.length c9] (fun _ => True) (fun k => w10.heap.size ≤ k) rfl rfl (cls_M (Kd.R_lower HC9.out (by have := HS9.out; have := HB10.out; omega))) (fun k hk => ⟨trivial, fun e => by have h9 := HOWN.out k e.symm; have := HS9.out; omega⟩) (fun _ _ => trivial) (Kd.R_mono HV.out (fun _ _ => trivial)) HB13.out HB13.out.size (by have := HL.out; have := HJ.out; rw [List.length_take]; unfold maxLen; omega) (cls_fits (by have := HL.out; have := HJ.out; rw [List.length_take]; omega)) ?_
          intro v1 w14 hR hBl hg hat
          have hx1 := blk_grown (HX.out.mem List.mem_cons_self) hg (fun e => by have := HOWN.out b10 e.symm; omega)
          have hx2 := blk_grown (HX.out.mem (List.mem_cons_of_mem _ List.mem_cons_self)) hg (fun e => by
            obtain ⟨_, _, _, q, hq, cells, hc⟩ := (Kd.R_bound HV.out).1 hb e.symm
            have h9 := HX.out.mem (List.mem_cons_of_mem _ List.mem_cons_self)
            rw [h9] at hc
            injection hc with hc
            injection hc with _ hc
            subst hc
            revert hq
            decide)
          refine hK.out _ _ hx1 (fun hHeld => ?_)
          have HP := Aside0.mk (HM.out.block (hg.block _ HM.out.lt (fun e => by
            obtain ⟨_, _, _, q, hq, cells, hc⟩ := (Kd.R_bound HV.out).1 B e.symm
            exact HM.out.ne hc rfl)))
          have HR1 := Aside0.mk hR
          have HBL1 := Aside0.mk hBl
          have HHB := Aside0.mk (HX.out.lies _ (List.mem_cons_of_mem _ List.mem_cons_self)).2
          have HOV := Aside0.mk hat
          have HX1 : Aside0 (Rws w [(hb, 50, #[v, .int .i64 room, .int .i64 0, .int .i64 0, .map (some B)])] w14) := ⟨⟨fun p hp => by rw [List.mem_singleton.1 hp]; exact ⟨hx2, HHB.out⟩, by simp, hBl⟩⟩
          have HNE := Aside0.mk (show ¬ b10 = hb from fun e => by rw [e] at hx1; rw [hx2] at hx1; injection hx1 with h9; injection h9 with _ h9; revert h9; decide)
          obtain ⟨A14, c14, e14⟩ := Kd.R_slice HR1.out
          subst e14
          clear hR hBl hg hat hK K HX hx1 hx2
          (try simp only [Act.put, List.setIfInBounds_toArray, List.set_cons_zero, List.set_cons_succ])
          refine take_dst (i := 8) (v := ?_) 47 rfl rfl (by kernel_rfl) (by kernel_rfl) (by kernel_rfl) (fun _ _ _ h => h) (Or.inl ⟨by rfl, ?_⟩) (by assumption) ?_
          rotate_left
          · intro w hSw
            go_simp
            try with_reducible rfl
          (try simp only [Act.put, List.setIfInBounds_toArray, List.set_cons_zero, List.set_cons_succ])
          refine take_dst (i := 9) (v := ?_) 48 rfl rfl (by kernel_rfl) (by kernel_rfl) (by kernel_rfl) (fun _ _ _ h => h) (Or.inl ⟨by rfl, ?_⟩) (by assumption) ?_
          rotate_left
          · intro w hSw
            go_simp
            try with_reducible rfl
          (try simp only [Act.put, List.setIfInBounds_toArray, List.set_cons_zero, List.set_cons_succ])
          refine wpAnyH_ready (rs := [10]) (by kernel_rfl) (by simp) ?_
          refine AllReadyH.cons rfl (fun K hK => ?_) AllReadyH.nil
          refine Eq.mpr (if_pos (by rfl)) ?_
          refine rw_cell_wp 33 rfl (g := hb) (i := 0) rfl (u := .slice A14 (l0.take j ++ [x]).length c14) rfl rfl [] HX1.out (by show (0 : Nat) < 5; decide) (by kernel_rfl) ?_
          intro w15 hX15 hk15
          have HX2 : Aside0 (Rws w [(hb, 50, #[.slice A14 (l0.take j ++ [x]).length c14, .int .i64 room, .int .i64 0, .int .i64 0, .map (some B)])] w15) := ⟨hX15⟩
          have HP2 := Aside0.mk (HP.out.block (hk15.2 _ HP.out.lt (HP.out.ne (HX1.out.mem List.mem_cons_self))))
          refine hK.out _ _ (blk_kept hHeld hk15 HNE.out) (fun hHeld => ?_)
          clear hK K
          refine wpAnyH_done (by kernel_rfl) ?_ _
          (try simp only [Act.put, List.setIfInBounds_toArray, List.set_cons_zero, List.set_cons_succ])
          have HTK := Aside0.mk (show l0.take (j + 1) = l0.take j ++ [x] by rw [List.take_add_one, List.getElem?_eq_getElem HJ.out, HXX.out]; unfold rd_T32; rw [Int.toNat_natCast, List.getD_eq_getElem?_getD, List.getElem?_eq_getElem HJ.out]; rfl)
          have HR2 := Aside0.mk (Kd.R_mono (Kd.R_step (Kd.R_bound HR1.out) (fun k ho hk => hk15.2 k hk (fun e => by obtain ⟨_, _, _, q, hq, cells, hc⟩ := ho; rw [e, HX1.out.mem List.mem_cons_self] at hc; injection hc with hc; injection hc with _ hc; subst hc; revert hq; decide))) (fun _ _ => trivial))
          go_wp2
          go_roundw
          case rel => exact ⟨j + 1, .slice A14 (l0.take j ++ [x]).length c14, (by rw [HW.out]), HJ.out, HX2, HP2, ⟨(by rw [HTK.out]; exact HR2.out)⟩⟩
          case measure => exact meas_h HJ.out HW.out
        · go_simp
          have hb9 := below_alloc (Below.refl w13.heap.size w13) (.cells #[.string x.f0, .int .i64 x.f1, .slice A9 x.f2.length c9] 32 (0, 0))
          refine hK.out _ _ (blk_below hHeld hb9) (fun hHeld => ?_)
          have f3 := blk_cell (blk_below (HX.out.mem (List.mem_cons_of_mem _ List.mem_cons_self)) hb9) 0
          simp only [List.getElem?_toArray, List.getElem?_cons_zero, List.getElem?_cons_succ] at f3
          clear hb9 hK K
          (try simp only [Act.put, List.setIfInBounds_toArray, List.set_cons_zero, List.set_cons_succ])
          refine wpAnyH_ready (rs := [4]) (by kernel_rfl) (by simp) ?_
          refine AllReadyH.cons rfl (fun K hK => ?_) AllReadyH.nil
          go_simp
          refine hK.out _ _ hHeld (fun hHeld => ?_)
          clear f3 hK K
          (try simp only [Act.put, List.setIfInBounds_toArray, List.set_cons_zero, List.set_cons_succ])
          refine wpAnyH_ready (rs := [7]) (by kernel_rfl) (by simp) ?_
          refine AllReadyH.cons rfl (fun K hK => ?_) AllReadyH.nil
          refine Eq.mpr (if_pos (by rfl)) ?_
          have HOWN := Aside0.mk HV.out.1
          have HB13 := Aside0.mk HX.out.below
          refine R_append1_wp k32 (w0 := w) w.heap.size rfl (.tmp 43) (.tmp 45) 33 32 (.agg #[.string ByteArray.empty, .int .i64 0, .slice none 0 0]) 48 rfl Try.underlying33 (by kernel_rfl) rfl (by show (0 : Nat) < 3; decide) (by decide) v (l0.take j) x [.string x.f0, .int .i64 x.f1, .slice A9 x.f2.length c9] (fun _ => True) (fun k => w10.heap.size ≤ k) rfl rfl (cls_M (Kd.R_lower HC9.out (by have := HS9.out; have := HB10.out; omega))) (fun k hk => ⟨trivial, fun e => by have h9 := HOWN.out k e.symm; have := HS9.out; omega⟩) (fun _ _ => trivial) (Kd.R_mono HV.out (fun _ _ => trivial)) HB13.out HB13.out.size (by have := HL.out; have := HJ.out; rw [List.length_take]; unfold maxLen; omega) (cls_fits (by have := HL.out; have := HJ.out; rw [List.length_take]; omega)) ?_
          intro v1 w14 hR hBl hg hat
          have hx1 := blk_grown (HX.out.mem List.mem_cons_self) hg (fun e => by have := HOWN.out b10 e.symm; omega)
          have hx2 := blk_grown (HX.out.mem (List.mem_cons_of_mem _ List.mem_cons_self)) hg (fun e => by
            obtain ⟨_, _, _, q, hq, cells, hc⟩ := (Kd.R_bound HV.out).1 hb e.symm
            have h9 := HX.out.mem (List.mem_cons_of_mem _ List.mem_cons_self)
            rw [h9] at hc
            injection hc with hc
            injection hc with _ hc
            subst hc
            revert hq
            decide)
          refine hK.out _ _ hx1 (fun hHeld => ?_)
          have HP := Aside0.mk (HM.out.block (hg.block _ HM.out.lt (fun e => by
            obtain ⟨_, _, _, q, hq, cells, hc⟩ := (Kd.R_bound HV.out).1 B e.symm
            exact HM.out.ne hc rfl)))
          have HR1 := Aside0.mk hR
          have HBL1 := Aside0.mk hBl
          have HHB := Aside0.mk (HX.out.lies _ (List.mem_cons_of_mem _ List.mem_cons_self)).2
          have HOV := Aside0.mk hat
          have HX1 : Aside0 (Rws w [(hb, 50, #[v, .int .i64 room, .int .i64 0, .int .i64 0, .map (some B)])] w14) := ⟨⟨fun p hp => by rw [List.mem_singleton.1 hp]; exact ⟨hx2, HHB.out⟩, by simp, hBl⟩⟩
          have HNE := Aside0.mk (show ¬ b10 = hb from fun e => by rw [e] at hx1; rw [hx2] at hx1; injection hx1 with h9; injection h9 with _ h9; revert h9; decide)
          obtain ⟨A14, c14, e14⟩ := Kd.R_slice HR1.out
          subst e14
          clear hR hBl hg hat hK K HX hx1 hx2
          (try simp only [Act.put, List.setIfInBounds_toArray, List.set_cons_zero, List.set_cons_succ])
          refine take_dst (i := 8) (v := ?_) 47 rfl rfl (by kernel_rfl) (by kernel_rfl) (by kernel_rfl) (fun _ _ _ h => h) (Or.inl ⟨by rfl, ?_⟩) (by assumption) ?_
          rotate_left
          · intro w hSw
            go_simp
            try with_reducible rfl
          (try simp only [Act.put, List.setIfInBounds_toArray, List.set_cons_zero, List.set_cons_succ])
          refine take_dst (i := 9) (v := ?_) 48 rfl rfl (by kernel_rfl) (by kernel_rfl) (by kernel_rfl) (fun _ _ _ h => h) (Or.inl ⟨by rfl, ?_⟩) (by assumption) ?_
          rotate_left
          · intro w hSw
            go_simp
            try with_reducible rfl
          (try simp only [Act.put, List.setIfInBounds_toArray, List.set_cons_zero, List.set_cons_succ])
          refine wpAnyH_ready (rs := [10]) (by kernel_rfl) (by simp) ?_
          refine AllReadyH.cons rfl (fun K hK => ?_) AllReadyH.nil
          refine Eq.mpr (if_pos (by rfl)) ?_
          refine rw_cell_wp 33 rfl (g := hb) (i := 0) rfl (u := .slice A14 (l0.take j ++ [x]).length c14) rfl rfl [] HX1.out (by show (0 : Nat) < 5; decide) (by kernel_rfl) ?_
          intro w15 hX15 hk15
          have HX2 : Aside0 (Rws w [(hb, 50, #[.slice A14 (l0.take j ++ [x]).length c14, .int .i64 room, .int .i64 0, .int .i64 0, .map (some B)])] w15) := ⟨hX15⟩
          have HP2 := Aside0.mk (HP.out.block (hk15.2 _ HP.out.lt (HP.out.ne (HX1.out.mem List.mem_cons_self))))
          refine hK.out _ _ (blk_kept hHeld hk15 HNE.out) (fun hHeld => ?_)
          clear hK K
          refine wpAnyH_done (by kernel_rfl) ?_ _
          (try simp only [Act.put, List.setIfInBounds_toArray, List.set_cons_zero, List.set_cons_succ])
          have HTK := Aside0.mk (show l0.take (j + 1) = l0.take j ++ [x] by rw [List.take_add_one, List.getElem?_eq_getElem HJ.out, HXX.out]; unfold rd_T32; rw [Int.toNat_natCast, List.getD_eq_getElem?_getD, List.getElem?_eq_getElem HJ.out]; rfl)
          have HR2 := Aside0.mk (Kd.R_mono (Kd.R_step (Kd.R_bound HR1.out) (fun k ho hk => hk15.2 k hk (fun e => by obtain ⟨_, _, _, q, hq, cells, hc⟩ := ho; rw [e, HX1.out.mem List.mem_cons_self] at hc; injection hc with hc; injection hc with _ hc; subst hc; revert hq; decide))) (fun _ _ => trivial))
          go_wp2
          go_roundw
          case rel => exact ⟨j + 1, .slice A14 (l0.take j ++ [x]).length c14, (by rw [HW.out]), HJ.out, HX2, HP2, ⟨(by rw [HTK.out]; exact HR2.out)⟩⟩
          case measure => exact meas_h HJ.out HW.out
      · have c1b : decide ((j : Int) < (l0.length : Int)) = false := decide_eq_false (by omega)
        have c1c : decide (j < l0.length) = false := decide_eq_false c1
        have hv := HV.out
        rw [List.take_of_length_le (by omega)] at hv
        have HV2 := Aside0.mk hv
        clear hv c1 hj HV
        go_wp2_with fail
        go_ret2
        exact Or.inr (Or.inr ⟨h0.out, h1.out, trivial, hb, B, v, rfl, fun _ => 0, fun _ => 0, ⟨HX.out.mem List.mem_cons_self, HM.out, fun _ _ h => (by cases h), fun _ _ _ _ h => (by cases h), ⟨(HX.out.lies _ List.mem_cons_self).2, HBL.out, fun _ _ h => (by cases h)⟩, Kd.R_mono HV2.out (fun _ _ h => h), fun _ _ h => (by cases h), ⟨Int.le_refl 0, h0.out, h1.out⟩, HBW2.out, ⟨HBW2.out.size, fun _ h => h.elim⟩, fun _ h => h.elim⟩⟩)
  · have HCR := Aside0.mk cr
    have d3 : (r2 != 0) = true := by rw [bne_iff_ne]; exact cr
    have d4 : (r2 == 0) = false := by rw [beq_eq_false_iff_ne]; exact cr
    clear cr
    go_enter Try.func9, Try.ntmps9
    go_wp2_with fail
    refine (types_Check.calls k A0 c0 l0 r1 r2 w HR.out HC.out HK.out).mono ?_
    rintro e w1 ⟨rfl, hb⟩
    have HBW := Aside0.mk hb
    clear hb
    go_wp2
    go_ret2
    exact Or.inr (Or.inl ⟨h0.out, h1.out, HCR.out, rfl, HBW.out⟩)
end Go.Proofs.Ytkjagcamikkjkaa.P

end

section
namespace Go.Proofs.Ytkjagcamikkjkaa.P
open Go.RowKit Go.Proofs.YtkjagcamikkjkaaW.PrintWords Go.Proofs.YtkjagcamikkjkaaW.PrintLast Go.Proofs.YtkjagcamikkjkaaW.PrintMore
attribute [local go_sem] max2_int min2_int max_two min_two max_three min_three max_four min_four
set_option linter.unusedVariables false
set_option linter.unusedSimpArgs false
theorem C_one9 {α : Type} {d : Kd α} {W : World} {g t : Nat} {cs : Array Value} {x : α} (h : W.heap[g]? = some (.cells cs t (0, 0))) (hK : d.K W x cs.toList) : d.C W (some ⟨g, 0, none⟩) 1 [x] := by
  refine ⟨rfl, by omega, fun _ => ⟨⟨g, 0, none⟩, rfl, fun j p hj => ⟨cs.toList, d.K_len hK, ?_, fun i u hi => ?_⟩⟩⟩
  · cases j with
    | zero => simp at hj; rw [← hj]; exact hK
    | succ j => simp at hj
  · cases j with
    | zero =>
      have h3 : Addr.add ⟨g, 0, none⟩ (0 * d.sz + i) = ⟨g, i, none⟩ := by
        rw [Nat.zero_mul, Nat.zero_add]
        by_cases h0 : i = 0
        · subst h0; rfl
        · simp [Addr.add, h0]
      rw [h3, blk_cell h i]
      simpa using hi
    | succ j => simp at hj
theorem one_cls {W : World} {b1 b2 : Nat} {s1 s2 : ByteArray} {t p : Int} (h1 : W.heap[b1]? = some (.cells #[.string s1, .int .u8 t] 29 (0, 0))) (h2 : W.heap[b2]? = some (.cells #[.string s2, .int .i64 p, .slice (some ⟨b1, 0, none⟩) 1 1] 32 (0, 0))) :
    Kd.C k32 W (some ⟨b2, 0, none⟩) 1 [⟨s2, p, [⟨s1, t⟩]⟩] := by
  refine C_one9 h2 ?_
  have hf : Kd.C k29 W (some ⟨b1, 0, none⟩) 1 [⟨s1, t⟩] := C_one9 h1 (k29_mk W ⟨s1, t⟩)
  exact k32_mk W ⟨s2, p, [⟨s1, t⟩]⟩ (c2 := 1) (Nat.le_refl 1) hf
def oneL (t : Int) : List S32 := [⟨⟨#[110]⟩, -1, [⟨⟨#[110, 101, 120, 116]⟩, t⟩]⟩]
theorem two_alloc (w : World) (t : Int) : ∃ W, W = (w.alloc (.cells #[.string ⟨#[110, 101, 120, 116]⟩, .int .u8 t] 29)).alloc (.cells #[.string ⟨#[110]⟩, .int .i64 (-1), .slice (some ⟨w.heap.size, 0, none⟩) 1 1] 32) ∧ Below w.heap.size w W ∧ Kd.C k32 W (some ⟨w.heap.size + 1, 0, none⟩) (oneL t).length (oneL t) := by
  refine ⟨_, rfl, below_alloc (below_alloc (Below.refl _ _) _) _, one_cls (b1 := w.heap.size) ?_ ?_⟩
  · exact blk_below (blk_new w _) (below_alloc (Below.refl _ _) _)
  · have := blk_new (w.alloc (.cells #[.string ⟨#[110, 101, 120, 116]⟩, .int .u8 t] 29)) (.cells #[.string ⟨#[110]⟩, .int .i64 (-1), .slice (some ⟨w.heap.size, 0, none⟩) 1 1] 32)
    simpa using this
theorem check_one16 : types_Check.f 40 (oneL 16) = some (0, 0) := by decide +kernel
theorem fields_one16 : types_Fields.f (oneL 16) 0 = some [⟨⟨#[110, 101, 120, 116]⟩, 16⟩] := by kernel_rfl
end Go.Proofs.Ytkjagcamikkjkaa.P

end

section
namespace Go.Proofs.Ytkjagcamikkjkaa.P
open Go.RowKit Go.Proofs.YtkjagcamikkjkaaW.PrintWords Go.Proofs.YtkjagcamikkjkaaW.PrintLast Go.Proofs.YtkjagcamikkjkaaW.PrintMore
attribute [local go_sem] max2_int min2_int max_two min_two max_three min_three max_four min_four
set_option linter.unusedVariables false
set_option linter.unusedSimpArgs false
def cutM (met : List Int) (l : List Int) (m : Int → Option (Int × List Int)) : Int → Option (Int × List Int) := fun y => if y ∈ l ∧ y ∉ met then none else m y
theorem goC_s (met : List Int) : ∀ (l : List Int) (s : HS) (n : Int), (goC met s n l).2 = { s with m := cutM met l s.m }
  | [], s, n => by
    have : cutM met [] s.m = s.m := by funext y; unfold cutM; simp
    unfold goC; rw [this]
  | x :: l, s, n => by
    unfold goC
    split
    · rename_i h
      rw [goC_s met l s n]
      have : cutM met (x :: l) s.m = cutM met l s.m := by
        funext y
        unfold cutM
        by_cases e : y = x
        · subst e; simp [h]
        · simp [e]
      rw [this]
    · rename_i h
      rw [goC_s met l _ _]
      have : cutM met l (delM s.m x) = cutM met (x :: l) s.m := by
        funext y
        unfold cutM delM
        by_cases e : y = x
        · subst e; simp [h]
        · simp [e]
      show ({ s with m := cutM met l (delM s.m x) } : HS) = _
      rw [this]
def costO (m : Int → Option (Int × List Int)) (x : Int) : Int := (((m x).getD (0, [])).2.length : Int) + 1
def costL (m : Int → Option (Int × List Int)) : List Int → Int
  | [] => 0
  | x :: l => costO m x + costL m l
theorem costO_pos (m : Int → Option (Int × List Int)) (x : Int) : 1 ≤ costO m x := by unfold costO; omega
theorem costL_nonneg (m : Int → Option (Int × List Int)) : ∀ l, 0 ≤ costL m l
  | [] => Int.le_refl _
  | x :: l => by have := costL_nonneg m l; have := costO_pos m x; unfold costL; omega
theorem costL_len (m : Int → Option (Int × List Int)) : ∀ l : List Int, (l.length : Int) ≤ costL m l
  | [] => Int.le_refl _
  | x :: l => by have := costL_len m l; have := costO_pos m x; unfold costL; simp only [List.length_cons]; omega
theorem costL_congr {m m' : Int → Option (Int × List Int)} : ∀ {l : List Int}, (∀ x ∈ l, costO m x = costO m' x) → costL m l = costL m' l
  | [], _ => rfl
  | x :: l, h => by
    unfold costL
    rw [h x List.mem_cons_self, costL_congr (fun y hy => h y (List.mem_cons_of_mem _ hy))]
theorem costL_append (m : Int → Option (Int × List Int)) : ∀ a b : List Int, costL m (a ++ b) = costL m a + costL m b
  | [], b => by simp [costL]
  | x :: a, b => by
    have := costL_append m a b
    simp only [List.cons_append, costL, this]
    omega
theorem costL_split (m : Int → Option (Int × List Int)) (p : Int → Bool) : ∀ l : List Int, costL m l = costL m (l.filter p) + costL m (l.filter fun x => !p x)
  | [] => rfl
  | x :: l => by
    have := costL_split m p l
    cases hp : p x <;> simp [hp, costL, this] <;> omega
theorem goC_n (met : List Int) : ∀ (l : List Int) (s : HS) (n : Int), l.Nodup → (goC met s n l).1 = n + costL s.m (l.filter fun x => !memH met x)
  | [], s, n, _ => by simp [goC, costL]
  | x :: l, s, n, hn => by
    obtain ⟨h1, h2⟩ := List.nodup_cons.1 hn
    unfold goC
    split
    · rename_i h
      rw [goC_n met l s n h2]
      have : memH met x = true := decide_eq_true h
      simp [this]
    · rename_i h
      have hb : memH met x = false := decide_eq_false h
      rw [goC_n met l _ _ h2]
      simp only [List.filter_cons, hb, Bool.not_false, if_true, costL]
      have : costL (delM s.m x) (l.filter fun y => !memH met y) = costL s.m (l.filter fun y => !memH met y) := costL_congr (fun y hy => by
        have hy := (List.mem_filter.1 hy).1
        unfold costO delM
        rw [if_neg (show ¬ y = x from fun e => h1 (e ▸ hy))])
      rw [this]
      unfold costO
      omega
def liveL (s : HS) : List Int := ((List.range s.last).map fun i : Nat => (i : Int) + 1).filter fun x => (s.m x).isSome
theorem range_rising : ∀ (n k : Nat), ((List.range' k n).map fun i : Nat => (i : Int) + 1).Pairwise (· < ·)
  | 0, k => by simp
  | n + 1, k => by
    rw [List.range'_succ, List.map_cons, List.pairwise_cons]
    refine ⟨fun y hy => ?_, range_rising n (k + 1)⟩
    obtain ⟨i, hi, rfl⟩ := List.mem_map.1 hy
    have := (List.mem_range'_1.1 hi).1
    omega
theorem liveL_rising (s : HS) : (liveL s).Pairwise (· < ·) := by
  unfold liveL
  rw [List.range_eq_range']
  exact (range_rising s.last 0).filter _
theorem liveL_mem {s : HS} (hd : ∀ x o, s.m x = some o → 1 ≤ x ∧ x ≤ (s.last : Int)) (x : Int) : x ∈ liveL s ↔ (s.m x).isSome = true := by
  unfold liveL
  rw [List.mem_filter]
  refine ⟨fun h => h.2, fun h => ⟨?_, h⟩⟩
  obtain ⟨o, ho⟩ := Option.isSome_iff_exists.1 h
  have := hd x o ho
  refine List.mem_map.2 ⟨(x - 1).toNat, List.mem_range.2 (by omega), by omega⟩
theorem rising_nodup {l : List Int} (h : l.Pairwise (· < ·)) : l.Nodup := h.imp fun h => by omega
def SumOK (s : HS) : Prop := (∀ x o, s.m x = some o → 1 ≤ x ∧ x ≤ (s.last : Int)) ∧ s.used = costL s.m (liveL s)
theorem SumOK.collect_le {s : HS} (h : SumOK s) (met : List Int) : (goC met s 0 (liveL s)).1 ≤ s.used := by
  rw [goC_n met _ s 0 (rising_nodup (liveL_rising s)), h.2, costL_split s.m (fun x => memH met x) (liveL s)]
  have := costL_nonneg s.m ((liveL s).filter fun x => memH met x)
  omega
theorem SumOK.add {s : HS} (h : SumOK s) (c n : Int) (hn : 0 ≤ n) : SumOK (addM s c n).2.2 := by
  unfold addM
  split
  · exact h
  · refine ⟨fun x o hx => ?_, ?_⟩
    · change updM s.m ((s.last : Int) + 1) (c, List.replicate n.toNat 0) x = some o at hx
      show 1 ≤ x ∧ x ≤ ((s.last + 1 : Nat) : Int)
      unfold updM at hx
      split at hx
      · omega
      · have := h.1 x o hx; omega
    · show s.used + (n + 1) = _
      have hnone : s.m ((s.last : Int) + 1) = none := by
        cases hm : s.m ((s.last : Int) + 1) with
        | none => rfl
        | some o => have := h.1 _ o hm; omega
      have hl : liveL { s with used := s.used + (n + 1), last := s.last + 1, m := updM s.m ((s.last : Int) + 1) (c, List.replicate n.toNat 0) } = liveL s ++ [(s.last : Int) + 1] := by
        unfold liveL
        simp only [List.range_succ, List.map_append, List.map_cons, List.map_nil, List.filter_append]
        congr 1
        · refine List.filter_congr (fun x hx => ?_)
          obtain ⟨i, hi, rfl⟩ := List.mem_map.1 hx
          have := List.mem_range.1 hi
          unfold updM
          rw [if_neg (by omega)]
        · simp [updM]
      show s.used + (n + 1) = costL _ (liveL { s with used := s.used + (n + 1), last := s.last + 1, m := updM s.m ((s.last : Int) + 1) (c, List.replicate n.toNat 0) })
      rw [hl, costL_append]
      have h1 : costL (updM s.m ((s.last : Int) + 1) (c, List.replicate n.toNat 0)) (liveL s) = costL s.m (liveL s) := costL_congr (fun x hx => by
        unfold costO updM
        rw [if_neg]
        intro e
        have hx := (liveL_mem h.1 x).1 hx
        rw [e, hnone] at hx
        cases hx)
      show s.used + (n + 1) = costL (updM s.m ((s.last : Int) + 1) (c, List.replicate n.toNat 0)) (liveL s) + costL (updM s.m ((s.last : Int) + 1) (c, List.replicate n.toNat 0)) [(s.last : Int) + 1]
      rw [h1, ← h.2]
      simp [costL, costO, updM]
      omega
theorem setNum_some {m : Int → Option (Int × List Int)} {x i v : Int} (y : Int) : (setNum m x i v y).isSome = (m y).isSome := by
  unfold setNum
  split
  · rename_i e; rw [e]; simp
  · rfl
theorem setNum_cost {m : Int → Option (Int × List Int)} {x i v : Int} (y : Int) : costO (setNum m x i v) y = costO m y := by
  unfold costO setNum
  split
  · rename_i e
    rw [e]
    cases m x with
    | none => rfl
    | some o => simp
  · rfl
theorem SumOK.put {s : HS} (h : SumOK s) (x i v : Int) : SumOK (putM s x i v).2 := by
  unfold putM
  split
  · split
    · exact h
    · refine ⟨fun y o hy => ?_, ?_⟩
      · have : (s.m y).isSome = true := by rw [← setNum_some (x := x) (i := i) (v := v)]; exact Option.isSome_iff_exists.2 ⟨o, hy⟩
        obtain ⟨o', ho⟩ := Option.isSome_iff_exists.1 this
        exact h.1 y o' ho
      · show s.used = costL (setNum s.m x i v) (liveL { s with m := setNum s.m x i v })
        have hl : liveL { s with m := setNum s.m x i v } = liveL s := by
          unfold liveL
          exact List.filter_congr (fun y _ => setNum_some y)
        rw [hl, h.2]
        exact costL_congr (fun y _ => (setNum_cost y).symm)
  · exact h
def colS (s : HS) (met : List Int) : HS := { (goC met s 0 (liveL s)).2 with used := s.used - (goC met s 0 (liveL s)).1 }
theorem colS_m {s : HS} (hd : ∀ x o, s.m x = some o → 1 ≤ x ∧ x ≤ (s.last : Int)) (met : List Int) (y : Int) : (colS s met).m y = if y ∈ met then s.m y else none := by
  unfold colS
  rw [goC_s]
  show cutM met (liveL s) s.m y = _
  unfold cutM
  by_cases h : y ∈ met
  · simp [h]
  · rw [if_neg h]
    split
    · rfl
    · rename_i h2
      have : y ∉ liveL s := fun h3 => h2 ⟨h3, h⟩
      rw [liveL_mem hd] at this
      cases hm : s.m y with
      | none => rfl
      | some o => rw [hm] at this; exact absurd rfl this
theorem colS_eq (s : HS) (met : List Int) : colS s met = { s with m := cutM met (liveL s) s.m, used := s.used - (goC met s 0 (liveL s)).1 } := by
  unfold colS
  rw [goC_s]
theorem SumOK.collect {s : HS} (h : SumOK s) (met : List Int) : SumOK (colS s met) := by
  have hl : liveL (colS s met) = (liveL s).filter fun x => memH met x := by
    refine rising_same (liveL_rising _) ((liveL_rising s).filter _) (fun x => ?_)
    rw [List.mem_filter, liveL_mem h.1, liveL_mem (s := colS s met) (fun x o hx => by
      rw [colS_m h.1] at hx
      split at hx
      · have := h.1 x o hx; rw [colS_eq]; exact this
      · cases hx), colS_m h.1]
    unfold memH
    by_cases hm : x ∈ met <;> simp [hm]
  refine ⟨fun x o hx => ?_, ?_⟩
  · rw [colS_m h.1] at hx
    split at hx
    · have := h.1 x o hx; rw [colS_eq]; exact this
    · cases hx
  · rw [hl]
    have e : (colS s met).used = s.used - (goC met s 0 (liveL s)).1 := rfl
    rw [e, goC_n met _ s 0 (rising_nodup (liveL_rising s)), h.2, costL_split s.m (fun x => memH met x) (liveL s)]
    have h1 : costL (colS s met).m ((liveL s).filter fun x => memH met x) = costL s.m ((liveL s).filter fun x => memH met x) := costL_congr (fun x hx => by
      have hx : x ∈ met := of_decide_eq_true (List.mem_filter.1 hx).2
      unfold costO
      rw [colS_m h.1, if_pos hx])
    rw [h1]
    omega
end Go.Proofs.Ytkjagcamikkjkaa.P

end

section
namespace Go.Proofs.Ytkjagcamikkjkaa.P
open Go.RowKit Go.Proofs.YtkjagcamikkjkaaW.PrintWords Go.Proofs.YtkjagcamikkjkaaW.PrintLast Go.Proofs.YtkjagcamikkjkaaW.PrintMore
attribute [local go_sem] max2_int min2_int max_two min_two max_three min_three max_four min_four
set_option linter.unusedVariables false
set_option linter.unusedSimpArgs false
def SuccM (s : HS) (x v : Int) : Prop := ∃ (o : Int × List Int) (i : Nat), s.m x = some o ∧ 0 ≤ o.1 ∧ i < (fieldsL s.l o.1).length ∧ isRefH (rd_T29 (fieldsL s.l o.1) (i : Int)).f1 = true ∧ v = o.2.getD i 0 ∧ (s.m v).isSome = true
theorem nodup_le : ∀ {l r : List Int}, l.Nodup → (∀ x ∈ l, x ∈ r) → l.length ≤ r.length
  | [], _, _, _ => Nat.zero_le _
  | x :: l, r, hn, hs => by
    obtain ⟨h1, h2⟩ := List.nodup_cons.1 hn
    have hx := hs x List.mem_cons_self
    have h3 := nodup_le (l := l) (r := r.erase x) h2 (fun y hy => (List.mem_erase_of_ne (show y ≠ x from fun e => h1 (e ▸ hy))).2 (hs y (List.mem_cons_of_mem _ hy)))
    have h4 := List.length_erase_of_mem hx
    have h5 := List.length_pos_of_mem hx
    simp only [List.length_cons]
    omega
structure StOK (s : HS) (st : List Int × List Int) : Prop where
  n1 : st.1.Nodup
  n2 : st.2.Nodup
  sub : ∀ x ∈ st.2, x ∈ st.1
  live : ∀ x ∈ st.1, (s.m x).isSome = true
theorem nodup_snoc {l : List Int} {x : Int} (h : l.Nodup) (hx : x ∉ l) : (l ++ [x]).Nodup := by
  rw [List.nodup_append]
  exact ⟨h, by simp, fun a ha b hb e => hx (by rw [List.mem_singleton.1 hb] at e; exact e ▸ ha)⟩
theorem meetM_ok {s : HS} {st : List Int × List Int} (h : StOK s st) (x : Int) : StOK s (meetM s st x) := by
  unfold meetM
  split
  · rename_i c
    refine ⟨nodup_snoc h.n1 c.2, nodup_snoc h.n2 (fun hx => c.2 (h.sub x hx)), fun y hy => ?_, fun y hy => ?_⟩
    · rcases List.mem_append.1 hy with hy | hy
      · exact List.mem_append_left _ (h.sub y hy)
      · exact List.mem_append_right _ hy
    · rcases List.mem_append.1 hy with hy | hy
      · exact h.live y hy
      · rw [List.mem_singleton.1 hy]; exact c.1
  · exact h
theorem meetM_mem {s : HS} {st : List Int × List Int} (x y : Int) : y ∈ (meetM s st x).1 ↔ y ∈ st.1 ∨ (y = x ∧ (s.m x).isSome = true) := by
  unfold meetM
  split
  · rename_i c
    rw [List.mem_append, List.mem_singleton]
    exact ⟨fun h => h.imp id (fun e => ⟨e, c.1⟩), fun h => h.imp id And.left⟩
  · rename_i c
    refine ⟨.inl, fun h => h.elim id (fun ⟨e, h2⟩ => ?_)⟩
    rw [e]
    exact Classical.byContradiction fun hn => c ⟨h2, hn⟩
theorem meetM_shut {s : HS} {st : List Int × List Int} (x y : Int) (h1 : y ∈ (meetM s st x).1) (h2 : y ∉ (meetM s st x).2) : y ∈ st.1 ∧ y ∉ st.2 := by
  unfold meetM at h1 h2
  split at h1
  · rename_i c
    rw [if_pos c] at h2
    rcases List.mem_append.1 h1 with h | h
    · exact ⟨h, fun h3 => h2 (List.mem_append_left _ h3)⟩
    · exact absurd (List.mem_append_right _ h) h2
  · rename_i c
    rw [if_neg c] at h2
    exact ⟨h1, h2⟩
theorem meetM_count {s : HS} {st : List Int × List Int} (x : Int) : (meetM s st x).1.length + st.2.length = st.1.length + (meetM s st x).2.length := by
  unfold meetM
  split
  · simp only [List.length_append, List.length_singleton]; omega
  · rfl
theorem meetAll_ok {s : HS} {fl : List S29} {nums : List Int} {st : List Int × List Int} (h : StOK s st) : ∀ i, StOK s (meetAll s fl nums i st)
  | 0 => h
  | i + 1 => by
    unfold meetAll
    split
    · exact meetM_ok (meetAll_ok h i) _
    · exact meetAll_ok h i
theorem meetAll_mem {s : HS} {fl : List S29} {nums : List Int} {st : List Int × List Int} (y : Int) : ∀ i, y ∈ (meetAll s fl nums i st).1 ↔ y ∈ st.1 ∨ ∃ j, j < i ∧ isRefH (rd_T29 fl (j : Int)).f1 = true ∧ y = nums.getD j 0 ∧ (s.m y).isSome = true
  | 0 => ⟨.inl, fun h => h.elim id (fun ⟨j, hj, _⟩ => absurd hj (Nat.not_lt_zero _))⟩
  | i + 1 => by
    have ih := meetAll_mem (s := s) (fl := fl) (nums := nums) (st := st) y i
    unfold meetAll
    split
    · rename_i c
      rw [meetM_mem, ih]
      constructor
      · rintro ((h | ⟨j, h1, h2⟩) | ⟨h1, h2⟩)
        · exact .inl h
        · exact .inr ⟨j, by omega, h2⟩
        · exact .inr ⟨i, by omega, c, h1, by rw [h1]; exact h2⟩
      · rintro (h | ⟨j, h1, h2, h3, h4⟩)
        · exact .inl (.inl h)
        · by_cases e : j = i
          · subst e; exact .inr ⟨h3, by rw [← h3]; exact h4⟩
          · exact .inl (.inr ⟨j, by omega, h2, h3, h4⟩)
    · rename_i c
      rw [ih]
      constructor
      · rintro (h | ⟨j, h1, h2⟩)
        · exact .inl h
        · exact .inr ⟨j, by omega, h2⟩
      · rintro (h | ⟨j, h1, h2, h3⟩)
        · exact .inl h
        · by_cases e : j = i
          · subst e; exact absurd h2 c
          · exact .inr ⟨j, by omega, h2, h3⟩
theorem meetAll_shut {s : HS} {fl : List S29} {nums : List Int} {st : List Int × List Int} (y : Int) : ∀ i, y ∈ (meetAll s fl nums i st).1 → y ∉ (meetAll s fl nums i st).2 → y ∈ st.1 ∧ y ∉ st.2
  | 0 => fun h1 h2 => ⟨h1, h2⟩
  | i + 1 => by
    unfold meetAll
    split
    · intro h1 h2
      obtain ⟨h3, h4⟩ := meetM_shut _ y h1 h2
      exact meetAll_shut y i h3 h4
    · exact meetAll_shut y i
theorem meetAll_count {s : HS} {fl : List S29} {nums : List Int} {st : List Int × List Int} : ∀ i, (meetAll s fl nums i st).1.length + st.2.length = st.1.length + (meetAll s fl nums i st).2.length
  | 0 => rfl
  | i + 1 => by
    have ih := meetAll_count (s := s) (fl := fl) (nums := nums) (st := st) i
    unfold meetAll
    split
    · have := meetM_count (s := s) (st := meetAll s fl nums i st) (nums.getD i 0)
      omega
    · exact ih
theorem last_split {l : List Int} (h : ¬ l.length = 0) : l = l.dropLast ++ [l.getD (l.length - 1) 0] := by
  have hne : l ≠ [] := fun e => h (by rw [e]; rfl)
  conv => lhs; rw [← List.dropLast_concat_getLast hne]
  congr 2
  rw [List.getLast_eq_getElem, List.getD_eq_getElem?_getD, List.getElem?_eq_getElem (by omega)]
  rfl
theorem markGo_tells (s : HS) (N : Nat) (hN : ∀ l : List Int, l.Nodup → (∀ x ∈ l, (s.m x).isSome = true) → l.length ≤ N) (hN2 : N < 8796093022208) :
    ∀ (k : Nat) (st : List Int × List Int), StOK s st → (∀ x ∈ st.1, x ∉ st.2 → ∀ v, SuccM s x v → v ∈ st.1) → N - st.1.length + st.2.length < k →
      ∃ r, markGo s k st = some r ∧ r.Nodup ∧ (∀ x ∈ r, (s.m x).isSome = true) ∧ (∀ x ∈ st.1, x ∈ r) ∧ (∀ x ∈ r, ∀ v, SuccM s x v → v ∈ r) ∧ ∀ P : Int → Prop, (∀ x ∈ st.1, P x) → (∀ x v, P x → SuccM s x v → P v) → ∀ x ∈ r, P x
  | 0, _, _, _, h => absurd h (Nat.not_lt_zero _)
  | k + 1, st, hok, hcl, hk => by
    unfold markGo
    by_cases h0 : st.2.length = 0
    · rw [if_pos h0]
      have e : st.2 = [] := List.eq_nil_of_length_eq_zero h0
      exact ⟨st.1, rfl, hok.n1, hok.live, fun _ h => h, fun x hx v hv => hcl x hx (by rw [e]; simp) v hv, fun P h1 _ x hx => h1 x hx⟩
    · rw [if_neg h0]
      have hsp := last_split h0
      obtain ⟨z, hz⟩ : ∃ z, z = st.2.getD (st.2.length - 1) 0 := ⟨_, rfl⟩
      rw [← hz] at hsp ⊢
      obtain ⟨q, hq⟩ : ∃ q, q = st.2.dropLast := ⟨_, rfl⟩
      rw [← hq] at hsp ⊢
      have hz2 : z ∈ st.2 := by rw [hsp]; simp
      have hz1 := hok.sub z hz2
      obtain ⟨o, ho⟩ := Option.isSome_iff_exists.1 (hok.live z hz1)
      have hql : st.2.length = q.length + 1 := by rw [hsp]; simp
      have hm1 := hN st.1 hok.n1 hok.live
      have hm2 := hN st.2 hok.n2 (fun x hx => hok.live x (hok.sub x hx))
      have hfit : (fitM st.1.length && fitM st.2.length) = true := by
        unfold fitM
        rw [decide_eq_true (by omega), decide_eq_true (by omega)]
        rfl
      have hqn : q.Nodup ∧ z ∉ q := by
        have := hok.n2
        rw [hsp, List.nodup_append] at this
        exact ⟨this.1, fun hh => this.2.2 z hh z (by simp) rfl⟩
      have hok' : StOK s (st.1, q) := ⟨hok.n1, hqn.1, fun x hx => hok.sub x (by rw [hsp]; exact List.mem_append_left _ hx), hok.live⟩
      rw [ho]
      simp only [hfit, if_true]
      by_cases hc : o.1 < 0
      · rw [if_pos hc]
        obtain ⟨r, h1, h2, h3, h4, h5, h6⟩ := markGo_tells s N hN hN2 k (st.1, q) hok' (fun x hx hxq v hv => by
          by_cases e : x = z
          · obtain ⟨o', i, ho', hc', _⟩ := hv
            rw [e, ho] at ho'
            cases ho'
            omega
          · exact hcl x hx (fun hh => by rw [hsp] at hh; rcases List.mem_append.1 hh with hh | hh; exact hxq hh; exact e (List.mem_singleton.1 hh)) v hv) (by show N - st.1.length + q.length < k; omega)
        exact ⟨r, h1, h2, h3, h4, h5, h6⟩
      · rw [if_neg hc]
        obtain ⟨st', hst⟩ : ∃ st', st' = meetAll s (fieldsL s.l o.1) o.2 (fieldsL s.l o.1).length (st.1, q) := ⟨_, rfl⟩
        rw [← hst]
        have ok2 : StOK s st' := by rw [hst]; exact meetAll_ok hok' _
        have hmem : ∀ y, y ∈ st'.1 ↔ y ∈ st.1 ∨ SuccM s z y := fun y => by
          rw [hst, meetAll_mem]
          refine or_congr Iff.rfl ⟨fun ⟨j, h1, h2, h3, h4⟩ => ⟨o, j, ho, by omega, h1, h2, h3, h4⟩, fun ⟨o', j, ho', h0', h1, h2, h3, h4⟩ => ?_⟩
          rw [ho] at ho'
          cases ho'
          exact ⟨j, h1, h2, h3, h4⟩
        have hcount : st'.1.length + q.length = st.1.length + st'.2.length := by rw [hst]; exact meetAll_count _
        have hm3 := hN st'.1 ok2.n1 ok2.live
        have hge : st.1.length ≤ st'.1.length := by
          exact nodup_le hok.n1 (fun x hx => (hmem x).2 (.inl hx))
        obtain ⟨r, h1, h2, h3, h4, h5, h6⟩ := markGo_tells s N hN hN2 k st' ok2 (fun x hx hxq v hv => by
          have hsh : x ∈ st.1 ∧ x ∉ q := by
            rw [hst] at hx hxq
            exact meetAll_shut x _ hx hxq
          by_cases e : x = z
          · exact (hmem v).2 (.inr (e ▸ hv))
          · exact (hmem v).2 (.inl (hcl x hsh.1 (fun hh => by rw [hsp] at hh; rcases List.mem_append.1 hh with hh | hh; exact hsh.2 hh; exact e (List.mem_singleton.1 hh)) v hv))) (by omega)
        refine ⟨r, h1, h2, h3, fun x hx => h4 x ((hmem x).2 (.inl hx)), h5, fun P p1 p2 x hx => h6 P (fun y hy => ?_) p2 x hx⟩
        rcases (hmem y).1 hy with hy | hy
        · exact p1 y hy
        · exact p2 z y (p1 z hz1) hy
structure Reached (s : HS) (roots met : List Int) : Prop where
  nd : met.Nodup
  live : ∀ x ∈ met, (s.m x).isSome = true
  has : ∀ x ∈ roots, (s.m x).isSome = true → x ∈ met
  shut : ∀ x ∈ met, ∀ v, SuccM s x v → v ∈ met
  least : ∀ P : Int → Prop, (∀ x ∈ roots, (s.m x).isSome = true → P x) → (∀ x v, P x → SuccM s x v → P v) → ∀ x ∈ met, P x
theorem rootsM_tells (s : HS) : ∀ (roots : List Int) (st : List Int × List Int), StOK s st → (∀ x ∈ st.1, x ∈ st.2) → (∀ x ∈ roots, x ≠ 0 → (s.m x).isSome = true) →
    ∃ st', rootsM s roots st = some st' ∧ StOK s st' ∧ (∀ x ∈ st'.1, x ∈ st'.2) ∧ ∀ y, y ∈ st'.1 ↔ y ∈ st.1 ∨ (y ∈ roots ∧ (s.m y).isSome = true)
  | [], st, h1, h2, _ => ⟨st, rfl, h1, h2, fun y => by simp⟩
  | x :: r, st, h1, h2, h3 => by
    unfold rootsM
    rw [if_neg (fun h => by have := h3 x List.mem_cons_self h.1; rw [h.2] at this; cases this)]
    obtain ⟨st', e1, e2, e3, e4⟩ := rootsM_tells s r (meetM s st x) (meetM_ok h1 x) (fun y hy => Classical.byContradiction fun hn => by
      obtain ⟨q1, q2⟩ := meetM_shut x y hy hn
      exact q2 (h2 y q1)) (fun y hy => h3 y (List.mem_cons_of_mem _ hy))
    refine ⟨st', e1, e2, e3, fun y => ?_⟩
    rw [e4, meetM_mem, List.mem_cons]
    constructor
    · rintro ((h | ⟨h, h'⟩) | ⟨h, h'⟩)
      · exact .inl h
      · exact .inr ⟨.inl h, by rw [h]; exact h'⟩
      · exact .inr ⟨.inr h, h'⟩
    · rintro (h | ⟨h | h, h'⟩)
      · exact .inl (.inl h)
      · exact .inl (.inr ⟨h, by rw [← h]; exact h'⟩)
      · exact .inr ⟨h, h'⟩
theorem rootsM_bad (s : HS) : ∀ (roots : List Int) (st : List Int × List Int), (∃ x ∈ roots, x ≠ 0 ∧ s.m x = none) → rootsM s roots st = none
  | [], _, ⟨x, hx, _⟩ => by cases hx
  | x :: r, st, ⟨y, hy, h⟩ => by
    unfold rootsM
    split
    · rfl
    · rename_i c
      rcases List.mem_cons.1 hy with e | hy
      · exact absurd (e ▸ h) c
      · exact rootsM_bad s r _ ⟨y, hy, h⟩
theorem mark_bad (s : HS) (k : Nat) (roots : List Int) (h : ∃ x ∈ roots, x ≠ 0 ∧ s.m x = none) : markM k s roots = some none := by
  unfold markM
  rw [rootsM_bad s roots _ h]
theorem mark_good (s : HS) (N : Nat) (hN : ∀ l : List Int, l.Nodup → (∀ x ∈ l, (s.m x).isSome = true) → l.length ≤ N) (hN2 : N ≤ 4096) (roots : List Int) (h : ∀ x ∈ roots, x ≠ 0 → (s.m x).isSome = true) : ∃ met, markM 8193 s roots = some (some met) ∧ Reached s roots met := by
  obtain ⟨st, e1, e2, e3, e4⟩ := rootsM_tells s roots ([], []) ⟨by simp, by simp, by simp, by simp⟩ (by simp) h
  have hm2 := hN st.2 e2.n2 (fun x hx => e2.live x (e2.sub x hx))
  obtain ⟨r, h1, h2, h3, h4, h5, h6⟩ := markGo_tells s N hN (by omega) 8193 st e2 (fun x hx hn => absurd (e3 x hx) hn) (by omega)
  refine ⟨r, by unfold markM; rw [e1]; simp only [h1]; rfl, h2, h3, fun x hx hl => h4 x ((e4 x).2 (.inr ⟨hx, hl⟩)), h5, fun P p1 p2 x hx => h6 P (fun y hy => ?_) p2 x hx⟩
  rcases (e4 y).1 hy with hy | ⟨hy, hl⟩
  · cases hy
  · exact p1 y hy hl
theorem SumOK.few {s : HS} (h : SumOK s) {N : Nat} (hu : s.used ≤ N) : ∀ l : List Int, l.Nodup → (∀ x ∈ l, (s.m x).isSome = true) → l.length ≤ N := fun l hn hl => by
  have h1 : l.length ≤ (liveL s).length := nodup_le hn (fun x hx => (liveL_mem h.1 x).2 (hl x hx))
  have h2 := costL_len s.m (liveL s)
  have := h.2
  omega
end Go.Proofs.Ytkjagcamikkjkaa.P

end

section
namespace Go.Proofs.Ytkjagcamikkjkaa.P
open Go.RowKit Go.Proofs.YtkjagcamikkjkaaW.PrintWords Go.Proofs.YtkjagcamikkjkaaW.PrintLast Go.Proofs.YtkjagcamikkjkaaW.PrintMore
set_option linter.unusedVariables false
set_option linter.unusedSimpArgs false

def sign (i c : Int) : Bool :=
  (decide (97 ≤ c) && decide (c ≤ 122)) || (decide (65 ≤ c) && decide (c ≤ 90)) || (decide (0 < i) && ((decide (48 ≤ c) && decide (c ≤ 57)) || decide (c = 95)))
def tailOk (s : ByteArray) : Nat → Bool
  | 0 => true
  | d + 1 => sign ((s.size : Int) - (d + 1)) (bt s ((s.size : Int) - (d + 1))) && tailOk s d
def nameOk (s : ByteArray) : Bool := decide (1 ≤ s.size) && decide (s.size ≤ 24) && tailOk s s.size
def words6 : List ByteArray := [⟨#[116, 111, 112]⟩, ⟨#[105, 110, 116]⟩, ⟨#[98, 111, 111, 108]⟩, ⟨#[110, 117, 108, 108]⟩, ⟨#[105, 110, 116, 115]⟩, ⟨#[97, 110, 121]⟩]
def isWordB (s : ByteArray) : Bool := words6.any fun t => decide (t = s)
abbrev Tbl := List S32
def par (l : Tbl) (c : Int) : Int := (rd_T32 l c).f1
def nam (l : Tbl) (c : Int) : ByteArray := (rd_T32 l c).f0
def own (l : Tbl) (c : Int) : List S29 := (rd_T32 l c).f2
def fieldsOf (l : Tbl) (c : Int) : List S29 := (climbL l c).reverse.flatMap fun i => own l i
def hasB (fs : List S29) (s : ByteArray) : Bool := fs.any fun f => decide (f.f0 = s)
def validB (l : Tbl) (a : Int) : Bool := decide (a ≤ 5) || (decide (16 ≤ a) && decide (a - 16 < (l.length : Int)))
def storedB (l : Tbl) (a : Int) : Bool := validB l a && decide (a ≠ 0) && decide (a ≠ 3)
end Go.Proofs.Ytkjagcamikkjkaa.P


end

section
namespace Go.Proofs.Ytkjagcamikkjkaa.P
open Go.RowKit Go.Proofs.YtkjagcamikkjkaaW.PrintWords Go.Proofs.YtkjagcamikkjkaaW.PrintLast Go.Proofs.YtkjagcamikkjkaaW.PrintMore
set_option linter.unusedVariables false
set_option linter.unusedSimpArgs false

def Sane (l : Tbl) : Prop := l.length ≤ 9223372036854775807 ∧ l.length * 48 ≤ 140737488351232 ∧ ∀ x ∈ l, Ok32 x
theorem rd_mem (l : Tbl) (c : Int) (h0 : 0 ≤ c) (h1 : c < (l.length : Int)) : rd_T32 l c ∈ l := by
  have h : c.toNat < l.length := by omega
  simp [rd_T32, List.getD_eq_getElem?_getD, h]
theorem Sane.size {l : Tbl} (h : Sane l) : l.length ≤ 2932031007320 := by have := h.2.1; omega
theorem Sane.nam {l : Tbl} (h : Sane l) {c : Int} (h0 : 0 ≤ c) (h1 : c < (l.length : Int)) : (nam l c).size ≤ 140737488351232 := (h.2.2 _ (rd_mem l c h0 h1)).1
theorem Sane.par {l : Tbl} (h : Sane l) {c : Int} (h0 : 0 ≤ c) (h1 : c < (l.length : Int)) : -9223372036854775808 ≤ par l c ∧ par l c ≤ 9223372036854775807 := by
  have := (h.2.2 _ (rd_mem l c h0 h1)).2.1
  simp [Lit.wf, IntKind.min, IntKind.max, IntKind.signed, IntKind.bits] at this
  exact this
theorem Sane.own {l : Tbl} (h : Sane l) {c : Int} (h0 : 0 ≤ c) (h1 : c < (l.length : Int)) : (own l c).length * 24 ≤ 140737488351232 ∧ ∀ x ∈ own l c, x.f0.size ≤ 140737488351232 ∧ (0 ≤ x.f1 ∧ x.f1 ≤ 255) := by
  obtain ⟨_, h2, h3⟩ := (h.2.2 _ (rd_mem l c h0 h1)).2.2
  refine ⟨h2, fun x hx => ⟨(h3 x hx).1, ?_⟩⟩
  have := (h3 x hx).2
  simp [Lit.wf, IntKind.min, IntKind.max, IntKind.signed, IntKind.bits] at this
  exact this

def fieldFaultFrom (l : Tbl) (all fs : List S29) : Nat → Nat → Int
  | 0, _ => if (fs.length : Int) > 32 - (all.length : Int) then 4 else 0
  | d + 1, i => if nameOk (rd_T29 fs i).f0 = true then (if hasB all (rd_T29 fs i).f0 = true then 20 else if hasB (fs.take i) (rd_T29 fs i).f0 = true then 20 else if storedB l (rd_T29 fs i).f1 = true then fieldFaultFrom l all fs d (i + 1) else 22) else 6
def fieldFault (l : Tbl) (all fs : List S29) : Int := fieldFaultFrom l all fs fs.length 0
def aheadFrom (l : Tbl) (c : Int) : Nat → Bool
  | 0 => false
  | d + 1 => decide (nam l (c - (d + 1)) = nam l c) || aheadFrom l c d
def aheadB (l : Tbl) (c : Int) : Bool := aheadFrom l c c.toNat
def parFault (l : Tbl) (c : Int) : Int := if par l c < -1 then 21 else if par l c ≥ c then 21 else fieldFault l (fieldsOf l (par l c)) (own l c)
def faultB (l : Tbl) (c : Int) : Int :=
  if c ≥ 32 then 4 else if nameOk (nam l c) = true then (if isWordB (nam l c) = true then 6 else if aheadB l c = true then 20 else parFault l c) else 6

def GoodTo (l : Tbl) (n : Int) : Prop := ∀ c : Int, 0 ≤ c → c < n → faultB l c = 0
theorem field_fault_long (l : Tbl) (all fs : List S29) : ∀ (d i : Nat), fieldFaultFrom l all fs d i = 0 → (fs.length : Int) ≤ 32 - all.length
  | 0, i, h => by
    unfold fieldFaultFrom at h
    split at h <;> omega
  | d + 1, i, h => by
    unfold fieldFaultFrom at h
    split at h
    · split at h
      · omega
      · split at h
        · omega
        · split at h
          · exact field_fault_long l all fs d (i + 1) h
          · omega
    · omega
theorem fault_zero {l : Tbl} {c : Int} (h : faultB l c = 0) : c < 32 ∧ nameOk (nam l c) = true ∧ isWordB (nam l c) = false ∧ aheadB l c = false ∧ -1 ≤ par l c ∧ par l c < c ∧ fieldFault l (fieldsOf l (par l c)) (own l c) = 0 := by
  unfold faultB parFault at h
  split at h
  · omega
  · split at h
    · split at h
      · omega
      · split at h
        · omega
        · split at h
          · omega
          · split at h
            · omega
            · rename_i h1 h2 h3 h4 h5 h6
              exact ⟨by omega, h2, by simpa using h3, by simpa using h4, by omega, by omega, h⟩
    · omega
theorem fieldsOf_in (l : Tbl) (c : Int) (h0 : 0 ≤ c) (h1 : c < (l.length : Int)) (h2 : par l c < c) : fieldsOf l c = fieldsOf l (par l c) ++ own l c := by
  unfold fieldsOf
  rw [climbL_in l c h0 h1 h2, List.reverse_cons, List.flatMap_append]
  simp [par]
theorem fieldsOf_out (l : Tbl) (c : Int) (h : ¬ (0 ≤ c ∧ c < (l.length : Int))) : fieldsOf l c = [] := by
  unfold fieldsOf
  rw [climbL_out l c h]
  rfl
theorem GoodTo.fields {l : Tbl} {n : Int} (hn : n ≤ l.length) (h : GoodTo l n) (c : Int) (hc : c < n) : (fieldsOf l c).length ≤ 32 := by
  by_cases h0 : 0 ≤ c
  · obtain ⟨_, _, _, _, h5, h6, h7⟩ := fault_zero (h c h0 hc)
    have := field_fault_long l _ _ _ _ h7
    rw [fieldsOf_in l c h0 (by omega) h6, List.length_append]
    omega
  · rw [fieldsOf_out l c (by omega)]
    simp
def checkFrom (l : Tbl) : Nat → Int → Int × Int
  | 0, _ => (0, 0)
  | d + 1, c => if faultB l c = 0 then checkFrom l d (c + 1) else (c, faultB l c)
def checkB (l : Tbl) : Int × Int := checkFrom l l.length 0
theorem checkFrom_zero (l : Tbl) : ∀ (d : Nat) (c : Int), (checkFrom l d c).2 = 0 ↔ ∀ i : Int, c ≤ i → i < c + d → faultB l i = 0
  | 0, c => by
    constructor
    · intro _ i h1 h2; omega
    · intro _; rfl
  | d + 1, c => by
    unfold checkFrom
    split
    · rename_i e
      rw [checkFrom_zero l d (c + 1)]
      constructor
      · intro h i h1 h2
        by_cases hi : i = c
        · rw [hi]; exact e
        · exact h i (by omega) (by omega)
      · intro h i h1 h2
        exact h i (by omega) (by omega)
    · rename_i e
      constructor
      · intro h; exact absurd h e
      · intro h; exact h c (by omega) (by omega)
def Good (l : Tbl) : Prop := GoodTo l l.length
theorem good_iff (l : Tbl) : (checkB l).2 = 0 ↔ Good l := by
  unfold checkB
  rw [checkFrom_zero l l.length 0]
  unfold Good GoodTo
  simp
theorem Good.short {l : Tbl} (h : Good l) : l.length ≤ 32 := by
  rcases Nat.lt_or_ge 32 l.length with h1 | h1
  · have := (fault_zero (h 32 (by omega) (by omega))).1
    omega
  · exact h1
end Go.Proofs.Ytkjagcamikkjkaa.P


end

section
namespace Go.Proofs.Ytkjagcamikkjkaa.P
open Go.RowKit Go.Proofs.YtkjagcamikkjkaaW.PrintWords Go.Proofs.YtkjagcamikkjkaaW.PrintLast Go.Proofs.YtkjagcamikkjkaaW.PrintMore
set_option linter.unusedVariables false
set_option linter.unusedSimpArgs false

theorem Good.nameOk {l : Tbl} (h : Good l) {c : Int} (h0 : 0 ≤ c) (h1 : c < (l.length : Int)) : nameOk (nam l c) = true ∧ isWordB (nam l c) = false :=
  ⟨(fault_zero (h c h0 h1)).2.1, (fault_zero (h c h0 h1)).2.2.1⟩
end Go.Proofs.Ytkjagcamikkjkaa.P


end

section
namespace Go.Proofs.Ytkjagcamikkjkaa.P
open Go.RowKit Go.Proofs.YtkjagcamikkjkaaW.PrintWords Go.Proofs.YtkjagcamikkjkaaW.PrintLast Go.Proofs.YtkjagcamikkjkaaW.PrintMore
set_option linter.unusedVariables false
set_option linter.unusedSimpArgs false
theorem fields_len {l : Tbl} (hg : Good l) (c : Int) : (fieldsOf l c).length ≤ 32 := by
  by_cases h : c < (l.length : Int)
  · exact GoodTo.fields (Int.le_refl _) hg c h
  · rw [fieldsOf_out l c (by omega)]
    exact Nat.zero_le _
theorem impl_fields' {l : Tbl} (hg : Good l) (c : Int) : types_Fields.f l c = some (fieldsOf l c) := by
  have := hg.short
  have h2 := climbL_length l c
  have h3 := fields_len hg c
  unfold types_Fields.f
  rw [if_pos ⟨by omega, by unfold fieldsOf own at h3; omega⟩]
  rfl
end Go.Proofs.Ytkjagcamikkjkaa.P

end

section
namespace Go.Proofs.Ytkjagcamikkjkaa.P
open Go.RowKit Go.Proofs.YtkjagcamikkjkaaW.PrintWords Go.Proofs.YtkjagcamikkjkaaW.PrintLast Go.Proofs.YtkjagcamikkjkaaW.PrintMore
attribute [local go_sem] max2_int min2_int max_two min_two max_three min_three max_four min_four
set_option linter.unusedVariables false
set_option linter.unusedSimpArgs false
theorem good_fields {l : List S32} (hg : Good l) : FieldsOK l := fun c _ _ => impl_fields' hg c
theorem HeapAt.dom {w0 : World} {s : HS} {W : World} (h : HeapAt w0 s W) : ∀ x o, s.m x = some o → ObjOK s.l s.last x o := by
  obtain ⟨ob, rb, h⟩ := h
  exact h.dom
def BadRoots (s : HS) (roots : List Int) : Prop := ∃ x ∈ roots, x ≠ 0 ∧ s.m x = none
theorem good_roots {s : HS} {roots : List Int} (h : ¬ BadRoots s roots) : ∀ x ∈ roots, x ≠ 0 → (s.m x).isSome = true := fun x hx h0 => by
  cases hm : s.m x with
  | none => exact absurd ⟨x, hx, h0, hm⟩ h
  | some o => rfl
theorem mark_total {s : HS} (h : SumOK s) (hu : s.used ≤ 4096) (roots : List Int) : (BadRoots s roots ∧ markM 8193 s roots = some none) ∨ ∃ met, ¬ BadRoots s roots ∧ markM 8193 s roots = some (some met) ∧ Reached s roots met ∧ met.length ≤ 4096 := by
  by_cases hb : BadRoots s roots
  · exact .inl ⟨hb, mark_bad s _ roots hb⟩
  · obtain ⟨met, h1, h2⟩ := mark_good s 4096 (h.few hu) (Nat.le_refl _) roots (good_roots hb)
    exact .inr ⟨met, hb, h1, h2, h.few hu met h2.nd h2.live⟩
theorem HeapAt.used_le {w0 : World} {s : HS} {W : World} (h : HeapAt w0 s W) : s.used ≤ 4096 := by have := h.num; omega
theorem live_few {s : HS} (h : SumOK s) (hu : s.used ≤ 4096) : (liveL s).length ≤ 4096 := h.few hu _ (rising_nodup (liveL_rising s)) (fun x hx => (liveL_mem h.1 x).1 hx)
theorem hp_LiveS (w0 : World) (s : HS) (hs : SumOK s) (hlast : s.last < 17592186044416) (W : World) (h : HeapAt w0 s W) : Calls Try.prog 13 #[.pointer (some ⟨s.hb, 0, none⟩)] W fun e w' => ∃ v : Value, e = .returned v ∧ Kd.R (Kd.int .i64) 3 w' W.heap.size (fun _ => True) v (liveL s) ∧ Below W.heap.size W w' :=
  (hp_Live w0 s hlast W h).mono fun e w' ⟨v, ls, h1, h2, h3, h4, h5⟩ => by
    obtain rfl : ls = liveL s := rising_same h3 (liveL_rising s) (fun x => by rw [h4, liveL_mem hs.1])
    exact ⟨v, h1, h2, h5⟩
theorem hp_CollectS (w0 : World) (s : HS) (hs : SumOK s) (hg : Good s.l) (hlast : s.last < 17592186044416) (A : Option Addr) (c : Nat) (roots : List Int) (W : World) (h : HeapAt w0 s W) (hC : (Kd.int .i64).C W A roots.length roots) (hrk : ∀ y ∈ roots, I64 y) (hrl : roots.length < 17592186044416) :
    Calls Try.prog 12 #[.pointer (some ⟨s.hb, 0, none⟩), .slice A roots.length c] W fun e w' => (BadRoots s roots ∧ e = .returned (.tuple #[.int .i64 0, .int .i64 141]) ∧ HeapAt w0 s w') ∨ ∃ met : List Int, ¬ BadRoots s roots ∧ Reached s roots met ∧ e = .returned (.tuple #[.int .i64 (goC met s 0 (liveL s)).1, .int .i64 0]) ∧ HeapAt w0 (colS s met) w' := by
  have hlf := live_few hs h.used_le
  rcases mark_total hs h.used_le roots with ⟨hb, hm⟩ | ⟨met, hb, hm, hR, hl⟩
  · exact (hp_Collect w0 s 8193 A c roots none (liveL s) W h (good_fields hg) hlast hC hrk hrl hm (liveL_rising s) (fun x => liveL_mem hs.1 x) (by omega) (fun _ h => by cases h)).mono fun e w' h2 => by
      rcases h2 with ⟨_, h2, h3⟩ | ⟨met, h2, _⟩
      · exact .inl ⟨hb, h2, h.step h3⟩
      · cases h2
  · exact (hp_Collect w0 s 8193 A c roots (some met) (liveL s) W h (good_fields hg) hlast hC hrk hrl hm (liveL_rising s) (fun x => liveL_mem hs.1 x) (by omega) (fun m _ => hs.collect_le m)).mono fun e w' h2 => by
      rcases h2 with ⟨h2, _⟩ | ⟨met', h2, h3, h4⟩
      · cases h2
      · cases h2
        exact .inr ⟨met, hb, hR, h3, h4⟩
structure LifeS (l0 : List S32) (room : Int) (j : Nat) (s : HS) : Prop where
  l : s.l = l0
  good : Good l0
  room : s.room = room
  sum : SumOK s
  last : s.last ≤ j
  fr : ∀ k, ¬ s.fr k
theorem addM_last (s : HS) (c n : Int) : (addM s c n).2.2.last ≤ s.last + 1 ∧ (addM s c n).2.2.l = s.l ∧ (addM s c n).2.2.room = s.room ∧ (addM s c n).2.2.fr = s.fr ∧ (addM s c n).2.2.hb = s.hb := by
  unfold addM
  split
  · exact ⟨Nat.le_succ _, rfl, rfl, rfl, rfl⟩
  · exact ⟨Nat.le_refl _, rfl, rfl, rfl, rfl⟩
theorem LifeS.addM {l0 : List S32} {room : Int} {j : Nat} {s : HS} (h : LifeS l0 room j s) (c n : Int) (hn : 0 ≤ n) : LifeS l0 room (j + 1) (addM s c n).2.2 := by
  obtain ⟨h1, h2, h3, h4, _⟩ := addM_last s c n
  exact ⟨h2.trans h.l, h.good, h3.trans h.room, h.sum.add c n hn, by have := h.last; omega, by rw [h4]; exact h.fr⟩
theorem LifeS.up {l0 : List S32} {room : Int} {j : Nat} {s : HS} (h : LifeS l0 room j s) : LifeS l0 room (j + 1) s := ⟨h.l, h.good, h.room, h.sum, Nat.le_succ_of_le h.last, h.fr⟩
theorem LifeS.row {l0 : List S32} {room : Int} {j : Nat} {s : HS} (h : LifeS l0 room j s) (n : Int) : LifeS l0 room (j + 1) (rowM s n).2.2 := by
  unfold rowM
  split
  · exact h.up
  · exact h.addM _ _ (by omega)
theorem putM_keeps (s : HS) (x i v : Int) : (putM s x i v).2.last = s.last ∧ (putM s x i v).2.l = s.l ∧ (putM s x i v).2.room = s.room ∧ (putM s x i v).2.fr = s.fr ∧ (putM s x i v).2.hb = s.hb := by
  unfold putM
  split
  · split
    · exact ⟨rfl, rfl, rfl, rfl, rfl⟩
    · exact ⟨rfl, rfl, rfl, rfl, rfl⟩
  · exact ⟨rfl, rfl, rfl, rfl, rfl⟩
theorem LifeS.put {l0 : List S32} {room : Int} {j : Nat} {s : HS} (h : LifeS l0 room j s) (x i v : Int) : LifeS l0 room (j + 1) (putM s x i v).2 := by
  obtain ⟨h1, h2, h3, h4, _⟩ := putM_keeps s x i v
  exact ⟨h2.trans h.l, h.good, h3.trans h.room, h.sum.put x i v, by have := h.last; omega, by rw [h4]; exact h.fr⟩
theorem colS_hb (s : HS) (met : List Int) : (colS s met).hb = s.hb := by rw [colS_eq]
theorem LifeS.collect {l0 : List S32} {room : Int} {j : Nat} {s : HS} (h : LifeS l0 room j s) (met : List Int) : LifeS l0 room (j + 1) (colS s met) := by
  refine ⟨?_, h.good, ?_, h.sum.collect met, ?_, ?_⟩ <;> rw [colS_eq]
  · exact h.l
  · exact h.room
  · exact Nat.le_succ_of_le h.last
  · exact h.fr
theorem LifeS.start (hb B : Nat) (vc : Value) {l0 : List S32} (hg : Good l0) (room : Int) (W : World) : LifeS l0 room 0 ⟨hb, B, vc, l0, room, 0, 0, fun _ => none, fun _ => False, W⟩ :=
  ⟨rfl, hg, rfl, ⟨fun x o h => (by cases h), (by unfold liveL; rfl)⟩, Nat.le_refl _, fun _ h => h⟩
end Go.Proofs.Ytkjagcamikkjkaa.P

end

section
namespace Go.Proofs.Ytkjagcamikkjkaa.P
open Go.RowKit Go.Proofs.YtkjagcamikkjkaaW.PrintWords Go.Proofs.YtkjagcamikkjkaaW.PrintLast Go.Proofs.YtkjagcamikkjkaaW.PrintMore
attribute [local go_sem] max2_int min2_int max_two min_two max_three min_three max_four min_four
set_option linter.unusedVariables false
set_option linter.unusedSimpArgs false
def ringR (hb B : Nat) (vc : Value) (W : World) (j : Nat) : HS := ⟨hb, B, vc, oneL 16, 4096, 2 * (j : Int), j, fun x => if 1 ≤ x ∧ x ≤ (j : Int) then some (0, [0]) else none, fun _ => False, W⟩
def ringP (hb B : Nat) (vc : Value) (W : World) (k i : Nat) : HS := ⟨hb, B, vc, oneL 16, 4096, 2 * (k : Int), k, fun x => if 1 ≤ x ∧ x ≤ (k : Int) then some (0, [if x ≤ (i : Int) then x % (k : Int) + 1 else 0]) else none, fun _ => False, W⟩
theorem ring_fields : ((fieldsL (oneL 16) 0).length : Int) = 1 := by kernel_rfl
theorem ring_good : Good (oneL 16) := (good_iff (oneL 16)).1 (by kernel_rfl)
theorem ring_record (hb B : Nat) (vc : Value) (W : World) (j : Nat) (hj : j < 2000) : recordM (ringR hb B vc W j) 0 = ((j : Int) + 1, 0, ringR hb B vc W (j + 1)) := by
  unfold recordM
  rw [if_neg (by show ¬ ((0 : Int) < 0 ∨ (0 : Int) ≥ ((oneL 16).length : Int)); decide)]
  show addM (ringR hb B vc W j) 0 ((fieldsL (oneL 16) 0).length : Int) = _
  rw [ring_fields]
  unfold addM
  rw [if_neg (by show ¬ ((1 : Int) > 4096 - 2 * (j : Int) - 1); omega)]
  have hm : updM (fun x => if 1 ≤ x ∧ x ≤ (j : Int) then some (0, [0]) else none) ((j : Int) + 1) (0, [0]) = fun x => if 1 ≤ x ∧ x ≤ ((j + 1 : Nat) : Int) then some (0, [0]) else none := by
    funext x
    unfold updM
    by_cases e : x = (j : Int) + 1
    · rw [if_pos e, if_pos (by omega)]
    · rw [if_neg e]
      show (if 1 ≤ x ∧ x ≤ (j : Int) then some ((0 : Int), [(0 : Int)]) else none) = (if 1 ≤ x ∧ x ≤ ((j + 1 : Nat) : Int) then some ((0 : Int), [(0 : Int)]) else none)
      by_cases e2 : 1 ≤ x ∧ x ≤ (j : Int)
      · rw [if_pos e2, if_pos (by omega)]
      · rw [if_neg e2, if_neg (by omega)]
  have hu : 2 * (j : Int) + (1 + 1) = 2 * ((j + 1 : Nat) : Int) := by omega
  show ((j : Int) + 1, (0 : Int), (⟨hb, B, vc, oneL 16, 4096, 2 * (j : Int) + (1 + 1), j + 1, updM (fun x => if 1 ≤ x ∧ x ≤ (j : Int) then some (0, [0]) else none) ((j : Int) + 1) (0, [0]), fun _ => False, W⟩ : HS)) = _
  rw [hm, hu]
  rfl
theorem ring_start (hb B : Nat) (vc : Value) (W : World) (k : Nat) : ringP hb B vc W k 0 = ringR hb B vc W k := by
  unfold ringP ringR
  congr 1
  funext x
  by_cases e : 1 ≤ x ∧ x ≤ (k : Int)
  · rw [if_pos e, if_pos e, if_neg (by omega)]
  · rw [if_neg e, if_neg e]
theorem ring_put (hb B : Nat) (vc : Value) (W : World) (k i : Nat) (hi : i < k) (hk : k ≤ 20) : putM (ringP hb B vc W k i) ((i : Int) + 1) 0 (((i : Int) + 1) % (k : Int) + 1) = (0, ringP hb B vc W k (i + 1)) := by
  have hs : (ringP hb B vc W k i).m ((i : Int) + 1) = some (0, [0]) := by
    show (if 1 ≤ (i : Int) + 1 ∧ (i : Int) + 1 ≤ (k : Int) then some ((0 : Int), [if (i : Int) + 1 ≤ (i : Int) then ((i : Int) + 1) % (k : Int) + 1 else 0]) else none) = _
    rw [if_pos (by omega), if_neg (by omega)]
  have hv := Int.emod_nonneg ((i : Int) + 1) (show (k : Int) ≠ 0 by omega)
  have hv2 := Int.emod_lt_of_pos ((i : Int) + 1) (show (0 : Int) < (k : Int) by omega)
  unfold putM
  rw [if_pos (placeE_in (by omega) hs (by show (0 : Int) ≤ 0 ∧ (0 : Int) < 1; omega)), if_neg (by omega)]
  have hm : setNum (ringP hb B vc W k i).m ((i : Int) + 1) 0 (((i : Int) + 1) % (k : Int) + 1) = (ringP hb B vc W k (i + 1)).m := by
    funext x
    unfold setNum
    by_cases e : x = (i : Int) + 1
    · rw [if_pos e, hs, e]
      show some _ = (if 1 ≤ (i : Int) + 1 ∧ (i : Int) + 1 ≤ (k : Int) then some ((0 : Int), [if (i : Int) + 1 ≤ ((i + 1 : Nat) : Int) then ((i : Int) + 1) % (k : Int) + 1 else 0]) else none)
      rw [if_pos (by omega), if_pos (by omega)]
      rfl
    · rw [if_neg e]
      show (if 1 ≤ x ∧ x ≤ (k : Int) then some ((0 : Int), [if x ≤ (i : Int) then x % (k : Int) + 1 else 0]) else none) = (if 1 ≤ x ∧ x ≤ (k : Int) then some ((0 : Int), [if x ≤ ((i + 1 : Nat) : Int) then x % (k : Int) + 1 else 0]) else none)
      by_cases e2 : x ≤ (i : Int)
      · rw [if_pos e2, if_pos (show x ≤ ((i + 1 : Nat) : Int) by omega)]
      · rw [if_neg e2, if_neg (show ¬ x ≤ ((i + 1 : Nat) : Int) by omega)]
  rw [hm]
  rfl
theorem ring_m (hb B : Nat) (vc : Value) (W : World) (k : Nat) {x : Int} (h : 1 ≤ x ∧ x ≤ (k : Int)) : (ringP hb B vc W k k).m x = some (0, [x % (k : Int) + 1]) := by
  show (if 1 ≤ x ∧ x ≤ (k : Int) then some ((0 : Int), [if x ≤ (k : Int) then x % (k : Int) + 1 else 0]) else none) = _
  rw [if_pos h, if_pos h.2]
theorem ring_some (hb B : Nat) (vc : Value) (W : World) (k : Nat) (x : Int) : ((ringP hb B vc W k k).m x).isSome = true ↔ 1 ≤ x ∧ x ≤ (k : Int) := by
  show (if 1 ≤ x ∧ x ≤ (k : Int) then some ((0 : Int), [if x ≤ (k : Int) then x % (k : Int) + 1 else 0]) else none).isSome = true ↔ _
  by_cases h : 1 ≤ x ∧ x ≤ (k : Int)
  · rw [if_pos h]; exact ⟨fun _ => h, fun _ => rfl⟩
  · rw [if_neg h]; exact ⟨fun h2 => (by cases h2), fun h2 => absurd h2 h⟩
theorem ring_succ (hb B : Nat) (vc : Value) (W : World) (k : Nat) {x : Int} (h : 1 ≤ x ∧ x ≤ (k : Int)) : SuccM (ringP hb B vc W k k) x (x % (k : Int) + 1) := by
  have hv := Int.emod_nonneg x (show (k : Int) ≠ 0 by omega)
  have hv2 := Int.emod_lt_of_pos x (show (0 : Int) < (k : Int) by omega)
  exact ⟨_, 0, ring_m hb B vc W k h, Int.le_refl 0, (by show 0 < (fieldsL (oneL 16) 0).length; have := ring_fields; omega), (by show isRefH (rd_T29 (fieldsL (oneL 16) 0) ((0 : Nat) : Int)).f1 = true; kernel_rfl), rfl, (ring_some hb B vc W k _).2 (by omega)⟩
theorem ring_all (hb B : Nat) (vc : Value) (W : World) (k : Nat) (hk : 1 ≤ k) {met : List Int} (h : Reached (ringP hb B vc W k k) [(k : Int)] met) : ∀ x : Int, x ∈ met ↔ 1 ≤ x ∧ x ≤ (k : Int) := by
  have h0 : (k : Int) ∈ met := h.has _ (List.mem_singleton.2 rfl) ((ring_some hb B vc W k _).2 (by omega))
  have h1 : (1 : Int) ∈ met := by
    have := h.shut _ h0 _ (ring_succ hb B vc W k (by omega))
    rwa [Int.emod_self] at this
  have hn : ∀ n : Nat, n < k → ((n : Int) + 1) ∈ met := by
    intro n
    induction n with
    | zero => intro _; exact h1
    | succ n ih =>
      intro hn
      have := h.shut _ (ih (by omega)) _ (ring_succ hb B vc W k (x := (n : Int) + 1) (by omega))
      rw [Int.emod_eq_of_lt (by omega) (by omega)] at this
      rw [show ((n + 1 : Nat) : Int) + 1 = (n : Int) + 1 + 1 by omega]
      exact this
  refine fun x => ⟨fun hx => (ring_some hb B vc W k x).1 (h.live x hx), fun hx => ?_⟩
  have := hn (x - 1).toNat (by omega)
  rwa [show (((x - 1).toNat : Nat) : Int) + 1 = x by omega] at this
theorem ring_live (hb B : Nat) (vc : Value) (W : World) (k : Nat) : (liveL (ringP hb B vc W k k)).length = k := by
  unfold liveL
  rw [List.filter_eq_self.2 (fun x hx => by
    obtain ⟨i, hi, rfl⟩ := List.mem_map.1 hx
    have h := List.mem_range.1 hi
    have h : i < k := h
    exact (ring_some hb B vc W k _).2 (by omega))]
  rw [List.length_map, List.length_range]
  rfl
theorem ring_kept (hb B : Nat) (vc : Value) (W : World) (k : Nat) (hk : 1 ≤ k) (hs : SumOK (ringP hb B vc W k k)) {met : List Int} (h : Reached (ringP hb B vc W k k) [(k : Int)] met) : (goC met (ringP hb B vc W k k) 0 (liveL (ringP hb B vc W k k))).1 = 0 ∧ (liveL (colS (ringP hb B vc W k k) met)).length = k := by
  have ha := ring_all hb B vc W k hk h
  constructor
  · rw [goC_n _ _ _ _ (rising_nodup (liveL_rising _)), List.filter_eq_nil_iff.2 (fun x hx => by
      have : x ∈ met := (ha x).2 ((ring_some hb B vc W k x).1 ((liveL_mem hs.1 x).1 hx))
      unfold memH
      rw [decide_eq_true this]
      simp)]
    rfl
  · have e : liveL (colS (ringP hb B vc W k k) met) = liveL (ringP hb B vc W k k) := rising_same (liveL_rising _) (liveL_rising _) (fun x => by
      rw [liveL_mem (hs.collect met).1, liveL_mem hs.1, colS_m hs.1]
      by_cases hx : x ∈ met
      · rw [if_pos hx]
      · rw [if_neg hx]
        refine ⟨fun h => (by cases h), fun h => absurd ((ha x).2 ((ring_some hb B vc W k x).1 h)) hx⟩)
    rw [e, ring_live]
theorem ring_gone {s : HS} (hs : SumOK s) {met : List Int} (h : Reached s [] met) : (goC met s 0 (liveL s)).1 = s.used ∧ (liveL (colS s met)).length = 0 := by
  have hm : met = [] := List.eq_nil_iff_forall_not_mem.2 (fun x hx => h.least (fun _ => False) (fun y hy _ => by cases hy) (fun _ _ h _ => h) x hx)
  subst hm
  constructor
  · rw [goC_n _ _ _ _ (rising_nodup (liveL_rising _)), List.filter_eq_self.2 (fun x hx => by unfold memH; simp), hs.2]
    omega
  · have e : liveL (colS s []) = [] := List.eq_nil_iff_forall_not_mem.2 (fun x hx => by
      have := (liveL_mem (hs.collect []).1 x).1 hx
      rw [colS_m hs.1] at this
      simp at this)
    rw [e]
    rfl
def provisolaw14_HeapRings.Facts (n : Int) (b : Bool) : Prop := 0 ≤ n ∧ n ≤ 18446744073709551615
set_option maxHeartbeats 1600000 in
set_option maxRecDepth 100000 in
theorem provisolaw14_HeapRings.calls (n : Int) (b : Bool) (w : World) (h : provisolaw14_HeapRings.Facts n b) :
    Calls Try.prog 3 #[.int .u64 n, .bool b] w fun e w' => e = .returned (.bool true) ∧ Below w.heap.size w w' := by
  have HF := Aside0.mk h
  clear h
  go_enter Try.func3, Try.ntmps3
  go_wp2_with fail
  obtain ⟨W, hW, hb, hC⟩ := two_alloc w 16
  rw [← hW]
  have HB := Aside0.mk hb
  clear hW hb
  obtain ⟨k, hk⟩ : ∃ k : Nat, wrap64 (wrap64 (n.tmod 20) + 1) = (k : Int) ∧ 1 ≤ k ∧ k ≤ 20 := by
    have h1 := HF.out.1
    have h2 : n.tmod 20 = n % 20 := Int.tmod_eq_emod_of_nonneg h1
    refine ⟨(n % 20).toNat + 1, ?_, by omega, by omega⟩
    rw [h2]
    unfold wrap64
    omega
  rw [hk.1]
  have HK := Aside0.mk hk.2
  clear hk
  refine (hp_New 40 _ 1 (oneL 16) 4096 0 0 W hC (by decide) (by decide) (by decide) check_one16).mono ?_
  rintro e w3 (⟨h, _⟩ | ⟨_, _, h, _⟩ | ⟨_, _, _, hb, B, vc, rfl, hH⟩)
  · omega
  · omega
  have hL : LifeS (oneL 16) 4096 0 ⟨hb, B, vc, oneL 16, 4096, 0, 0, fun _ => none, fun _ => False, W⟩ := LifeS.start hb B vc ring_good 4096 W
  have e0 : (⟨hb, B, vc, oneL 16, 4096, 0, 0, fun _ => none, fun _ => False, W⟩ : HS) = ringR hb B vc W 0 := by
    unfold ringR
    congr 1
    funext x
    rw [if_neg (by omega)]
  rw [e0] at hH hL
  have H := Aside0.mk hH
  have L := Aside0.mk hL.sum
  clear hH hC hL e0
  go_wp2_with fail
  go_loopw [30] (fun v30 wr => ∃ j : Nat, v30 = .int .i64 (j : Int) ∧ j ≤ k ∧ Aside0 (HeapAt W (ringR hb B vc W j) wr) ∧ Aside0 (SumOK (ringR hb B vc W j))) (fun v30 _ => ((k : Int) - intOf v30).toNat)
  case atStart => exact ⟨0, rfl, Nat.zero_le _, H, L⟩
  case round =>
    rename_i wr
    clear H L
    obtain ⟨j, rfl, hj, H, L⟩ := hrel
    by_cases c1 : j < k
    · have c1b : decide ((j : Int) < (k : Int)) = true := decide_eq_true (by omega)
      have c1c : decide (j < k) = true := decide_eq_true c1
      have HJ := Aside0.mk c1
      have HW := Aside0.mk (wrap_h c1 (by have := HK.out; omega))
      have hrec := ring_record hb B vc W j (by have := HK.out; omega)
      have hsum := L.out.add 0 ((fieldsL (oneL 16) 0).length : Int) (by omega)
      have HS2 := Aside0.mk (show SumOK (ringR hb B vc W (j + 1)) by
        have h9 : recordM (ringR hb B vc W j) 0 = addM (ringR hb B vc W j) 0 ((fieldsL (oneL 16) 0).length : Int) := by
          unfold recordM
          rw [if_neg (by show ¬ ((0 : Int) < 0 ∨ (0 : Int) ≥ ((oneL 16).length : Int)); decide)]
          rfl
        rw [← h9, hrec] at hsum
        exact hsum)
      have hcall := hp_Record W (ringR hb B vc W j) 0 _ fields_one16 (by show j < 4611686018427387904; have := HK.out; omega) wr H.out
      rw [hrec] at hcall
      clear c1 hrec hsum
      go_wp2_with fail
      refine hcall.mono ?_
      rintro e w5 ⟨rfl, hH⟩
      replace H := Aside0.mk hH
      clear hH hcall
      go_wp2_with fail
      go_roundw
      case rel => exact ⟨j + 1, (by rw [HW.out]), HJ.out, H, HS2⟩
      case measure => exact meas_h HJ.out HW.out
    · have c1b : decide ((j : Int) < (k : Int)) = false := decide_eq_false (by omega)
      have c1c : decide (j < k) = false := decide_eq_false c1
      obtain rfl : j = k := by omega
      rw [← ring_start] at H L
      clear c1 hj
      go_wp2_with fail
      go_loopw [36] (fun v36 wr => ∃ i : Nat, v36 = .int .i64 (i : Int) ∧ i ≤ j ∧ Aside0 (HeapAt W (ringP hb B vc W j i) wr) ∧ Aside0 (SumOK (ringP hb B vc W j i))) (fun v36 _ => ((j : Int) - intOf v36).toNat)
      case atStart => exact ⟨0, rfl, Nat.zero_le _, H, L⟩
      case round =>
        rename_i wr
        clear H L
        obtain ⟨i, rfl, hi, H, L⟩ := hrel
        by_cases c2 : i < j
        · have c2b : decide ((i : Int) < (j : Int)) = true := decide_eq_true (by omega)
          have c2c : decide (i < j) = true := decide_eq_true c2
          have HI := Aside0.mk c2
          have hw1 := wrap_h c2 (by have := HK.out; omega)
          have HW := Aside0.mk hw1
          have hput := ring_put hb B vc W j i c2 HK.out.2
          have hsum := L.out.put ((i : Int) + 1) 0 (((i : Int) + 1) % (j : Int) + 1)
          rw [hput] at hsum
          have HS2 := Aside0.mk hsum
          have hcall := hp_Put W (ringP hb B vc W j i) ((i : Int) + 1) 0 (((i : Int) + 1) % (j : Int) + 1) (by unfold I64; have := HK.out; omega) wr H.out
          rw [hput] at hcall
          have hj1 : (j = 0) = False := eq_false (by have := HK.out; omega)
          have hj2 : ((j : Int) = 0) = False := eq_false (by have := HK.out; omega)
          have hw2 : wrap64 (((i : Int) + 1) % (j : Int) + 1) = ((i : Int) + 1) % (j : Int) + 1 := by
            have h1 := Int.emod_nonneg ((i : Int) + 1) (show (j : Int) ≠ 0 by have := HK.out; omega)
            have h2 := Int.emod_lt_of_pos ((i : Int) + 1) (show (0 : Int) < (j : Int) by have := HK.out; omega)
            have h3 := HK.out
            unfold wrap64
            omega
          have HC2 := Aside0.mk hcall
          clear c2 hput hsum hcall
          go_wp2_with fail
          refine HC2.out.mono ?_
          rintro e w5 ⟨rfl, hH⟩
          replace H := Aside0.mk hH
          clear hH HC2
          go_wp2_with fail
          go_roundw
          case rel => exact ⟨i + 1, (by rw [HW.out]), HI.out, H, HS2⟩
          case measure => exact meas_h HI.out HW.out
        · have c2b : decide ((i : Int) < (j : Int)) = false := decide_eq_false (by omega)
          have c2c : decide (i < j) = false := decide_eq_false c2
          obtain rfl : i = j := by omega
          clear c2 hi
          cases b with
          | true =>
            go_wp2_with fail
            have hb9 : Below wr.heap.size wr (wr.alloc (.cells #[.int .i64 (i : Int)] 3)) := below_alloc (Below.refl _ _) _
            have HC9 : Aside0 (Kd.C (Kd.int .i64) (wr.alloc (.cells #[.int .i64 (i : Int)] 3)) (some ⟨wr.heap.size, 0, none⟩) ([(i : Int)] : List Int).length [(i : Int)]) := ⟨C_one9 (blk_new wr _) rfl⟩
            replace H := Aside0.mk (H.out.step hb9)
            clear hb9
            generalize wr.alloc (.cells #[.int .i64 (i : Int)] 3) = w4 at H HC9 ⊢
            refine (hp_CollectS W (ringP hb B vc W i i) L.out ring_good (by show i < 17592186044416; have := HK.out; omega) (some ⟨wr.heap.size, 0, none⟩) 1 [(i : Int)] _ H.out HC9.out (fun y hy => by rw [List.mem_singleton.1 hy]; unfold I64; have := HK.out; omega) (by simp only [List.length_cons, List.length_nil]; omega)).mono ?_
            rintro e w5 (⟨hbad, _, _⟩ | ⟨met, _, hreach, rfl, hH⟩)
            · exfalso
              obtain ⟨x, hx, _, hx2⟩ := hbad
              have h9 := (ring_some hb B vc W i x).2 (by rw [List.mem_singleton.1 hx]; have := HK.out; omega)
              rw [hx2] at h9
              cases h9
            obtain ⟨k1, k2⟩ := ring_kept hb B vc W i HK.out.1 L.out hreach
            rw [k1]
            replace H := Aside0.mk hH
            have HSC := Aside0.mk (L.out.collect met)
            have K2 := Aside0.mk k2
            clear k1 k2 hreach hH
            go_wp2_with fail
            have hcall := hp_LiveS W (colS (ringP hb B vc W i i) met) HSC.out (by rw [colS_eq]; show i < 17592186044416; have := HK.out; omega) w5 H.out
            rw [show (colS (ringP hb B vc W i i) met).hb = hb by rw [colS_hb]; rfl] at hcall
            refine hcall.mono ?_
            clear hcall
            rintro e w6 ⟨v, rfl, hV, hb6⟩
            replace H := Aside0.mk (H.out.step hb6)
            obtain ⟨Av, cv, ev⟩ := Kd.R_slice hV
            rw [K2.out] at ev
            subst ev
            clear hV hb6
            go_wp2_with fail
            go_ret
            exact ⟨rfl, below_then HB.out HB.out.size H.out.below⟩
          | false =>
            go_wp2_with fail
            have HC9 : Aside0 (Kd.C (Kd.int .i64) wr none ([] : List Int).length []) := ⟨Kd.C_nil _ _⟩
            refine (hp_CollectS W (ringP hb B vc W i i) L.out ring_good (by show i < 17592186044416; have := HK.out; omega) none 0 [] _ H.out HC9.out (fun y hy => by cases hy) (by simp only [List.length_cons, List.length_nil]; omega)).mono ?_
            rintro e w5 (⟨hbad, _, _⟩ | ⟨met, _, hreach, rfl, hH⟩)
            · exfalso
              obtain ⟨x, hx, _⟩ := hbad
              cases hx
            obtain ⟨k1, k2⟩ := ring_gone L.out hreach
            rw [k1, show (ringP hb B vc W i i).used = 2 * (i : Int) from rfl]
            have hw1 : wrap64 (2 * (i : Int)) = 2 * (i : Int) := by have := HK.out; unfold wrap64; omega
            have hw3 : IntKind.i64.wrap (2 * (i : Int)) = 2 * (i : Int) := wrap_c (by omega) (by have := HK.out; omega)
            replace H := Aside0.mk hH
            have HSC := Aside0.mk (L.out.collect met)
            have K2 := Aside0.mk k2
            clear k1 k2 hreach hH
            go_wp2_with fail
            have hcall := hp_LiveS W (colS (ringP hb B vc W i i) met) HSC.out (by rw [colS_eq]; show i < 17592186044416; have := HK.out; omega) w5 H.out
            rw [show (colS (ringP hb B vc W i i) met).hb = hb by rw [colS_hb]; rfl] at hcall
            refine hcall.mono ?_
            clear hcall
            rintro e w6 ⟨v, rfl, hV, hb6⟩
            replace H := Aside0.mk (H.out.step hb6)
            obtain ⟨Av, cv, ev⟩ := Kd.R_slice hV
            rw [K2.out] at ev
            subst ev
            clear hV hb6
            go_wp2_with fail
            go_ret
            exact ⟨rfl, below_then HB.out HB.out.size H.out.below⟩
end Go.Proofs.Ytkjagcamikkjkaa.P

end

section
namespace Go.Proofs.Ytkjagcamikkjkaa.P
open Go.RowKit Go.Proofs.YtkjagcamikkjkaaW.PrintWords
def provisolaw14_HeapRings.Pure : Prop := ∀ (a0 : Int) (a1 : Bool), (fun n : Int => (Lit.int .u64 n).wf = true) a0 → (fun _ : Bool => True) a1 → provisolaw14_HeapRings.Facts a0 a1
end Go.Proofs.Ytkjagcamikkjkaa.P

end

section
namespace Go.Proofs.Ytkjagcamikkjkaa.Pure
open Go.RowKit Go.Proofs.Ytkjagcamikkjkaa.P Go.Proofs.YtkjagcamikkjkaaW.PrintWords
theorem HeapRings : provisolaw14_HeapRings.Pure := fun n b h _ => by
  simp [Lit.wf, IntKind.min, IntKind.max, IntKind.signed, IntKind.bits] at h
  exact h
end Go.Proofs.Ytkjagcamikkjkaa.Pure

end

section
namespace Go.Proofs.Ytkjagcamikkjkaa.heapRings
open Go.ChangeShapes Go.WideShapes Go.ChangeAt Go.RowKit Go.Proofs.YtkjagcamikkjkaaW.PrintWords Go.Proofs.Ytkjagcamikkjkaa.Sees Go.Proofs.Ytkjagcamikkjkaa.P
open Go.ChangeMaps (open_string shut_string)
set_option linter.unusedVariables false
set_option linter.unusedSimpArgs false
theorem own : ownKnob Try.prog.godebug = none := by kernel_rfl
theorem laidOut : laidOutB Try.prog = true := by kernel_rfl
set_option maxRecDepth 100000 in
theorem lifted (os : Os) (started : os.Started) (H : Type) (enc : TypeId × Value → H) :
    ReturnsInHanded {} Try.checked os 3 .any (Rows.heapRingsSpec.pre6 enc Try.prog Try.f3 Rows.heapRingsRow.domain false) (Rows.heapRingsSpec.post enc Try.prog Try.f3 false true false false) := by
  refine returnsInHanded_of_change_sized (C := Try.checked) own started (by kernel_rfl) Try.func3
    (ChangeSpec.witness6 (enc := enc) (C := Try.checked) false ⟨#[], #[.int .u64 0, .bool false], []⟩ 8 (by kernel_rfl) (by kernel_rfl) (by kernel_rfl) (by kernel_rfl)) ?_
  intro W base args ds gs before hval0 hW hcnd hsz0 _
  have hsz : (DataW.weightsEach Try.prog (Try.f3.params.toList ++ Rows.heapRingsSpec.plain.varTypes Try.prog) (ds ++ gs)).all (· ≤ reachBytes) = true := hsz0
  have hval : ∀ (j : Nat) t v, Try.f3.params[j]? = some t → args[j]? = some v → Value.okWide Try.prog W .any base t v := hval0
  have hW' := hW
  obtain ⟨p, q, hA0, hV, rfl, hfz, hnd⟩ := hW
  have hA : DataW.TrodAll enc Try.prog W 0 (fun _ => true) true Try.f3.params.toList args.toList ds p := hA0
  rw [Try.params3] at hA hval hsz
  obtain ⟨v0, vs0, d0, ds0, p0, q0, hargs, rfl, rfl, h0, r0⟩ := trodAll_cons hA
  obtain ⟨v1, vs1, d1, ds1, p1, q1, rfl, rfl, rfl, h1, r1⟩ := trodAll_cons r0
  obtain ⟨rfl, rfl, rfl⟩ := trodAll_nil r1
  obtain rfl : args = #[v0, v1] := by cases args; simp_all
  obtain ⟨rfl, rfl⟩ := trodVars_none hV
  have k0 := h0
  have lt0 : ∀ x ∈ p0, x.block < W.heap.size := by obtain ⟨m, hm⟩ := k0; exact DataW.trod_lt m _ _ _ hm
  obtain ⟨y0, hy0, oy0⟩ := see_arg (j := 0) (t := 22) (sees_int Try.underlying22) hsz rfl rfl h0
  obtain ⟨z0, rfl, rfl, rfl, _⟩ := open_int Try.underlying22 (hval 0 22 v0 rfl rfl) h0
  obtain rfl : z0 = y0 := by have e_ := hy0; simp [Kd.int, Kd.bool, Kd.string, Kd.scalar, Value.cells] at e_; exact e_
  have k1 := h1
  have lt1 : ∀ x ∈ p1, x.block < W.heap.size := by obtain ⟨m, hm⟩ := k1; exact DataW.trod_lt m _ _ _ hm
  obtain ⟨y1, hy1, oy1⟩ := see_arg (j := 1) (t := 4) (sees_bool Try.underlying4) hsz rfl rfl h1
  obtain ⟨z1, rfl, rfl, rfl⟩ := open_bool Try.underlying4 (hval 1 4 v1 rfl rfl) h1
  obtain rfl : z1 = y1 := by have e_ := hy1; simp [Kd.int, Kd.bool, Kd.string, Kd.scalar, Value.cells] at e_; exact e_
  clear hA0 hval0 hsz0 hsz
  have hk := Pure.HeapRings z0 z1 oy0 oy1
  refine (provisolaw14_HeapRings.calls z0 z1 W  hk).mono ?_
  rintro e W' ⟨rfl, bel0⟩
  have bel : Below W.heap.size W W' := bel0
  exact ⟨_, rfl, _, _, _, [], _, [], hW', trodAll_mk1 (shut_bool Try.underlying4 _), (trodAll_cons_mk (Below.trod laidOut (by kernel_rfl) (of_decide_eq_true (by kernel_rfl)) k0 bel lt0) (trodAll_cons_mk (Below.trod laidOut (by kernel_rfl) (of_decide_eq_true (by kernel_rfl)) k1 bel lt1) trodAll_mk0)), rfl, bel.frame _, fun h => by cases h⟩
theorem over : Rows.heapRingsRow.holds Try.pinned (OpenSpec.ofChange Rows.heapRingsSpec) :=
  OpenClaim.holds_of_wide 3 Try.f3 rfl rfl rfl rfl rfl rfl rfl ⟨rfl, rfl, rfl, rfl, rfl⟩ rfl rfl rfl rfl rfl (by kernel_rfl) Try.func3 (by kernel_rfl)
    (of_decide_eq_true (by kernel_rfl)) (by unfold Func.isWrapper; first | (rw [if_pos (by decide +kernel)]; kernel_rfl) | (rw [if_neg (by decide +kernel)]; exact ⟨rfl, rfl⟩))
    (fun os started H enc _ => lifted os started H enc)
theorem proved : Rows.HeapRingsSaid := over
end Go.Proofs.Ytkjagcamikkjkaa.heapRings
namespace Go.Proofs.Ytkjagcamikkjkaa
theorem heapRings_holds : Rows.HeapRingsSaid := heapRings.proved
end Go.Proofs.Ytkjagcamikkjkaa

end

