/- Proved: the law HeapCome holds for every input that the row lets in. No condition of ours. -/
import Derived.Test.YtkjagcamikkjkaaBHeapComec
import Derived.Sort.OwnSortedInts
import Derived.Shelf.Slices.CompactI
import Derived.Ground.Names2Prog
import Derived.Test.YtkjagcamikkjkaaRows
import Derived.ShutString
import Derived.ChangeOld
import Derived.Lib.SmallJoins
section
namespace Go.Proofs.Ytkjagcamikkjkaa.P
open Go.RowKit Go.Proofs.YtkjagcamikkjkaaW.PrintWords Go.Proofs.YtkjagcamikkjkaaW.PrintLast Go.Proofs.YtkjagcamikkjkaaW.PrintMore
attribute [local go_sem] max2_int min2_int max_two min_two max_three min_three max_four min_four
set_option linter.unusedVariables false
set_option linter.unusedSimpArgs false
set_option maxHeartbeats 1600000 in
set_option maxRecDepth 100000 in
theorem hp_mark (w0 : World) (s : HS) (k : Nat) (A : Option Addr) (c : Nat) (roots : List Int) (res : Option (List Int)) (W : World) (h : HeapAt w0 s W) (hfo : FieldsOK s.l) (hnl : s.last < 4611686018427387904) (hC : (Kd.int .i64).C W A roots.length roots) (hrk : ∀ y ∈ roots, I64 y) (hrl : roots.length < 17592186044416) (hm : markM k s roots = some res) :
    Calls Try.prog 38 #[.pointer (some ⟨s.hb, 0, none⟩), .slice A roots.length c] W fun e w' => Below W.heap.size W w' ∧ MarkPost W res e w' := by
  have hmf : ∀ (fn : Fn) (first cap : Array Value) (w : World), (Instr.makeFunc fn first cap).run Try.prog w = .ok (.func fn first cap) w := fun _ _ _ _ => rfl
  have hcf := callFunc_h Try.func57 (by kernel_rfl) (by kernel_rfl)
  have H := Aside0.mk h
  have HFO := Aside0.mk hfo
  have HNL := Aside0.mk hnl
  have HC := Aside0.mk hC
  have HRK := Aside0.mk hrk
  have HRL := Aside0.mk hrl
  have HMK := Aside0.mk hm
  clear h hfo hnl hC hrk hrl hm
  go_enter Try.func38, Try.ntmps38
  go_wp2_with (first | ((with_reducible refine gate_dst (N := 2) rfl ?_); refine rw_boxH rfl 23 rfl (v := .pointer (some ⟨s.hb, 0, none⟩)) rfl rfl (Rws.nil W) ?_; intro b2 w_ hX hb9; clear hb9; have HX := Aside0.mk hX; clear hX) | ((with_reducible refine gate_dst (N := 14) rfl ?_); refine um_make rfl rfl ?_; intro hM; have hb9 := below_alloc (Below.refl w_.heap.size w_) (.map #[] 0); have HBB := Aside0.mk HX.out.below.size; replace HX := Aside0.mk (HX.out.step hb9); have HM := Aside0.mk hM; clear hM hb9; obtain ⟨B, hB⟩ : ∃ B, B = w_.heap.size := ⟨_, rfl⟩; rw [← hB] at HM HBB ⊢; clear hB; generalize w_.alloc (.map #[] 0) = w5 at HX HM ⊢) | ((with_reducible refine gate_dst (N := 6) rfl ?_); refine rw_alloc1 rfl 76 rfl (z := .map none) (by kernel_rfl) rfl HX.out ?_; intro b6 w6 hg9 hX hb9; clear hg9; replace HM := Aside0.mk (HM.out.block (hb9.block _ HM.out.lt)); clear hb9; replace HX := Aside0.mk hX; clear hX) | ((with_reducible refine gate_store (t := 76) (p := 6) rfl ?_); refine rw_cell rfl 76 rfl (i := 0) rfl (u := .map (some B)) rfl rfl [] HX.out (by show (0 : Nat) < 1; decide) (by kernel_rfl) ?_; intro w7 hX hk9; replace HM := Aside0.mk (HM.out.block (hk9.2 _ HM.out.lt (HM.out.ne (HX.out.mem List.mem_cons_self)))); clear hk9; replace HX : Aside0 (Rws W [(b6, 76, #[.map (some B)]), (b2, 23, #[.pointer (some ⟨s.hb, 0, none⟩)])] w7) := ⟨hX⟩; clear hX) | ((with_reducible refine gate_dst (N := 7) rfl ?_); refine rw_alloc1 rfl 37 rfl (z := .slice none 0 0) (by kernel_rfl) rfl HX.out ?_; intro b7 w8 hg9 hX hb9; clear hg9; replace HM := Aside0.mk (HM.out.block (hb9.block _ HM.out.lt)); clear hb9; replace HX := Aside0.mk hX; clear hX))
  have M0 : Aside0 (MarkIn w0 W s b2 b6 b7 B [] [] (.slice none 0 0) _) := ⟨⟨HX.out, by have := HM.out; rwa [show memH [] = fun _ => false from by funext y; rfl], HBB.out, Kd.R_nil _ _ _ _ _⟩⟩
  go_loopw [18] (fun v18 wr => ∃ (j : Nat) (met op : List Int) (v : Value), v18 = .int .i64 (j : Int) ∧ j ≤ roots.length ∧ Aside0 (MarkIn w0 W s b2 b6 b7 B met op v wr) ∧ Aside0 (met.length ≤ j ∧ op.length ≤ j) ∧ Aside0 ((match rootsM s (roots.drop j) (met, op) with | none => some none | some st => (markGo s k st).map some) = some res)) (fun v18 _ => ((roots.length : Int) - intOf v18).toNat)
  case atStart => exact ⟨0, [], [], _, rfl, Nat.zero_le _, M0, ⟨Nat.le_refl _, Nat.le_refl _⟩, HMK⟩
  case round =>
    rename_i wr
    clear HX HM M0 HMK
    obtain ⟨j, met, op, v, rfl, hj, M, HLS, HMK⟩ := hrel
    by_cases c1 : j < roots.length
    · obtain ⟨x, hx⟩ : ∃ x, x = rd roots (j : Int) := ⟨_, rfl⟩
      obtain ⟨ad, e1, hxa⟩ := Kd.at_int (Kd.C_below HC.out M.out.below) (j : Int) (by omega) (by omega)
      cases e1
      rw [← hx, Int.toNat_natCast] at hxa
      have hdr : roots.drop j = x :: roots.drop (j + 1) := by rw [List.drop_eq_getElem_cons c1, hx]; unfold rd; rw [Int.toNat_natCast, List.getD_eq_getElem?_getD, List.getElem?_eq_getElem c1]; rfl
      have HK := Aside0.mk (HRK.out x (by have := List.getElem_mem c1; rw [hx]; unfold rd; rw [Int.toNat_natCast, List.getD_eq_getElem?_getD, List.getElem?_eq_getElem c1]; exact this))
      have hmk := HMK.out
      rw [hdr] at hmk
      simp only [rootsM] at hmk
      have HW := Aside0.mk (wrap_h c1 (by have := HRL.out; omega))
      have c1b : decide ((j : Int) < (roots.length : Int)) = true := decide_eq_true (by omega)
      have c1c : decide (j < roots.length) = true := decide_eq_true c1
      have p5 : (0 ≤ (j : Int)) = True := eq_true (by omega)
      have p6 : ((j : Int) < (roots.length : Int)) = True := eq_true (by omega)
      have HJ := Aside0.mk c1
      have HLA : Aside0 (op.length < 17592186044416 ∧ met.length < 17592186044416) := ⟨by have h1 := HLS.out.1; have h2 := HLS.out.2; have h3 := HRL.out; constructor <;> omega⟩
      obtain ⟨ob, rb, hh⟩ := H.out
      have HH := Aside0.mk (hh.step M.out.below)
      obtain ⟨k7, k6, k2⟩ := M.out.cells
      have f4 := blk_cell HH.out.hd 4
      simp only [HS.cell, List.getElem?_toArray, List.getElem?_cons_zero, List.getElem?_cons_succ] at f4
      clear hx hdr c1 hh HMK
      by_cases hbad : x ≠ 0 ∧ s.m x = none
      · rw [if_pos hbad] at hmk
        have HRN := Aside0.mk (Option.some.inj hmk).symm
        have c0b : (x == 0) = false := by rw [beq_eq_false_iff_ne]; exact hbad.1
        have c0c : (x != 0) = true := by rw [bne_iff_ne]; exact hbad.1
        have HSM := Aside0.mk hbad.2
        clear hbad hmk
        go_wp2_with (first | ((with_reducible refine gate_dst (N := 30) rfl ?_); refine gate_guard (by rfl) ?_; dsimp only; refine pm_look rfl rfl rfl HH.out.mp rfl HK.out ?_; rw [HSM.out]; simp only [Option.map_none, Option.map_some]))
        go_ret2
        exact ⟨M.out.below, .inl ⟨HRN.out, rfl⟩⟩
      · rw [if_neg hbad] at hmk
        have HMK := Aside0.mk hmk
        clear hmk
        by_cases c0 : x = 0
        · clear hbad
          subst c0
          go_wp2_with fail
          refine (hp_meet w0 W s b2 b6 b7 B met op v 0 HK.out HLA.out.1 HLA.out.2 H.out wr M.out).mono ?_
          rintro e w9 ⟨rfl, _, v9, hm9⟩
          have M9 := Aside0.mk hm9
          have HL9 := Aside0.mk (meetM_len s (met, op) 0)
          clear hm9 M k7 k6 k2 f4 hxa
          go_wp2
          go_roundw
          case rel => exact ⟨j + 1, _, _, v9, by have e9 := HW.out; first | (rw [e9]; done) | (simp; done), HJ.out, M9, ⟨Nat.le_trans HL9.out.1 (Nat.succ_le_succ HLS.out.1), Nat.le_trans HL9.out.2 (Nat.succ_le_succ HLS.out.2)⟩, HMK⟩
          case measure => exact meas_h HJ.out HW.out
        · obtain ⟨o, hso⟩ : ∃ o, s.m x = some o := by
            cases hmm : s.m x with
            | none => exact absurd ⟨c0, hmm⟩ hbad
            | some o => exact ⟨o, rfl⟩
          have HSM := Aside0.mk hso
          have c0b : (x == 0) = false := by rw [beq_eq_false_iff_ne]; exact c0
          have c0c : (x != 0) = true := by rw [bne_iff_ne]; exact c0
          clear hbad c0 hso
          go_wp2_with (first | ((with_reducible refine gate_dst (N := 30) rfl ?_); refine gate_guard (by rfl) ?_; dsimp only; refine pm_look rfl rfl rfl HH.out.mp rfl HK.out ?_; rw [HSM.out]; simp only [Option.map_none, Option.map_some]))
          refine (hp_meet w0 W s b2 b6 b7 B met op v x HK.out HLA.out.1 HLA.out.2 H.out wr M.out).mono ?_
          rintro e w9 ⟨rfl, _, v9, hm9⟩
          have M9 := Aside0.mk hm9
          have HL9 := Aside0.mk (meetM_len s (met, op) x)
          clear hm9 M k7 k6 k2 f4 hxa
          go_wp2
          go_roundw
          case rel => exact ⟨j + 1, _, _, v9, by have e9 := HW.out; first | (rw [e9]; done) | (simp; done), HJ.out, M9, ⟨Nat.le_trans HL9.out.1 (Nat.succ_le_succ HLS.out.1), Nat.le_trans HL9.out.2 (Nat.succ_le_succ HLS.out.2)⟩, HMK⟩
          case measure => exact meas_h HJ.out HW.out
    · have c1b : decide ((j : Int) < (roots.length : Int)) = false := decide_eq_false (by omega)
      have c1c : decide (j < roots.length) = false := decide_eq_false c1
      have hmk := HMK.out
      rw [List.drop_eq_nil_of_le (by omega)] at hmk
      simp only [rootsM] at hmk
      obtain ⟨rr, hr1, hr2⟩ := Option.map_eq_some_iff.1 hmk
      have HGO := Aside0.mk hr1
      have HRES := Aside0.mk hr2
      clear hmk hr1 hr2 c1 HMK hj
      go_wp2_with fail
      go_loopg [39] k (fun kq v39 wr => ∃ (met op : List Int) (v : Value), Aside0 (MarkIn w0 W s b2 b6 b7 B met op v wr) ∧ Aside0 (markGo s kq (met, op) = some rr))
      case atStart => exact ⟨met, op, v, M, HGO⟩
      case round =>
        clear M HGO HLS
        obtain ⟨met, op, v, M, HGO⟩ := hrel
        cases gk with
        | zero => exact absurd HGO.out (by simp [markGo])
        | succ gk =>
        obtain ⟨A7, c7, e7⟩ := Kd.R_slice M.out.open_
        subst e7
        obtain ⟨k7, k6, k2⟩ := M.out.cells
        rcases List.eq_nil_or_concat op with hop | ⟨q, x, hop⟩
        · subst hop
          have hgo := HGO.out
          unfold markGo at hgo
          rw [if_pos (by rfl)] at hgo
          have HRR := Aside0.mk (Option.some.inj hgo)
          clear hgo HGO
          go_wp2_with fail
          go_ret2
          exact ⟨M.out.below, Or.inr ⟨met, B, by rw [← HRES.out, ← HRR.out], rfl, M.out.base, M.out.set⟩⟩
        · rw [List.concat_eq_append] at hop
          subst hop
          have hgo := HGO.out
          unfold markGo at hgo
          rw [if_neg (by simp)] at hgo
          have hlast : (q ++ [x]).getD ((q ++ [x]).length - 1) 0 = x := by simp
          simp only [hlast, List.dropLast_concat] at hgo
          cases hso : s.m x with
          | none => rw [hso] at hgo; cases hgo
          | some o =>
          rw [hso] at hgo
          simp only at hgo
          by_cases hft : (fitM met.length && fitM (q ++ [x]).length) = true
          case neg => rw [if_neg hft] at hgo; cases hgo
          rw [if_pos hft, ] at hgo
          obtain ⟨m, hm⟩ : ∃ m, m = q.length := ⟨_, rfl⟩
          have hlen1 : (q ++ [x]).length = m + 1 := by rw [hm]; simp
          obtain ⟨g7, c7', e7', _, _, _⟩ := Kd.R_form M.out.open_ (by simp)
          rw [hlen1] at e7'
          injection e7' with e8 _ e9
          subst e8 e9
          have HSO := Aside0.mk hso
          have HM := Aside0.mk hm
          have HLEN1 := Aside0.mk hlen1
          have HGO := Aside0.mk hgo
          rw [Bool.and_eq_true] at hft
          have HFT : Aside0 (met.length < 8796093022208 ∧ m < 8796093022208) := ⟨fitM_is hft.1, by have := fitM_is hft.2; rw [hlen1] at this; omega⟩
          obtain ⟨ob, rb, hh⟩ := H.out
          have HHW := Aside0.mk hh
          have HH := Aside0.mk (hh.step M.out.below)
          have HK := Aside0.mk (show I64 x by have h7 := HH.out.dom x o hso; have h71 := h7.1; have h72 := h7.2.1; have h8 := HNL.out; constructor <;> omega)
          have hwm : IntKind.i64.wrap (((m + 1 : Nat) : Int) - 1) = (m : Int) := by rw [IntKind.wrap_i64]; have := HFT.out.2; omega
          have hwm2 : IntKind.i64.wrap (m : Int) = (m : Int) := by rw [IntKind.wrap_i64]; have := HFT.out.2; omega
          have p7 : ((m : Int) < (m : Int) + 1) = True := eq_true (by omega)
          have p5 : (0 ≤ (m : Int)) = True := eq_true (by omega)
          have p6 : ((m : Int) < ((m + 1 : Nat) : Int)) = True := eq_true (by omega)
          rw [hlen1] at k7
          have t1 : decide (((m + 1 : Nat) : Int) > 0) = true := decide_eq_true (by omega)
          have t2 : decide ((0 : Int) < ((m + 1 : Nat) : Int)) = true := decide_eq_true (by omega)
          have t3 : decide (0 < m + 1) = true := decide_eq_true (by omega)
          clear hlast hso hgo hm hft hlen1 hh
          go_wp2_with fail
          (try simp only [Act.put, List.setIfInBounds_toArray, List.set_cons_zero, List.set_cons_succ])
          refine wp_region_held_drew (S := fun w' => MarkIn w0 W s b2 b6 b7 B met (q ++ [x]) (.slice (some ⟨g7, 0, none⟩) (q ++ [x]).length c7) w' ∧ HeapIn w0 s ob rb w') (by kernel_rfl) ?_ (fun hHeld => ?_)
          · exact ⟨M.out.step (pw_below_drewN (Below.refl _ _) 1), HH.out.step (pw_below_drewN (Below.refl _ _) 1)⟩
          clear k7 k6 k2 M HH t1 t2 t3
          refine take_dst (i := 0) (v := ?_) 40 rfl rfl (by kernel_rfl) (by kernel_rfl) (by kernel_rfl) (fun _ _ _ h => h) (Or.inl ⟨by rfl, ?_⟩) (by assumption) ?_
          rotate_left
          · intro w hSw
            obtain ⟨k7, k6, k2⟩ := hSw.1.cells
            rw [HLEN1.out] at k7
            have f4 := blk_cell hSw.2.hd 4
            simp only [HS.cell, List.getElem?_toArray, List.getElem?_cons_zero, List.getElem?_cons_succ] at f4
            go_simp
            try with_reducible rfl
          (try simp only [Act.put, List.setIfInBounds_toArray, List.set_cons_zero, List.set_cons_succ])
          refine take_dst (i := 1) (v := ?_) 41 rfl rfl (by kernel_rfl) (by kernel_rfl) (by kernel_rfl) (fun _ _ _ h => h) (Or.inl ⟨by rfl, ?_⟩) (by assumption) ?_
          rotate_left
          · intro w hSw
            obtain ⟨k7, k6, k2⟩ := hSw.1.cells
            rw [HLEN1.out] at k7
            have f4 := blk_cell hSw.2.hd 4
            simp only [HS.cell, List.getElem?_toArray, List.getElem?_cons_zero, List.getElem?_cons_succ] at f4
            go_simp
            try with_reducible rfl
          (try simp only [Act.put, List.setIfInBounds_toArray, List.set_cons_zero, List.set_cons_succ])
          refine take_dst (i := 2) (v := ?_) 42 rfl rfl (by kernel_rfl) (by kernel_rfl) (by kernel_rfl) (fun _ _ _ h => h) (Or.inl ⟨by rfl, ?_⟩) (by assumption) ?_
          rotate_left
          · intro w hSw
            obtain ⟨k7, k6, k2⟩ := hSw.1.cells
            rw [HLEN1.out] at k7
            have f4 := blk_cell hSw.2.hd 4
            simp only [HS.cell, List.getElem?_toArray, List.getElem?_cons_zero, List.getElem?_cons_succ] at f4
            go_simp
            try with_reducible rfl
          (try simp only [Act.put, List.setIfInBounds_toArray, List.set_cons_zero, List.set_cons_succ])
          refine take_dst (i := 3) (v := ?_) 43 rfl rfl (by kernel_rfl) (by kernel_rfl) (by kernel_rfl) (fun _ _ _ h => h) (Or.inl ⟨by rfl, ?_⟩) (by assumption) ?_
          rotate_left
          · intro w hSw
            obtain ⟨k7, k6, k2⟩ := hSw.1.cells
            rw [HLEN1.out] at k7
            have f4 := blk_cell hSw.2.hd 4
            simp only [HS.cell, List.getElem?_toArray, List.getElem?_cons_zero, List.getElem?_cons_succ] at f4
            go_simp
            try with_reducible rfl
          (try simp only [Act.put, List.setIfInBounds_toArray, List.set_cons_zero, List.set_cons_succ])
          refine take_dst (i := 4) (v := ?_) 44 rfl rfl (by kernel_rfl) (by kernel_rfl) (by kernel_rfl) (fun _ _ _ h => h) (Or.inl ⟨by rfl, ?_⟩) (by assumption) ?_
          rotate_left
          · intro w hSw
            obtain ⟨k7, k6, k2⟩ := hSw.1.cells
            rw [HLEN1.out] at k7
            have f4 := blk_cell hSw.2.hd 4
            simp only [HS.cell, List.getElem?_toArray, List.getElem?_cons_zero, List.getElem?_cons_succ] at f4
            go_simp
            try with_reducible rfl
          (try simp only [Act.put, List.setIfInBounds_toArray, List.set_cons_zero, List.set_cons_succ])
          refine take_dst (i := 5) (v := ?_) 45 rfl rfl (by kernel_rfl) (by kernel_rfl) (by kernel_rfl) (fun _ _ _ h => h) (Or.inl ⟨by rfl, ?_⟩) (by assumption) ?_
          rotate_left
          · intro w hSw
            obtain ⟨k7, k6, k2⟩ := hSw.1.cells
            rw [HLEN1.out] at k7
            have f4 := blk_cell hSw.2.hd 4
            simp only [HS.cell, List.getElem?_toArray, List.getElem?_cons_zero, List.getElem?_cons_succ] at f4
            go_simp
            try with_reducible rfl
          (try simp only [Act.put, List.setIfInBounds_toArray, List.set_cons_zero, List.set_cons_succ])
          refine take_dst (i := 6) (v := ?_) 46 rfl rfl (by kernel_rfl) (by kernel_rfl) (by kernel_rfl) (fun _ _ _ h => h) (Or.inl ⟨by rfl, ?_⟩) (by assumption) ?_
          rotate_left
          · intro w hSw
            obtain ⟨k7, k6, k2⟩ := hSw.1.cells
            rw [HLEN1.out] at k7
            have f4 := blk_cell hSw.2.hd 4
            simp only [HS.cell, List.getElem?_toArray, List.getElem?_cons_zero, List.getElem?_cons_succ] at f4
            go_simp
            try with_reducible rfl
          (try simp only [Act.put, List.setIfInBounds_toArray, List.set_cons_zero, List.set_cons_succ])
          refine take_dst (i := 7) (v := ?_) 47 rfl rfl (by kernel_rfl) (by kernel_rfl) (by kernel_rfl) (fun _ _ _ h => h) (Or.inl ⟨by rfl, ?_⟩) (by assumption) ?_
          rotate_left
          · intro w hSw
            obtain ⟨k7, k6, k2⟩ := hSw.1.cells
            rw [HLEN1.out] at k7
            have f4 := blk_cell hSw.2.hd 4
            simp only [HS.cell, List.getElem?_toArray, List.getElem?_cons_zero, List.getElem?_cons_succ] at f4
            go_simp
            try with_reducible rfl
          (try simp only [Act.put, List.setIfInBounds_toArray, List.set_cons_zero, List.set_cons_succ])
          refine take_dst (i := 8) (v := ?_) 48 rfl rfl (by kernel_rfl) (by kernel_rfl) (by kernel_rfl) (fun _ _ _ h => h) (Or.inl ⟨by rfl, ?_⟩) (by assumption) ?_
          rotate_left
          · intro w hSw
            obtain ⟨k7, k6, k2⟩ := hSw.1.cells
            rw [HLEN1.out] at k7
            have f4 := blk_cell hSw.2.hd 4
            simp only [HS.cell, List.getElem?_toArray, List.getElem?_cons_zero, List.getElem?_cons_succ] at f4
            go_simp
            try with_reducible rfl
          (try simp only [Act.put, List.setIfInBounds_toArray, List.set_cons_zero, List.set_cons_succ])
          refine take_dst (i := 9) (v := ?_) 49 rfl rfl (by kernel_rfl) (by kernel_rfl) (by kernel_rfl) (fun _ _ _ h => h) (Or.inl ⟨by rfl, ?_⟩) (by assumption) ?_
          rotate_left
          · intro w hSw
            obtain ⟨k7, k6, k2⟩ := hSw.1.cells
            rw [HLEN1.out] at k7
            have f4 := blk_cell hSw.2.hd 4
            simp only [HS.cell, List.getElem?_toArray, List.getElem?_cons_zero, List.getElem?_cons_succ] at f4
            have hcell := hSw.1.last_cell HM.out
            go_simp
            try with_reducible rfl
          (try simp only [Act.put, List.setIfInBounds_toArray, List.set_cons_zero, List.set_cons_succ])
          refine take_dst (i := 10) (v := ?_) 50 rfl rfl (by kernel_rfl) (by kernel_rfl) (by kernel_rfl) (fun _ _ _ h => h) (Or.inl ⟨by rfl, ?_⟩) (by assumption) ?_
          rotate_left
          · intro w hSw
            obtain ⟨k7, k6, k2⟩ := hSw.1.cells
            rw [HLEN1.out] at k7
            have f4 := blk_cell hSw.2.hd 4
            simp only [HS.cell, List.getElem?_toArray, List.getElem?_cons_zero, List.getElem?_cons_succ] at f4
            have hlk := pm_run hSw.2.mp HK.out
            rw [HSO.out] at hlk
            simp only [Option.map_some] at hlk
            go_simp
            try with_reducible rfl
          (try simp only [Act.put, List.setIfInBounds_toArray, List.set_cons_zero, List.set_cons_succ])
          refine take_dst (i := 11) (v := ?_) 11 rfl rfl (by kernel_rfl) (by kernel_rfl) (by kernel_rfl) (fun _ _ _ h => h) (Or.inl ⟨by rfl, ?_⟩) (by assumption) ?_
          rotate_left
          · intro w hSw
            obtain ⟨k7, k6, k2⟩ := hSw.1.cells
            rw [HLEN1.out] at k7
            have f4 := blk_cell hSw.2.hd 4
            simp only [HS.cell, List.getElem?_toArray, List.getElem?_cons_zero, List.getElem?_cons_succ] at f4
            go_simp
            try with_reducible rfl
          (try simp only [Act.put, List.setIfInBounds_toArray, List.set_cons_zero, List.set_cons_succ])
          have M := Aside0.mk hHeld.1
          have HH := Aside0.mk hHeld.2
          refine wpAnyH_done (by kernel_rfl) ?_ _
          clear hHeld
          generalize wr.drew = wr3 at M HH ⊢
          obtain ⟨k7, k6, k2⟩ := M.out.cells
          rw [HLEN1.out] at k7
          have g0 := blk_cell (HH.out.obj x o HSO.out).1 0
          simp only [List.getElem?_toArray, List.getElem?_cons_zero, List.getElem?_cons_succ] at g0
          have hcap := (Kd.R_reads' M.out.open_).2.1
          rw [HLEN1.out] at hcap
          have hmx : m + 1 ≤ 9223372036854775807 := by have := HFT.out.2; omega
          by_cases cn : o.1 < 0
          · have d1 : decide (o.1 < 0) = true := decide_eq_true cn
            have hgo := HGO.out
            rw [if_pos cn] at hgo
            have HG2 := Aside0.mk hgo
            clear cn hgo HGO
            go_wp2_with (first | ((with_reducible refine gate_store (t := 37) (p := 7) rfl ?_); refine mk_put rfl rfl (v := .slice (some ⟨g7, 0, none⟩) m c7) (M.out.pop HM.out) rfl rfl ?_; intro w6 ho hkt; clear hkt; replace HH := Aside0.mk (HHW.out.step ho.below); replace M := Aside0.mk ho; clear ho k7 k6 k2 g0; have g0 := blk_cell (HH.out.obj x o HSO.out).1 0; simp only [List.getElem?_toArray, List.getElem?_cons_zero, List.getElem?_cons_succ] at g0))
            go_roundg gk
            case measure => omega
            case rel => exact ⟨met, q, _, M, HG2⟩
          · have d1 : decide (o.1 < 0) = false := decide_eq_false cn
            have hgo := HGO.out
            rw [if_neg cn] at hgo
            have HG2 := Aside0.mk hgo
            have HCN := Aside0.mk cn
            clear cn hgo HGO
            go_wp2_with (first | ((with_reducible refine gate_store (t := 37) (p := 7) rfl ?_); refine mk_put rfl rfl (v := .slice (some ⟨g7, 0, none⟩) m c7) (M.out.pop HM.out) rfl rfl ?_; intro w6 ho hkt; clear hkt; replace HH := Aside0.mk (HHW.out.step ho.below); replace M := Aside0.mk ho; clear ho k7 k6 k2 g0; have g0 := blk_cell (HH.out.obj x o HSO.out).1 0; simp only [List.getElem?_toArray, List.getElem?_cons_zero, List.getElem?_cons_succ] at g0))
            obtain ⟨Ac, cc, hvc⟩ := Kd.R_slice HH.out.cls
            have HVC := Aside0.mk hvc
            have HREC := Aside0.mk ((HH.out.dom x o HSO.out).2.2.2.1 (by have := HCN.out; omega))
            have HNUMS := Aside0.mk ((HH.out.dom x o HSO.out).2.2.2.2)
            obtain ⟨fl, hfl⟩ : ∃ fl, fl = fieldsL s.l o.1 := ⟨_, rfl⟩
            have HFL := Aside0.mk (show types_Fields.f s.l o.1 = some fl by rw [hfl]; exact HFO.out o.1 (by have := HCN.out; omega) HREC.out.1)
            rw [← hfl] at HG2 HREC
            clear hvc d1 hfl g0
            (try simp only [Act.put, List.setIfInBounds_toArray, List.set_cons_zero, List.set_cons_succ])
            refine wp_region_held_drew (S := fun w' => MarkIn w0 W s b2 b6 b7 B met q (.slice (some ⟨g7, 0, none⟩) m c7) w' ∧ HeapIn w0 s ob rb w') (by kernel_rfl) ?_ (fun hHeld => ?_)
            · exact ⟨M.out.step (pw_below_drewN (Below.refl _ _) 1), HH.out.step (pw_below_drewN (Below.refl _ _) 1)⟩
            clear M HH
            refine take_dst (i := 0) (v := ?_) 61 rfl rfl (by kernel_rfl) (by kernel_rfl) (by kernel_rfl) (fun _ _ _ h => h) (Or.inl ⟨by rfl, ?_⟩) (by assumption) ?_
            rotate_left
            · intro w hSw
              obtain ⟨k7, k6, k2⟩ := hSw.1.cells
              have f0 := blk_cell hSw.2.hd 0
              have g0 := blk_cell (hSw.2.obj x o HSO.out).1 0
              simp only [HS.cell, List.getElem?_toArray, List.getElem?_cons_zero, List.getElem?_cons_succ, HVC.out] at f0 g0
              go_simp
              try with_reducible rfl
            (try simp only [Act.put, List.setIfInBounds_toArray, List.set_cons_zero, List.set_cons_succ])
            refine take_dst (i := 1) (v := ?_) 62 rfl rfl (by kernel_rfl) (by kernel_rfl) (by kernel_rfl) (fun _ _ _ h => h) (Or.inl ⟨by rfl, ?_⟩) (by assumption) ?_
            rotate_left
            · intro w hSw
              obtain ⟨k7, k6, k2⟩ := hSw.1.cells
              have f0 := blk_cell hSw.2.hd 0
              have g0 := blk_cell (hSw.2.obj x o HSO.out).1 0
              simp only [HS.cell, List.getElem?_toArray, List.getElem?_cons_zero, List.getElem?_cons_succ, HVC.out] at f0 g0
              go_simp
              try with_reducible rfl
            (try simp only [Act.put, List.setIfInBounds_toArray, List.set_cons_zero, List.set_cons_succ])
            refine take_dst (i := 2) (v := ?_) 63 rfl rfl (by kernel_rfl) (by kernel_rfl) (by kernel_rfl) (fun _ _ _ h => h) (Or.inl ⟨by rfl, ?_⟩) (by assumption) ?_
            rotate_left
            · intro w hSw
              obtain ⟨k7, k6, k2⟩ := hSw.1.cells
              have f0 := blk_cell hSw.2.hd 0
              have g0 := blk_cell (hSw.2.obj x o HSO.out).1 0
              simp only [HS.cell, List.getElem?_toArray, List.getElem?_cons_zero, List.getElem?_cons_succ, HVC.out] at f0 g0
              go_simp
              try with_reducible rfl
            (try simp only [Act.put, List.setIfInBounds_toArray, List.set_cons_zero, List.set_cons_succ])
            refine take_dst (i := 3) (v := ?_) 64 rfl rfl (by kernel_rfl) (by kernel_rfl) (by kernel_rfl) (fun _ _ _ h => h) (Or.inl ⟨by rfl, ?_⟩) (by assumption) ?_
            rotate_left
            · intro w hSw
              obtain ⟨k7, k6, k2⟩ := hSw.1.cells
              have f0 := blk_cell hSw.2.hd 0
              have g0 := blk_cell (hSw.2.obj x o HSO.out).1 0
              simp only [HS.cell, List.getElem?_toArray, List.getElem?_cons_zero, List.getElem?_cons_succ, HVC.out] at f0 g0
              go_simp
              try with_reducible rfl
            (try simp only [Act.put, List.setIfInBounds_toArray, List.set_cons_zero, List.set_cons_succ])
            refine take_dst (i := 4) (v := ?_) 65 rfl rfl (by kernel_rfl) (by kernel_rfl) (by kernel_rfl) (fun _ _ _ h => h) (Or.inl ⟨by rfl, ?_⟩) (by assumption) ?_
            rotate_left
            · intro w hSw
              obtain ⟨k7, k6, k2⟩ := hSw.1.cells
              have f0 := blk_cell hSw.2.hd 0
              have g0 := blk_cell (hSw.2.obj x o HSO.out).1 0
              simp only [HS.cell, List.getElem?_toArray, List.getElem?_cons_zero, List.getElem?_cons_succ, HVC.out] at f0 g0
              go_simp
              try with_reducible rfl
            (try simp only [Act.put, List.setIfInBounds_toArray, List.set_cons_zero, List.set_cons_succ])
            refine take_dst (i := 5) (v := ?_) 66 rfl rfl (by kernel_rfl) (by kernel_rfl) (by kernel_rfl) (fun _ _ _ h => h) (Or.inl ⟨by rfl, ?_⟩) (by assumption) ?_
            rotate_left
            · intro w hSw
              obtain ⟨k7, k6, k2⟩ := hSw.1.cells
              have f0 := blk_cell hSw.2.hd 0
              have g0 := blk_cell (hSw.2.obj x o HSO.out).1 0
              simp only [HS.cell, List.getElem?_toArray, List.getElem?_cons_zero, List.getElem?_cons_succ, HVC.out] at f0 g0
              go_simp
              try with_reducible rfl
            (try simp only [Act.put, List.setIfInBounds_toArray, List.set_cons_zero, List.set_cons_succ])
            refine take_dst (i := 6) (v := ?_) 67 rfl rfl (by kernel_rfl) (by kernel_rfl) (by kernel_rfl) (fun _ _ _ h => h) (Or.inl ⟨by rfl, ?_⟩) (by assumption) ?_
            rotate_left
            · intro w hSw
              obtain ⟨k7, k6, k2⟩ := hSw.1.cells
              have f0 := blk_cell hSw.2.hd 0
              have g0 := blk_cell (hSw.2.obj x o HSO.out).1 0
              simp only [HS.cell, List.getElem?_toArray, List.getElem?_cons_zero, List.getElem?_cons_succ, HVC.out] at f0 g0
              go_simp
              try with_reducible rfl
            (try simp only [Act.put, List.setIfInBounds_toArray, List.set_cons_zero, List.set_cons_succ])
            refine take_dst (i := 7) (v := ?_) 68 rfl rfl (by kernel_rfl) (by kernel_rfl) (by kernel_rfl) (fun _ _ _ h => h) (Or.inl ⟨by rfl, ?_⟩) (by assumption) ?_
            rotate_left
            · intro w hSw
              obtain ⟨k7, k6, k2⟩ := hSw.1.cells
              have f0 := blk_cell hSw.2.hd 0
              have g0 := blk_cell (hSw.2.obj x o HSO.out).1 0
              simp only [HS.cell, List.getElem?_toArray, List.getElem?_cons_zero, List.getElem?_cons_succ, HVC.out] at f0 g0
              go_simp
              try with_reducible rfl
            (try simp only [Act.put, List.setIfInBounds_toArray, List.set_cons_zero, List.set_cons_succ])
            refine take_dst (i := 10) (v := ?_) 71 rfl rfl (by kernel_rfl) (by kernel_rfl) (by kernel_rfl) (fun _ _ _ h => h) (Or.inl ⟨by rfl, ?_⟩) (by assumption) ?_
            rotate_left
            · intro w hSw
              obtain ⟨k7, k6, k2⟩ := hSw.1.cells
              have f0 := blk_cell hSw.2.hd 0
              have g0 := blk_cell (hSw.2.obj x o HSO.out).1 0
              simp only [HS.cell, List.getElem?_toArray, List.getElem?_cons_zero, List.getElem?_cons_succ, HVC.out] at f0 g0
              go_simp
              try with_reducible rfl
            (try simp only [Act.put, List.setIfInBounds_toArray, List.set_cons_zero, List.set_cons_succ])
            generalize w6.drew = w6d at hHeld ⊢
            have HCC := Aside0.mk (show s.l.length ≤ cc ∧ Kd.C k32 w6d Ac s.l.length s.l by
              have := hHeld.2.cls
              rw [HVC.out] at this
              exact (Kd.R_reads' this).2)
            refine wpAnyH_ready (rs := [8]) (by kernel_rfl) (by simp) ?_
            refine AllReadyH.cons rfl (fun K hK => ?_) AllReadyH.nil
            go_simp
            refine (types_Fields.calls Ac cc s.l o.1 fl _ HCC.out.2 HCC.out.1 HFL.out).mono ?_
            rintro e w9 ⟨v9, rfl, hf9, hb9⟩
            obtain ⟨A9, c9, e9⟩ := Kd.R_slice hf9
            subst e9
            have h9 := And.intro (hHeld.1.step hb9) (hHeld.2.step hb9)
            have HF := Aside0.mk (Kd.R_lower hf9 hHeld.1.below.size)
            go_simp
            refine hK.out _ _ h9 (fun hHeld => ?_)
            (try simp only [Act.put, List.setIfInBounds_toArray, List.set_cons_zero, List.set_cons_succ])
            clear hK K h9 hf9 hb9 HCC
            refine take_dst (i := 9) (v := ?_) 70 rfl rfl (by kernel_rfl) (by kernel_rfl) (by kernel_rfl) (fun _ _ _ h => h) (Or.inl ⟨by rfl, ?_⟩) (by assumption) ?_
            rotate_left
            · intro w hSw
              obtain ⟨k7, k6, k2⟩ := hSw.1.cells
              have f0 := blk_cell hSw.2.hd 0
              have g0 := blk_cell (hSw.2.obj x o HSO.out).1 0
              simp only [HS.cell, List.getElem?_toArray, List.getElem?_cons_zero, List.getElem?_cons_succ, HVC.out] at f0 g0
              go_simp
              try with_reducible rfl
            (try simp only [Act.put, List.setIfInBounds_toArray, List.set_cons_zero, List.set_cons_succ])
            have M := Aside0.mk hHeld.1
            refine wpAnyH_done (by kernel_rfl) ?_ _
            clear hHeld
            have HRLEN := Aside0.mk (show fl.length < 8796093022208 by have := HREC.out.2; have h4 := (show o.2.length ≤ 4096 from (HHW.out.dom x o HSO.out).2.2.1); omega)
            go_wp2_with fail
            go_loopw [71] (fun v71 wr => ∃ (i : Nat) (met2 op2 : List Int) (v : Value), v71 = .int .i64 (i : Int) ∧ i ≤ fl.length ∧ Aside0 (MarkIn w0 W s b2 b6 b7 B met2 op2 v wr) ∧ Aside0 ((met2, op2) = meetAll s fl o.2 i (met, q)) ∧ Aside0 (Kd.R k29 29 wr W.heap.size (fun _ => True) (.slice A9 fl.length c9) fl)) (fun v71 _ => ((fl.length : Int) - intOf v71).toNat)
            case atStart => exact ⟨0, met, q, _, rfl, Nat.zero_le _, M, ⟨rfl⟩, HF⟩
            case round =>
              clear M HF
              obtain ⟨i, met2, op2, v, rfl, hi, M, HST, HF⟩ := hrel
              by_cases c1 : i < fl.length
              · obtain ⟨y, hy⟩ : ∃ y, y = rd_T29 fl (i : Int) := ⟨_, rfl⟩
                obtain ⟨ad9, e1, h0, h1⟩ := at_T29 (Kd.R_reads' HF.out).2.2 (i : Int) (by omega) (by omega)
                cases e1
                rw [← hy, Int.toNat_natCast] at h0 h1
                have HI := Aside0.mk c1
                have HW := Aside0.mk (wrap_h c1 (by have := HRLEN.out; omega))
                have c1b : decide ((i : Int) < (fl.length : Int)) = true := decide_eq_true (by omega)
                have c1c : decide (i < fl.length) = true := decide_eq_true c1
                have p5 : (0 ≤ (i : Int)) = True := eq_true (by omega)
                have p6 : ((i : Int) < (fl.length : Int)) = True := eq_true (by omega)
                have p8 : ((i : Int) < (o.2.length : Int)) = True := eq_true (by have := HREC.out.2; omega)
                have hml := meetAll_len s fl o.2 i (met, q)
                rw [← HST.out] at hml
                have HLA : Aside0 (op2.length < 17592186044416 ∧ met2.length < 17592186044416) := ⟨by have h1 := hml.1; have h2 := hml.2; have h3 := HFT.out.1; have h4 := HFT.out.2; have h5 := HRLEN.out; have h6 := HM.out; simp only at h1 h2; constructor <;> omega⟩
                have hstep : meetAll s fl o.2 (i + 1) (met, q) = if isRefH y.f1 = true then meetM s (met2, op2) (o.2.getD i 0) else (met2, op2) := by rw [meetAll, ← HST.out, ← hy]
                have HSTEP := Aside0.mk hstep
                have HY := Aside0.mk (show I64 (o.2.getD i 0) by
                  have hlt : i < o.2.length := by have := HREC.out.2; omega
                  have hmem : o.2.getD i 0 ∈ o.2 := by rw [List.getD_eq_getElem?_getD, List.getElem?_eq_getElem hlt]; exact List.getElem_mem hlt
                  have := HNUMS.out _ hmem
                  constructor <;> omega)
                clear hy hml hstep c1
                go_wp2_with fail
                have hb9 := below_alloc (Below.refl wr.heap.size wr) (.cells #[.string y.f0, .int .u8 y.f1] 29)
                replace M := Aside0.mk (M.out.step hb9)
                replace HF := Aside0.mk (Kd.R_below HF.out hb9)
                clear hb9 h0 h1
                refine (types_IsRef.calls y.f1 (isRefH y.f1) _ (isRefH_is _)).mono ?_
                rintro e w12 ⟨rfl, hd12⟩
                replace M := Aside0.mk (M.out.step hd12.below)
                replace HF := Aside0.mk (Kd.R_below HF.out hd12.below)
                have HH := Aside0.mk (HHW.out.step M.out.below)
                have g1 := blk_cell (HH.out.obj x o HSO.out).1 1
                have gn := num_cell (HH.out.obj x o HSO.out).2 (i := i) (by have := HREC.out.2; have := HI.out; omega)
                simp only [List.getElem?_toArray, List.getElem?_cons_zero, List.getElem?_cons_succ] at g1
                clear hd12
                cases hb : isRefH y.f1 with
                | true =>
                  have HS2 := Aside0.mk (show meetAll s fl o.2 (i + 1) (met, q) = meetM s (met2, op2) (o.2.getD i 0) by rw [HSTEP.out, hb, if_pos rfl])
                  clear hb
                  obtain ⟨z, hz⟩ : ∃ z, z = o.2.getD i 0 := ⟨_, rfl⟩
                  rw [← hz] at HS2 HY gn
                  clear hz
                  go_wp2_with fail
                  refine (hp_meet w0 W s b2 b6 b7 B met2 op2 v z HY.out HLA.out.1 HLA.out.2 H.out w12 M.out).mono ?_
                  rintro e w13 ⟨rfl, hkt, v13, hm13⟩
                  have M13 := Aside0.mk hm13
                  have HF13 := Aside0.mk (R_keptT HF.out hkt)
                  clear hm13 hkt M HF HH g1 gn
                  go_wp2
                  go_roundw
                  case rel => exact ⟨i + 1, _, _, v13, by have e9 := HW.out; first | (rw [e9]; done) | (simp; done), HI.out, M13, ⟨HS2.out.symm⟩, HF13⟩
                  case measure => exact meas_h HI.out HW.out
                | false =>
                  have HS2 := Aside0.mk (show meetAll s fl o.2 (i + 1) (met, q) = (met2, op2) by rw [HSTEP.out, hb, if_neg (by decide)])
                  clear hb g1 gn
                  go_wp2_with fail
                  go_roundw
                  case rel => exact ⟨i + 1, met2, op2, v, by have e9 := HW.out; first | (rw [e9]; done) | (simp; done), HI.out, M, ⟨HS2.out.symm⟩, HF⟩
                  case measure => exact meas_h HI.out HW.out
              · have c1b : decide ((i : Int) < (fl.length : Int)) = false := decide_eq_false (by omega)
                have c1c : decide (i < fl.length) = false := decide_eq_false c1
                have HS2 := Aside0.mk (show meetAll s fl o.2 fl.length (met, q) = (met2, op2) by rw [HST.out, show i = fl.length by omega])
                clear c1 hi
                go_wp2_with fail
                go_roundg gk
                case measure => omega
                case rel => exact ⟨met2, op2, v, M, ⟨by have := HG2.out; rw [HS2.out] at this; exact this⟩⟩
section
open Go.Shelf Go.Proofs
def Try.keysA_ren : Go.Shelf.Ren := ⟨fun | 7 => 40 | 10 => 60 | n => n, fun | 23 => 48 | 26 => 3 | 3 => 83 | 28 => 86 | 0 => 0 | 27 => 85 | 33 => 108 | 4 => 4 | n => n, fun | n => n⟩
theorem Try.keysA : Go.Proofs.SlLaysZI.n7 Try.prog Try.keysA_ren := {
  mixed := by kernel_rfl
  f7 := ⟨Try.f40.name, by decide, Try.func40.trans (congrArg some (by kernel_rfl))⟩
  f10 := ⟨Try.f60.name, by decide, Try.func60.trans (congrArg some (by kernel_rfl))⟩
  t0 := Try.underlying0
  a0 := Try.isAgg0
  z0 := Try.sizeOf0
  v0 := Try.zeroValue0
  t4 := Try.underlying4
  a4 := Try.isAgg4
  z4 := Try.sizeOf4
  v4 := Try.zeroValue4
  t23 := Try.underlying48
  a23 := Try.isAgg48
  z23 := Try.sizeOf48
  v23 := Try.zeroValue48
  t26 := Try.underlying3
  a26 := Try.isAgg3
  z26 := Try.sizeOf3
  v26 := Try.zeroValue3
  t27 := Try.underlying85
  a27 := Try.isAgg85
  z27 := Try.sizeOf85
  v27 := Try.zeroValue85
  t28 := Try.underlying86
  a28 := Try.isAgg86
  z28 := Try.sizeOf86
  v28 := Try.zeroValue86
  t33 := Try.underlying108
  a33 := Try.isAgg108
  z33 := Try.sizeOf108
  v33 := Try.zeroValue108 }
def Try.sortedA_ren : Go.Shelf.Ren := ⟨fun | 6 => 39 | 8 => 59 | 9 => 29 | 11 => 78 | 13 => 48 | 12 => 47 | 23 => 72 | 24 => 73 | 14 => 64 | 15 => 65 | 16 => 66 | 17 => 67 | 18 => 68 | 19 => 69 | 20 => 46 | 21 => 70 | 22 => 71 | 25 => 81 | 26 => 82 | 27 => 83 | 28 => 84 | 29 => 85 | 30 => 63 | 31 => 87 | n => n, fun | 26 => 3 | 28 => 86 | 24 => 37 | 0 => 0 | 3 => 3 | 37 => 22 | 48 => 119 | 50 => 121 | 4 => 4 | 40 => 113 | 39 => 112 | 45 => 56 | 5 => 5 | 9 => 9 | 51 => 130 | 55 => 73 | 57 => 147 | 58 => 148 | 33 => 108 | n => n, fun | n => n⟩
theorem Try.sortedA : Go.Proofs.SlLaysZI.n6 Try.prog Try.sortedA_ren := {
  mixed := by kernel_rfl
  f6 := ⟨Try.f39.name, by decide, Try.func39.trans (congrArg some (by kernel_rfl))⟩
  f8 := ⟨Try.f59.name, by decide, Try.func59.trans (congrArg some (by kernel_rfl))⟩
  f11 := ⟨Try.f78.name, by decide, Try.func78.trans (congrArg some (by kernel_rfl))⟩
  t0 := Try.underlying0
  a0 := Try.isAgg0
  z0 := Try.sizeOf0
  v0 := Try.zeroValue0
  t24 := Try.underlying37
  a24 := Try.isAgg37
  z24 := Try.sizeOf37
  v24 := Try.zeroValue37
  t26 := Try.underlying3
  a26 := Try.isAgg3
  z26 := Try.sizeOf3
  v26 := Try.zeroValue3
  t28 := Try.underlying86
  a28 := Try.isAgg86
  z28 := Try.sizeOf86
  v28 := Try.zeroValue86
  i26 := by kernel_rfl }
def Try.sortA_ren : Go.Shelf.Ren := ⟨fun | 5 => 29 | 8 => 48 | 7 => 47 | 19 => 72 | 20 => 73 | 10 => 64 | 11 => 65 | 12 => 66 | 13 => 67 | 14 => 68 | 15 => 69 | 16 => 46 | 17 => 70 | 18 => 71 | 30 => 81 | 31 => 82 | 32 => 83 | 33 => 84 | 34 => 85 | 35 => 63 | 40 => 87 | n => n, fun | 23 => 37 | 25 => 3 | 3 => 3 | 32 => 22 | 22 => 37 | 0 => 0 | 44 => 119 | 46 => 121 | 4 => 4 | 36 => 113 | 35 => 112 | 41 => 56 | 5 => 5 | 9 => 9 | 53 => 130 | 57 => 73 | 63 => 147 | 64 => 148 | n => n, fun | n => n⟩
theorem Try.sortA : Go.Proofs.SlLaysM.n5 Try.prog Try.sortA_ren := {
  mixed := by kernel_rfl
  f5 := ⟨Try.f29.name, by decide, Try.func29.trans (congrArg some (by kernel_rfl))⟩
  f7 := ⟨Try.f47.name, by decide, Try.func47.trans (congrArg some (by kernel_rfl))⟩
  f8 := Try.func48.trans (congrArg some (by kernel_rfl))
  f10 := ⟨Try.f64.name, by decide, Try.func64.trans (congrArg some (by kernel_rfl))⟩
  f11 := ⟨Try.f65.name, by decide, Try.func65.trans (congrArg some (by kernel_rfl))⟩
  f12 := ⟨Try.f66.name, by decide, Try.func66.trans (congrArg some (by kernel_rfl))⟩
  f13 := ⟨Try.f67.name, by decide, Try.func67.trans (congrArg some (by kernel_rfl))⟩
  f14 := ⟨Try.f68.name, by decide, Try.func68.trans (congrArg some (by kernel_rfl))⟩
  f15 := ⟨Try.f69.name, by decide, Try.func69.trans (congrArg some (by kernel_rfl))⟩
  f16 := ⟨Try.f46.name, by decide, Try.func46.trans (congrArg some (by kernel_rfl))⟩
  f17 := ⟨Try.f70.name, by decide, Try.func70.trans (congrArg some (by kernel_rfl))⟩
  f18 := ⟨Try.f71.name, by decide, Try.func71.trans (congrArg some (by kernel_rfl))⟩
  f19 := Try.func72.trans (congrArg some (by kernel_rfl))
  f20 := Try.func73.trans (congrArg some (by kernel_rfl))
  f30 := ⟨Try.f81.name, by decide, Try.func81.trans (congrArg some (by kernel_rfl))⟩
  f31 := Try.func82.trans (congrArg some (by kernel_rfl))
  f32 := Try.func83.trans (congrArg some (by kernel_rfl))
  f33 := ⟨Try.f84.name, by decide, Try.func84.trans (congrArg some (by kernel_rfl))⟩
  f34 := ⟨Try.f85.name, by decide, Try.func85.trans (congrArg some (by kernel_rfl))⟩
  f35 := ⟨Try.f63.name, by decide, Try.func63.trans (congrArg some (by kernel_rfl))⟩
  f40 := ⟨Try.f87.name, by decide, Try.func87.trans (congrArg some (by kernel_rfl))⟩
  t0 := Try.underlying0
  a0 := Try.isAgg0
  z0 := Try.sizeOf0
  v0 := Try.zeroValue0
  t3 := Try.underlying3
  a3 := Try.isAgg3
  z3 := Try.sizeOf3
  v3 := Try.zeroValue3
  t4 := Try.underlying4
  a4 := Try.isAgg4
  z4 := Try.sizeOf4
  v4 := Try.zeroValue4
  t5 := Try.underlying5
  a5 := Try.isAgg5
  z5 := Try.sizeOf5
  v5 := Try.zeroValue5
  t9 := Try.underlying9
  a9 := Try.isAgg9
  z9 := Try.sizeOf9
  v9 := Try.zeroValue9
  t22 := Try.underlying37
  a22 := Try.isAgg37
  z22 := Try.sizeOf37
  v22 := Try.zeroValue37
  t23 := Try.underlying37
  a23 := Try.isAgg37
  z23 := Try.sizeOf37
  v23 := Try.zeroValue37
  t25 := Try.underlying3
  a25 := Try.isAgg3
  z25 := Try.sizeOf3
  v25 := Try.zeroValue3
  t32 := Try.underlying22
  a32 := Try.isAgg22
  z32 := Try.sizeOf22
  v32 := Try.zeroValue22
  t35 := Try.underlying112
  a35 := Try.isAgg112
  z35 := Try.sizeOf112
  v35 := Try.zeroValue112
  t36 := Try.underlying113
  a36 := Try.isAgg113
  z36 := Try.sizeOf113
  v36 := Try.zeroValue113
  t41 := Try.underlying56
  a41 := Try.isAgg56
  z41 := Try.sizeOf56
  v41 := Try.zeroValue56
  t44 := Try.underlying119
  a44 := Try.isAgg119
  z44 := Try.sizeOf119
  v44 := Try.zeroValue119
  t46 := Try.underlying121
  a46 := Try.isAgg121
  z46 := Try.sizeOf121
  v46 := Try.zeroValue121
  t53 := Try.underlying130
  a53 := Try.isAgg130
  z53 := Try.sizeOf130
  v53 := Try.zeroValue130
  t57 := Try.underlying73
  a57 := Try.isAgg73
  z57 := Try.sizeOf73
  v57 := Try.zeroValue73
  t63 := Try.underlying147
  a63 := Try.isAgg147
  z63 := Try.sizeOf147
  v63 := Try.zeroValue147
  t64 := Try.underlying148
  a64 := Try.isAgg148
  z64 := Try.sizeOf148
  v64 := Try.zeroValue148 }
def Try.keysB_ren : Go.Shelf.Ren := ⟨fun | 7 => 43 | 10 => 62 | n => n, fun | 23 => 76 | 26 => 3 | 3 => 79 | 28 => 86 | 0 => 0 | 27 => 85 | 33 => 108 | 4 => 4 | n => n, fun | n => n⟩
theorem Try.keysB : Go.Proofs.SlLaysZI.n7 Try.prog Try.keysB_ren := {
  mixed := by kernel_rfl
  f7 := ⟨Try.f43.name, by decide, Try.func43.trans (congrArg some (by kernel_rfl))⟩
  f10 := ⟨Try.f62.name, by decide, Try.func62.trans (congrArg some (by kernel_rfl))⟩
  t0 := Try.underlying0
  a0 := Try.isAgg0
  z0 := Try.sizeOf0
  v0 := Try.zeroValue0
  t4 := Try.underlying4
  a4 := Try.isAgg4
  z4 := Try.sizeOf4
  v4 := Try.zeroValue4
  t23 := Try.underlying76
  a23 := Try.isAgg76
  z23 := Try.sizeOf76
  v23 := Try.zeroValue76
  t26 := Try.underlying3
  a26 := Try.isAgg3
  z26 := Try.sizeOf3
  v26 := Try.zeroValue3
  t27 := Try.underlying85
  a27 := Try.isAgg85
  z27 := Try.sizeOf85
  v27 := Try.zeroValue85
  t28 := Try.underlying86
  a28 := Try.isAgg86
  z28 := Try.sizeOf86
  v28 := Try.zeroValue86
  t33 := Try.underlying108
  a33 := Try.isAgg108
  z33 := Try.sizeOf108
  v33 := Try.zeroValue108 }
end
section
open Go.Maps Go.Sort Go.Shelf Go.Proofs
theorem keys_facts {R : Value → Option (DataW Unit × List MemPlace)} {W : World} {B n : Nat} {D : DataW Unit} (hown : W.ownsMap Try.prog 3 R B n D) : (intKeys D).Nodup ∧ (∀ x, x ∈ intKeys D ↔ Maps.has D (.int .i64 x) = true) ∧ (intKeys D).length = Maps.size D := by
  obtain ⟨es, hD, hpw, _⟩ := hown.entries mkeyed
  obtain ⟨es', hD', hko⟩ := hown.keysOf
  obtain rfl : es = es' := by rw [hD] at hD'; simpa using hD'
  subst hD
  have hk : ∀ p ∈ es, ∃ x, p.1 = .int .i64 x := fun p hp => by obtain ⟨v, hv⟩ := hko p hp; obtain ⟨x, _, hx, _⟩ := Maps.keyOf_i64 Try.underlying3 hv; exact ⟨x, hx⟩
  refine ⟨?_, fun x => ?_, by simp [intKeys, Maps.size]⟩
  · show (es.map fun p => _root_.Go.intOf p.1).Nodup
    refine List.pairwise_map.2 (hpw.imp_of_mem fun {p q} hp' hq' hne e => hne ?_)
    obtain ⟨a, ha⟩ := hk p hp'
    obtain ⟨b, hb⟩ := hk q hq'
    rw [ha, hb] at e ⊢
    exact congrArg _ e
  · rw [has_eq, List.any_eq_true]
    show x ∈ es.map (fun p => _root_.Go.intOf p.1) ↔ _
    rw [List.mem_map]
    constructor
    · rintro ⟨p, hp', rfl⟩
      obtain ⟨a, ha⟩ := hk p hp'
      exact ⟨p, hp', by rw [ha]; simp [Lit.sameKey, _root_.Go.intOf]⟩
    · rintro ⟨p, hp', hs⟩
      obtain ⟨a, ha⟩ := hk p hp'
      rw [ha] at hs
      exact ⟨p, hp', by rw [ha]; simpa [Lit.sameKey, _root_.Go.intOf] using hs⟩
theorem sorts_h (m : Nat) : AnyZI.SortsIn Try.prog Try.sortedA_ren Fence.wide m :=
  ⟨fun blk off cap ss W hH hblk hsz => callsIn_wide.2 (AnyM.slices_Sort_int Try.sortA blk off cap ss W hH hblk hsz),
   fun p cap W => callsIn_wide.2 (AnyM.slices_Sort_int_none Try.sortA p cap W)⟩
theorem keysA_calls (B : Nat) (W : World) : Calls Try.prog 40 #[.map (some B)] W fun e w' => e = .returned (.func (.func 60) #[] #[.pointer (some ⟨W.heap.size, 0, none⟩)]) ∧ w' = W.alloc (.cells #[.map (some B)] 48) :=
  (callsIn_wide (n := 5)).1 (AnyZI.keys_in Try.keysA Fence.wide 5 trivial rfl (some B) W)
theorem sortedA_calls {R : Value → Option (DataW Unit × List MemPlace)} {W : World} {B n : Nat} {D : DataW Unit} (hown : W.ownsMap Try.prog 3 R B n D) (hmax : Maps.size D ≤ 17592186044416) : Calls Try.prog 39 #[.func (.func 60) #[] #[.pointer (some ⟨W.heap.size, 0, none⟩)]] (W.alloc (.cells #[.map (some B)] 48)) fun e w' => ∃ (v : Value) (ss : List Int), e = .returned v ∧ ss.Perm (intKeys D) ∧ w'.ownsRow W.heap.size 3 1 v ss.length ((ss.mergeSort (fun x y => decide (x ≤ y))).map (Value.int .i64)) ∧ Below W.heap.size W w' := by
  have hbl := hown.lt
  have hseq : SeqGives Fence.wide 2 Try.prog 60 #[.pointer (some ⟨W.heap.size, 0, none⟩)] encZ (fun ss => ss.Perm (intKeys D)) (Maps.size D) (W.alloc (.cells #[.map (some B)] 48)) :=
    AnyZI.keys_gives (ρ := Try.keysA_ren) { Try.keysA with } Fence.wide _ trivial rfl (by omega) W.heap.size B n D _ (by simp) (by simp) (by
      obtain ⟨es, clock, hb, Ft, hs, hD⟩ := hown
      exact ⟨es, clock, (Below.heap_alloc _ _ B hbl).trans hb, Ft, hs, hD⟩)
  have cS := AnyZI.sorted_in Try.sortedA Fence.wide 5 trivial trivial trivial trivial rfl (by omega) (sorts_h _) (enters_of Try.func29 (by kernel_rfl) rfl) 60 #[.pointer (some ⟨W.heap.size, 0, none⟩)] trivial (enters_of Try.func60 (by kernel_rfl) rfl) _ _ (by unfold maxLen; omega) (by omega) _ hseq
  refine ((callsIn_wide (n := 5)).1 cS).mono ?_
  rintro e w' ⟨v, ss, rfl, hS, hrow, _, hb⟩
  exact ⟨v, ss, rfl, hS, ownsRow_base_a hrow (by simp), ((Below.refl _ W).alloc (Nat.le_refl _) _).trans (hb.mono (by simp))⟩
theorem keysB_calls (B : Nat) (W : World) : Calls Try.prog 43 #[.map (some B)] W fun e w' => e = .returned (.func (.func 62) #[] #[.pointer (some ⟨W.heap.size, 0, none⟩)]) ∧ w' = W.alloc (.cells #[.map (some B)] 76) :=
  (callsIn_wide (n := 5)).1 (AnyZI.keys_in Try.keysB Fence.wide 5 trivial rfl (some B) W)
theorem sortedB_calls {R : Value → Option (DataW Unit × List MemPlace)} {W : World} {B n : Nat} {D : DataW Unit} (hown : W.ownsMap Try.prog 3 R B n D) (hmax : Maps.size D ≤ 17592186044416) : Calls Try.prog 39 #[.func (.func 62) #[] #[.pointer (some ⟨W.heap.size, 0, none⟩)]] (W.alloc (.cells #[.map (some B)] 76)) fun e w' => ∃ (v : Value) (ss : List Int), e = .returned v ∧ ss.Perm (intKeys D) ∧ w'.ownsRow W.heap.size 3 1 v ss.length ((ss.mergeSort (fun x y => decide (x ≤ y))).map (Value.int .i64)) ∧ Below W.heap.size W w' := by
  have hbl := hown.lt
  have hseq : SeqGives Fence.wide 2 Try.prog 62 #[.pointer (some ⟨W.heap.size, 0, none⟩)] encZ (fun ss => ss.Perm (intKeys D)) (Maps.size D) (W.alloc (.cells #[.map (some B)] 76)) :=
    AnyZI.keys_gives (ρ := Try.keysB_ren) { Try.keysB with } Fence.wide _ trivial rfl (by omega) W.heap.size B n D _ (by simp) (by simp) (by
      obtain ⟨es, clock, hb, Ft, hs, hD⟩ := hown
      exact ⟨es, clock, (Below.heap_alloc _ _ B hbl).trans hb, Ft, hs, hD⟩)
  have cS := AnyZI.sorted_in Try.sortedA Fence.wide 5 trivial trivial trivial trivial rfl (by omega) (sorts_h _) (enters_of Try.func29 (by kernel_rfl) rfl) 62 #[.pointer (some ⟨W.heap.size, 0, none⟩)] trivial (enters_of Try.func62 (by kernel_rfl) rfl) _ _ (by unfold maxLen; omega) (by omega) _ hseq
  refine ((callsIn_wide (n := 5)).1 cS).mono ?_
  rintro e w' ⟨v, ss, rfl, hS, hrow, _, hb⟩
  exact ⟨v, ss, rfl, hS, ownsRow_base_a hrow (by simp), ((Below.refl _ W).alloc (Nat.le_refl _) _).trans (hb.mono (by simp))⟩
end
theorem strict_h {l : List Int} (h : l.Nodup) : (l.mergeSort fun x y => decide (x ≤ y)).Pairwise (· < ·) := by
  have tr : ∀ a b c : Int, decide (a ≤ b) = true → decide (b ≤ c) = true → decide (a ≤ c) = true := fun a b c h1 h2 => by simp only [decide_eq_true_eq] at *; omega
  have tt9 : ∀ a b : Int, (decide (a ≤ b) || decide (b ≤ a)) = true := fun a b => by simp only [Bool.or_eq_true, decide_eq_true_eq]; omega
  have h1 := List.pairwise_mergeSort tr tt9 l
  have h2 : (l.mergeSort fun x y => decide (x ≤ y)).Nodup := (List.mergeSort_perm l _).nodup_iff.2 h
  exact (h1.and h2).imp fun h => by
    have h3 := h.1
    have h4 := h.2
    simp only [decide_eq_true_eq] at h3
    omega
theorem sorted_keys {R : Value → Option (DataW Unit × List MemPlace)} {W W' : World} {B n base : Nat} {D : DataW Unit} (hown : W.ownsMap Try.prog 3 R B n D) {v : Value} {ss : List Int} (hp : ss.Perm (Go.intKeys D)) (hrow : W'.ownsRow base 3 1 v ss.length ((ss.mergeSort (fun x y => decide (x ≤ y))).map (Value.int .i64))) :
    Kd.R (Kd.int .i64) 3 W' base (fun _ => True) v (ss.mergeSort fun x y => decide (x ≤ y)) ∧ (ss.mergeSort fun x y => decide (x ≤ y)).Pairwise (· < ·) ∧ ∀ x, x ∈ (ss.mergeSort fun x y => decide (x ≤ y)) ↔ Maps.has D (.int .i64 x) = true := by
  obtain ⟨k1, k2, _⟩ := keys_facts hown
  refine ⟨Kd.R_of_own (by rw [List.length_mergeSort]; exact hrow) (fun _ _ => trivial), strict_h (hp.nodup_iff.2 k1), fun x => ?_⟩
  rw [List.mem_mergeSort, hp.mem_iff, k2]
set_option maxHeartbeats 1600000 in
set_option maxRecDepth 100000 in
theorem hp_Live (w0 : World) (s : HS) (hlast : s.last < 17592186044416) (W : World) (h : HeapAt w0 s W) : Calls Try.prog 13 #[.pointer (some ⟨s.hb, 0, none⟩)] W fun e w' => ∃ (v : Value) (ls : List Int), e = .returned v ∧ Kd.R (Kd.int .i64) 3 w' W.heap.size (fun _ => True) v ls ∧ ls.Pairwise (· < ·) ∧ (∀ x, x ∈ ls ↔ (s.m x).isSome = true) ∧ Below W.heap.size W w' := by
  obtain ⟨ob, rb, h⟩ := h
  have H := Aside0.mk h
  have HL := Aside0.mk hlast
  clear h hlast
  go_enter Try.func13, Try.ntmps13
  go_wp2_with fail
  refine (hp_made w0 s _ ⟨ob, rb, H.out⟩).mono ?_
  rintro e w1 ⟨rfl, hb⟩
  have HB := Aside0.mk hb
  replace H := Aside0.mk (H.out.step hb)
  clear hb
  obtain ⟨f0, f1, f2, f3, f4⟩ := (show HeapAt w0 s w1 from ⟨ob, rb, H.out⟩).cells
  go_wp2_with fail
  refine (keysA_calls s.B _).mono ?_
  rintro e w2 ⟨rfl, rfl⟩
  obtain ⟨D, hD, hD2, _⟩ := H.out.mp
  go_wp2_with fail
  refine (sortedA_calls hD (Nat.le_trans hD.size_le (Nat.le_of_lt HL.out))).mono ?_
  rintro e w3 ⟨v, ss, rfl, hp, hrow, hb⟩
  obtain ⟨r1, r2, r3⟩ := sorted_keys hD hp hrow
  have HR := Aside0.mk (Kd.R_lower r1 HB.out.size)
  have HS2 := Aside0.mk r2
  have HS3 := Aside0.mk (show ∀ x, x ∈ (ss.mergeSort fun x y => decide (x ≤ y)) ↔ (s.m x).isSome = true from fun x => by rw [r3, hD2]; simp)
  have HB3 := Aside0.mk (below_then HB.out HB.out.size hb)
  clear r1 r2 r3 hp hrow hb hD hD2
  go_wp2
  go_ret
  exact ⟨v, _, rfl, HR.out, HS2.out, HS3.out, HB3.out⟩
end Go.Proofs.Ytkjagcamikkjkaa.P

end

section
namespace Go.Proofs.Ytkjagcamikkjkaa.P
open Go.RowKit Go.Proofs.YtkjagcamikkjkaaW.PrintWords Go.Proofs.YtkjagcamikkjkaaW.PrintLast Go.Proofs.YtkjagcamikkjkaaW.PrintMore
attribute [local go_sem] max2_int min2_int max_two min_two max_three min_three max_four min_four
set_option linter.unusedVariables false
set_option linter.unusedSimpArgs false
set_option maxHeartbeats 1600000 in
set_option maxRecDepth 100000 in
theorem hp_Reach (w0 : World) (s : HS) (k : Nat) (A : Option Addr) (c : Nat) (roots : List Int) (res : Option (List Int)) (W : World) (h : HeapAt w0 s W) (hfo : FieldsOK s.l) (hnl : s.last < 4611686018427387904) (hC : (Kd.int .i64).C W A roots.length roots) (hrk : ∀ y ∈ roots, I64 y) (hrl : roots.length < 17592186044416) (hm : markM k s roots = some res) (hml : ∀ met, res = some met → met.length < 17592186044416) :
    Calls Try.prog 20 #[.pointer (some ⟨s.hb, 0, none⟩), .slice A roots.length c] W fun e w' => Below W.heap.size W w' ∧ ((res = none ∧ e = .returned (.tuple #[.slice none 0 0, .int .i64 141])) ∨ ∃ (met : List Int) (v : Value) (ls : List Int), res = some met ∧ e = .returned (.tuple #[v, .int .i64 0]) ∧ Kd.R (Kd.int .i64) 3 w' W.heap.size (fun _ => True) v ls ∧ ls.Pairwise (· < ·) ∧ ∀ x, x ∈ ls ↔ x ∈ met) := by
  have hmn := map_some_neq
  have H := Aside0.mk h
  have HFO := Aside0.mk hfo
  have HNL := Aside0.mk hnl
  have HC := Aside0.mk hC
  have HRK := Aside0.mk hrk
  have HRL := Aside0.mk hrl
  have HMK := Aside0.mk hm
  have HML := Aside0.mk hml
  clear h hfo hnl hC hrk hrl hm hml
  go_enter Try.func20, Try.ntmps20
  go_wp2_with fail
  refine (hp_made w0 s _ H.out).mono ?_
  rintro e w1 ⟨rfl, hb⟩
  have HB := Aside0.mk hb
  replace H := Aside0.mk (show HeapAt w0 s w1 from by obtain ⟨ob, rb, h⟩ := H.out; exact ⟨ob, rb, h.step hb⟩)
  replace HC := Aside0.mk (Kd.C_below HC.out hb)
  clear hb
  go_wp2_with fail
  refine (hp_mark w0 s k A c roots res _ H.out HFO.out HNL.out HC.out HRK.out HRL.out HMK.out).mono ?_
  rintro e w2 ⟨hb, hp⟩
  replace HB := Aside0.mk (below_then HB.out HB.out.size hb)
  have HSZ := Aside0.mk hb.size
  clear hb
  rcases hp with ⟨hres, rfl⟩ | ⟨met, B, hres, rfl, hB, hU⟩
  · go_wp2
    go_ret2
    exact ⟨HB.out, Or.inl ⟨hres, rfl⟩⟩
  · go_wp2_with fail
    refine (keysB_calls B _).mono ?_
    rintro e w3 ⟨rfl, rfl⟩
    obtain ⟨D, hD, hD2⟩ := hU
    go_wp2_with fail
    refine (sortedB_calls hD (Nat.le_trans hD.size_le (Nat.le_of_lt (HML.out met hres)))).mono ?_
    rintro e w3 ⟨v, ss, rfl, hp, hrow, hb⟩
    obtain ⟨r1, r2, r3⟩ := sorted_keys hD hp hrow
    have HR := Aside0.mk (Kd.R_lower r1 HB.out.size)
    have HS2 := Aside0.mk r2
    have HS3 := Aside0.mk (show ∀ x, x ∈ (ss.mergeSort fun x y => decide (x ≤ y)) ↔ x ∈ met from fun x => by rw [r3, hD2]; simp [memH])
    have HB3 := Aside0.mk (below_then HB.out HB.out.size hb)
    clear r1 r2 r3 hp hrow hb hD hD2
    go_wp2
    go_ret2
    exact ⟨HB3.out, Or.inr ⟨met, v, _, hres, rfl, HR.out, HS2.out, HS3.out⟩⟩
def delM (m : Int → Option (Int × List Int)) (x : Int) : Int → Option (Int × List Int) := fun y => if y = x then none else m y
def goC (met : List Int) : HS → Int → List Int → Int × HS
  | s, n, [] => (n, s)
  | s, n, x :: l => if x ∈ met then goC met s n l else goC met { s with m := delM s.m x } (n + ((((s.m x).getD (0, [])).2.length : Int) + 1)) l
theorem PMap.del_has {D : DataW Unit} {g : Int → Option Nat} {x : Int} (h1 : ∀ x, Maps.has D (.int .i64 x) = (g x).isSome) (h2 : ∀ x b, g x = some b → ∀ z, D.atKey (.int .i64 x) z = .lit (.int .i64 (b : Int))) :
    (∀ y, Maps.has (D.del (.int .i64 x)) (.int .i64 y) = (delP g x y).isSome) ∧ (∀ y b, delP g x y = some b → ∀ z, (D.del (.int .i64 x)).atKey (.int .i64 y) z = .lit (.int .i64 (b : Int))) := by
  refine ⟨fun y => ?_, fun y c hy z => ?_⟩
  · unfold delP
    by_cases e : y = x
    · rw [if_pos e, e, Maps.has_del_same]; rfl
    · rw [if_neg e, Maps.has_del_other (fun e' => e (by cases e'; rfl)), h1]
  · unfold delP at hy
    by_cases e : y = x
    · rw [if_pos e] at hy
      cases hy
    · rw [if_neg e] at hy
      rw [Maps.atKey_del_other (fun e' => e (by cases e'; rfl)), h2 y c hy]
theorem pm_delete {ops : Array Oper} {rest : List Oper} {o : Oper} {a : Act} {Q : Exit → Act → World → Prop} (hgd : o.guard = none) {m x : Operand} (ho : o.op = Op.call { callee := Callee.builtin Builtin.delete, args := #[m, x], argTypes := #[48, 3] }) {W : World} {B n : Nat} {g : Int → Option Nat} (hm : a.eval m = .map (some B)) (hown : PMap W B n g) {k : Int} (hx : a.eval x = .int .i64 k) (hk : I64 k)
    (h : ∀ w1, PMap w1 B n (delP g k) → W.grownBy w1 (some B) → wpList Try.prog ops Q rest (a.put o.dst (.tuple #[])) w1) : wpList Try.prog ops Q (o :: rest) a W := by
  obtain ⟨D, h1, h2, h3⟩ := hown
  have hp := PMap.del_has (x := k) h2 h3
  exact wpList_delete_own W hgd m x _ _ ho _ mkeyed Try.underlying48 _ B n D hm h1 _ _ hx (Go.Maps.keyOf_int_mk Try.underlying3 hk.wf) (fun w1 r1 r2 => h w1 ⟨_, r1, hp.1, hp.2⟩ r2.grown)
theorem HeapIn.less {w0 : World} {s : HS} {ob rb : Int → Nat} {W W1 : World} (H : HeapIn w0 s ob rb W) {x : Int} (hmp : PMap W1 s.B s.last (delP (fun y => (s.m y).map fun _ => ob y) x)) (hg : W.grownBy W1 (some s.B)) :
    HeapIn w0 { s with m := delM s.m x } ob rb W1 := by
  have hB : ∀ (g : Nat) (cs : Array Value) (t : Nat), W.heap[g]? = some (.cells cs t (0, 0)) → W1.heap[g]? = some (.cells cs t (0, 0)) := fun g cs t hh => blk_grown hh hg (fun e => H.mp.ne hh (Option.some.inj e).symm)
  have hold : ∀ y o, delM s.m x y = some o → s.m y = some o := fun y o hy => by
    unfold delM at hy
    by_cases e : y = x
    · rw [if_pos e] at hy; cases hy
    · rw [if_neg e] at hy; exact hy
  refine ⟨hB _ _ _ H.hd, ?_, fun y o hy => ⟨hB _ _ _ (H.obj y o (hold y o hy)).1, hB _ _ _ (H.obj y o (hold y o hy)).2⟩, fun y z p q hp hq hyz => H.inj y z p q (hold y p hp) (hold z q hq) hyz, ⟨H.base.1, H.base.2.1, fun y o hy => H.base.2.2 y o (hold y o hy)⟩, Kd.R_mono (Kd.R_grown (Kd.R_bound H.cls) hg (fun k hk e => ?_)) (fun _ h => h.1), fun y o hy => H.dom y o (hold y o hy), H.num, H.below.grown hg H.below.size (fun k hk => by cases hk; exact H.base.2.1), ⟨Nat.le_trans H.keep.1 hg.size, fun k hf => ⟨(H.keep.2 k hf).1, (hg.block k (Nat.lt_of_lt_of_le (H.keep.2 k hf).1 H.keep.1) (fun e => (H.sep k hf).2.1 (Option.some.inj e))).trans (H.keep.2 k hf).2⟩⟩, fun k hf => ⟨(H.sep k hf).1, (H.sep k hf).2.1, fun y q hq => (H.sep k hf).2.2 y q (hold y q hq)⟩⟩
  · have e : (fun y => (delM s.m x y).map fun _ => ob y) = delP (fun y => (s.m y).map fun _ => ob y) x := by
      funext y
      unfold delM delP
      by_cases e : y = x
      · rw [if_pos e, if_pos e]; rfl
      · rw [if_neg e, if_neg e]
    show PMap W1 s.B s.last (fun y => (delM s.m x y).map fun _ => ob y)
    rw [e]
    exact hmp
  · obtain ⟨_, _, _, q, _, cells, hc⟩ := hk
    exact H.mp.ne hc (Option.some.inj e).symm
theorem rising_same {l r : List Int} (hl : l.Pairwise (· < ·)) (hr : r.Pairwise (· < ·)) (h : ∀ x, x ∈ l ↔ x ∈ r) : l = r :=
  List.Perm.eq_of_pairwise (le := fun a b => a < b) (fun a b _ _ h1 h2 => by omega) hl hr ((List.perm_ext_iff_of_nodup (hl.imp fun h => by omega) (hr.imp fun h => by omega)).2 h)
theorem wrap_c {a : Int} (h : 0 ≤ a) (h2 : a ≤ 72057594037927936) : IntKind.i64.wrap a = a := by rw [IntKind.wrap_i64]; omega
set_option maxHeartbeats 1600000 in
set_option maxRecDepth 100000 in
theorem hp_Collect (w0 : World) (s : HS) (k : Nat) (A : Option Addr) (c : Nat) (roots : List Int) (res : Option (List Int)) (lv : List Int) (W : World) (h : HeapAt w0 s W) (hfo : FieldsOK s.l) (hnl : s.last < 17592186044416) (hC : (Kd.int .i64).C W A roots.length roots) (hrk : ∀ y ∈ roots, I64 y) (hrl : roots.length < 17592186044416) (hm : markM k s roots = some res)
    (hls : lv.Pairwise (· < ·)) (hlm : ∀ x, x ∈ lv ↔ (s.m x).isSome = true) (hll : lv.length < 8796093022208) (hcu : ∀ met, res = some met → (goC met s 0 lv).1 ≤ s.used) :
    Calls Try.prog 12 #[.pointer (some ⟨s.hb, 0, none⟩), .slice A roots.length c] W fun e w' => (res = none ∧ e = .returned (.tuple #[.int .i64 0, .int .i64 141]) ∧ Below W.heap.size W w') ∨ ∃ met : List Int, res = some met ∧ e = .returned (.tuple #[.int .i64 (goC met s 0 lv).1, .int .i64 0]) ∧ HeapAt w0 { (goC met s 0 lv).2 with used := s.used - (goC met s 0 lv).1 } w' := by
  have H := Aside0.mk h
  have HFO := Aside0.mk hfo
  have HNL := Aside0.mk hnl
  have HC := Aside0.mk hC
  have HRK := Aside0.mk hrk
  have HRL := Aside0.mk hrl
  have HMK := Aside0.mk hm
  have HLS := Aside0.mk hls
  have HLM := Aside0.mk hlm
  have HLL := Aside0.mk hll
  have HCU := Aside0.mk hcu
  clear h hfo hnl hC hrk hrl hm hls hlm hll hcu
  go_enter Try.func12, Try.ntmps12
  go_wp2_with fail
  refine (hp_made w0 s _ H.out).mono ?_
  rintro e w1 ⟨rfl, hb⟩
  have HB := Aside0.mk hb
  replace H := Aside0.mk (show HeapAt w0 s w1 from by obtain ⟨ob, rb, h⟩ := H.out; exact ⟨ob, rb, h.step hb⟩)
  replace HC := Aside0.mk (Kd.C_below HC.out hb)
  clear hb
  go_wp2_with fail
  refine (hp_mark w0 s k A c roots res _ H.out HFO.out (by have := HNL.out; omega) HC.out HRK.out HRL.out HMK.out).mono ?_
  rintro e w2 ⟨hb, hp⟩
  replace HB := Aside0.mk (below_then HB.out HB.out.size hb)
  obtain ⟨ob, rb, hh⟩ := H.out
  have HBS := Aside0.mk (show s.B < w1.heap.size from hh.mp.lt)
  replace H := Aside0.mk (hh.step hb)
  clear hb hh
  rcases hp with ⟨hres, rfl⟩ | ⟨met, B, hres, rfl, hB, hU⟩
  · go_wp2
    go_ret2
    exact Or.inl ⟨hres, rfl, HB.out⟩
  · have HU := Aside0.mk hU
    have HBN := Aside0.mk (show ¬ B = s.B from by have := HBS.out; omega)
    have HRES := Aside0.mk hres
    have HCM := Aside0.mk (HCU.out met hres)
    clear hU hB hres HBS HCU
    go_wp2_with fail
    refine (hp_Live w0 s HNL.out _ ⟨ob, rb, H.out⟩).mono ?_
    rintro e w3 ⟨v, ls, rfl, hR, hp1, hp2, hb⟩
    obtain rfl : ls = lv := rising_same hp1 HLS.out (fun x => by rw [hp2, HLM.out])
    clear hp1 hp2
    replace H := Aside0.mk (H.out.step hb)
    replace HU := Aside0.mk (HU.out.block (hb.block _ HU.out.lt))
    obtain ⟨A3, c3, e3⟩ := Kd.R_slice hR
    subst e3
    have HR := Aside0.mk hR
    clear hR hb
    have HSZ := Aside0.mk HB.out.size
    go_wp2_with fail
    go_loopw [8, 27] (fun v8 v27 wr => ∃ (j : Nat) (n : Int) (m : Int → Option (Int × List Int)), v27 = .int .i64 (j : Int) ∧ v8 = .int .i64 n ∧ j ≤ ls.length ∧ Aside0 (0 ≤ n ∧ n ≤ 4097 * (j : Int)) ∧ Aside0 (HeapIn w0 { s with m := m } ob rb wr) ∧ Aside0 (UMap wr B met.length (memH met)) ∧ Aside0 (Kd.R (Kd.int .i64) 3 wr w2.heap.size (fun _ => True) (.slice A3 ls.length c3) ls) ∧ Aside0 (∀ y ∈ ls.drop j, m y = s.m y) ∧ Aside0 (goC met s 0 ls = goC met { s with m := m } n (ls.drop j))) (fun _ v27 _ => ((ls.length : Int) - intOf v27).toNat)
    case atStart => exact ⟨0, 0, s.m, rfl, rfl, Nat.zero_le _, ⟨by omega, by omega⟩, H, HU, HR, ⟨fun _ _ => rfl⟩, ⟨rfl⟩⟩
    case round =>
      rename_i wr
      clear H HU HR
      obtain ⟨j, n, m, rfl, rfl, hj, HN, H, HU, HR, HSAME, HGO⟩ := hrel
      by_cases c1 : j < ls.length
      · obtain ⟨x, hx⟩ : ∃ x, x = rd ls (j : Int) := ⟨_, rfl⟩
        obtain ⟨ad, e1, hxa⟩ := Kd.at_int (Kd.R_reads' HR.out).2.2 (j : Int) (by omega) (by omega)
        cases e1
        rw [← hx, Int.toNat_natCast] at hxa
        have hdr : ls.drop j = x :: ls.drop (j + 1) := by rw [List.drop_eq_getElem_cons c1, hx]; unfold rd; rw [Int.toNat_natCast, List.getD_eq_getElem?_getD, List.getElem?_eq_getElem c1]; rfl
        have hxm : x ∈ ls := List.drop_subset j ls (by rw [hdr]; exact List.mem_cons_self)
        obtain ⟨o, hso⟩ : ∃ o, s.m x = some o := Option.isSome_iff_exists.1 ((HLM.out x).1 hxm)
        have hmx : m x = some o := by rw [HSAME.out x (by rw [hdr]; exact List.mem_cons_self)]; exact hso
        have HSM : Aside0 (({ s with m := m } : HS).m x = some o) := ⟨hmx⟩
        have HSN := Aside0.mk hmx
        have hdm := H.out.dom x o hmx
        have HK : Aside0 (I64 x) := ⟨by have h1 := hdm.1; have h2 := hdm.2.1; have h3 := HNL.out; change x ≤ (s.last : Int) at h2; unfold I64; omega⟩
        have hol := hdm.2.2.1
        have hgo := HGO.out
        rw [hdr] at hgo
        have hnd : ∀ y ∈ ls.drop (j + 1), ¬ y = x := by
          have h1 : (ls.drop j).Pairwise (· < ·) := HLS.out.drop
          rw [hdr, List.pairwise_cons] at h1
          intro y hy e
          have := h1.1 y hy
          omega
        have HSM1 := Aside0.mk (show ∀ y ∈ ls.drop (j + 1), m y = s.m y from fun y hy => HSAME.out y (by rw [hdr]; exact List.mem_cons_of_mem _ hy))
        have HSM2 := Aside0.mk (show ∀ y ∈ ls.drop (j + 1), delM m x y = s.m y from fun y hy => by unfold delM; rw [if_neg (hnd y hy)]; exact HSM1.out y hy)
        have HW := Aside0.mk (wrap_h c1 (by have := HLL.out; omega))
        have HLO := Aside0.mk (show (0 : Int) ≤ (o.2.length : Int) ∧ (o.2.length : Int) ≤ 4096 by omega)
        have hw1 : IntKind.i64.wrap ((o.2.length : Int) + 1) = (o.2.length : Int) + 1 := wrap_c (by omega) (by omega)
        have hw2 : IntKind.i64.wrap (n + ((o.2.length : Int) + 1)) = n + ((o.2.length : Int) + 1) := wrap_c (by have := HN.out; omega) (by have := HN.out; have := HLL.out; omega)
        have c1b : decide ((j : Int) < (ls.length : Int)) = true := decide_eq_true (by omega)
        have c1c : decide (j < ls.length) = true := decide_eq_true c1
        have p5 : (0 ≤ (j : Int)) = True := eq_true (by omega)
        have p6 : ((j : Int) < (ls.length : Int)) = True := eq_true (by omega)
        have HJ := Aside0.mk c1
        have f4 := blk_cell H.out.hd 4
        have g1 := blk_cell (H.out.obj x o HSM.out).1 1
        simp only [HS.cell, List.getElem?_toArray, List.getElem?_cons_zero, List.getElem?_cons_succ] at f4 g1
        simp only [goC] at hgo
        clear hx hdr c1 HSAME hmx hso hdm hol hnd hxm HGO
        by_cases cm : x ∈ met
        · rw [if_pos cm] at hgo
          have HGO := Aside0.mk hgo
          have HMB := Aside0.mk (show memH met x = true from decide_eq_true cm)
          clear hgo cm
          go_wp2_with (first | ((with_reducible refine gate_dst (N := 34) rfl ?_); refine um_look rfl rfl rfl HU.out rfl HK.out ?_; rw [HMB.out]) | ((with_reducible refine gate_dst (N := 11) rfl ?_); refine rw_allocH rfl 79 rfl (cs := #[]) (by kernel_rfl) (Rws.nil _) ?_; intro b5 w_ hX hb9; have hU5 := blk_cell (hX.mem List.mem_cons_self) 0; replace H := Aside0.mk (H.out.step hb9); replace HU := Aside0.mk (HU.out.block (hb9.block _ HU.out.lt)); replace HR := Aside0.mk (Kd.R_below HR.out hb9); clear hX hb9 f4 g1; have f4 := blk_cell H.out.hd 4; have g1 := blk_cell (H.out.obj x o HSM.out).1 1; simp only [HS.cell, List.getElem?_toArray, List.getElem?_cons_zero, List.getElem?_cons_succ] at f4 g1) | ((with_reducible refine gate_dst (N := 45) rfl ?_); refine pm_look rfl rfl rfl H.out.mp rfl HK.out ?_; (try dsimp only); rw [HSN.out]; simp only [Option.map_none, Option.map_some]) | (at_delete; refine pm_delete rfl rfl rfl H.out.mp rfl HK.out ?_; intro w9 hp9 hg9; have HX9 := Aside0.mk (H.out.less hp9 hg9); replace HR := Aside0.mk (Kd.R_mono (Kd.R_grown (Kd.R_bound HR.out) hg9 (fun k hk e => by obtain ⟨_, _, _, q, _, cells, hc⟩ := hk; exact H.out.mp.ne hc (Option.some.inj e).symm)) (fun _ _ => trivial)); replace HU := Aside0.mk (HU.out.block (hg9.block _ HU.out.lt (fun e => HBN.out (Option.some.inj e)))); replace H := HX9; clear HX9 hp9 hg9 f4 g1))
          go_roundw
          case rel => exact ⟨j + 1, n, m, (by rw [HW.out]), rfl, HJ.out, ⟨HN.out.1, (by have := HN.out.2; omega)⟩, H, HU, HR, HSM1, HGO⟩
          case measure => exact meas_h HJ.out HW.out
        · rw [if_neg cm] at hgo
          have HGO := Aside0.mk hgo
          have HMB := Aside0.mk (show memH met x = false from decide_eq_false cm)
          clear hgo cm
          go_wp2_with (first | ((with_reducible refine gate_dst (N := 34) rfl ?_); refine um_look rfl rfl rfl HU.out rfl HK.out ?_; rw [HMB.out]) | ((with_reducible refine gate_dst (N := 11) rfl ?_); refine rw_allocH rfl 79 rfl (cs := #[]) (by kernel_rfl) (Rws.nil _) ?_; intro b5 w_ hX hb9; have hU5 := blk_cell (hX.mem List.mem_cons_self) 0; replace H := Aside0.mk (H.out.step hb9); replace HU := Aside0.mk (HU.out.block (hb9.block _ HU.out.lt)); replace HR := Aside0.mk (Kd.R_below HR.out hb9); clear hX hb9 f4 g1; have f4 := blk_cell H.out.hd 4; have g1 := blk_cell (H.out.obj x o HSM.out).1 1; simp only [HS.cell, List.getElem?_toArray, List.getElem?_cons_zero, List.getElem?_cons_succ] at f4 g1) | ((with_reducible refine gate_dst (N := 45) rfl ?_); refine pm_look rfl rfl rfl H.out.mp rfl HK.out ?_; (try dsimp only); rw [HSN.out]; simp only [Option.map_none, Option.map_some]) | (at_delete; refine pm_delete rfl rfl rfl H.out.mp rfl HK.out ?_; intro w9 hp9 hg9; have HX9 := Aside0.mk (H.out.less hp9 hg9); replace HR := Aside0.mk (Kd.R_mono (Kd.R_grown (Kd.R_bound HR.out) hg9 (fun k hk e => by obtain ⟨_, _, _, q, _, cells, hc⟩ := hk; exact H.out.mp.ne hc (Option.some.inj e).symm)) (fun _ _ => trivial)); replace HU := Aside0.mk (HU.out.block (hg9.block _ HU.out.lt (fun e => HBN.out (Option.some.inj e)))); replace H := HX9; clear HX9 hp9 hg9 f4 g1))
          go_roundw
          case rel => exact ⟨j + 1, n + ((o.2.length : Int) + 1), delM m x, (by rw [HW.out]), (by first | rfl | (simp; done)), HJ.out, ⟨(by have h1 := HN.out; have h2 := HLO.out; constructor <;> omega)⟩, H, HU, HR, HSM2, ⟨(by have e := HGO.out; simp only [HSN.out, Option.getD_some] at e; exact e)⟩⟩
          case measure => exact meas_h HJ.out HW.out
      · have c1b : decide ((j : Int) < (ls.length : Int)) = false := decide_eq_false (by omega)
        have c1c : decide (j < ls.length) = false := decide_eq_false c1
        have hgo := HGO.out
        rw [List.drop_eq_nil_of_le (by omega)] at hgo
        simp only [goC] at hgo
        have HGO2 := Aside0.mk hgo
        have hcm := HCM.out
        rw [hgo] at hcm
        have HNU := Aside0.mk (show n ≤ s.used from hcm)
        have HNM := Aside0.mk (show 0 ≤ s.used ∧ s.used ≤ s.room ∧ s.room ≤ 4096 from H.out.num)
        have hw1 : IntKind.i64.wrap (s.used - n) = s.used - n := wrap_c (by have := HNU.out; omega) (by have := HNM.out; have := HN.out.1; omega)
        have f2 := blk_cell H.out.hd 2
        simp only [HS.cell, List.getElem?_toArray, List.getElem?_cons_zero, List.getElem?_cons_succ] at f2
        clear hgo hcm c1 HGO hj HSAME
        go_wp2_with ((with_reducible refine gate_store (t := 3) (p := 65) rfl ?_); refine head_store rfl rfl 2 rfl rfl H.out (by decide) { s with m := m, used := s.used - n } rfl rfl rfl rfl rfl rfl rfl rfl (Nat.le_refl _) (by have h1 := HNU.out; have h2 := HNM.out; have h3 := HN.out.1; exact ⟨by show 0 ≤ s.used - n; omega, by show s.used - n ≤ s.room; omega, h2.2.2⟩) ?_; intro w9 ho hk; have HZ := Aside0.mk ho; clear ho hk f2)
        go_ret2
        exact Or.inr ⟨met, HRES.out, (by rw [HGO2.out]; rfl), (by rw [HGO2.out]; exact ⟨ob, rb, HZ.out⟩)⟩
end Go.Proofs.Ytkjagcamikkjkaa.P

end

section
namespace Go.Proofs.Ytkjagcamikkjkaa.P
open Go.RowKit Go.Proofs.YtkjagcamikkjkaaW.PrintWords Go.Proofs.YtkjagcamikkjkaaW.PrintLast Go.Proofs.YtkjagcamikkjkaaW.PrintMore
attribute [local go_sem] max2_int min2_int max_two min_two max_three min_three max_four min_four
set_option linter.unusedVariables false
set_option linter.unusedSimpArgs false
def cutM (met : List Int) (l : List Int) (m : Int → Option (Int × List Int)) : Int → Option (Int × List Int) := fun y => if y ∈ l ∧ y ∉ met then none else m y
theorem goC_s (met : List Int) : ∀ (l : List Int) (s : HS) (n : Int), (goC met s n l).2 = { s with m := cutM met l s.m }
  | [], s, n => by
    have : cutM met [] s.m = s.m := by funext y; unfold cutM; simp
    unfold goC; rw [this]
  | x :: l, s, n => by
    unfold goC
    split
    · rename_i h
      rw [goC_s met l s n]
      have : cutM met (x :: l) s.m = cutM met l s.m := by
        funext y
        unfold cutM
        by_cases e : y = x
        · subst e; simp [h]
        · simp [e]
      rw [this]
    · rename_i h
      rw [goC_s met l _ _]
      have : cutM met l (delM s.m x) = cutM met (x :: l) s.m := by
        funext y
        unfold cutM delM
        by_cases e : y = x
        · subst e; simp [h]
        · simp [e]
      show ({ s with m := cutM met l (delM s.m x) } : HS) = _
      rw [this]
def costO (m : Int → Option (Int × List Int)) (x : Int) : Int := (((m x).getD (0, [])).2.length : Int) + 1
def costL (m : Int → Option (Int × List Int)) : List Int → Int
  | [] => 0
  | x :: l => costO m x + costL m l
theorem costO_pos (m : Int → Option (Int × List Int)) (x : Int) : 1 ≤ costO m x := by unfold costO; omega
theorem costL_nonneg (m : Int → Option (Int × List Int)) : ∀ l, 0 ≤ costL m l
  | [] => Int.le_refl _
  | x :: l => by have := costL_nonneg m l; have := costO_pos m x; unfold costL; omega
theorem costL_len (m : Int → Option (Int × List Int)) : ∀ l : List Int, (l.length : Int) ≤ costL m l
  | [] => Int.le_refl _
  | x :: l => by have := costL_len m l; have := costO_pos m x; unfold costL; simp only [List.length_cons]; omega
theorem costL_congr {m m' : Int → Option (Int × List Int)} : ∀ {l : List Int}, (∀ x ∈ l, costO m x = costO m' x) → costL m l = costL m' l
  | [], _ => rfl
  | x :: l, h => by
    unfold costL
    rw [h x List.mem_cons_self, costL_congr (fun y hy => h y (List.mem_cons_of_mem _ hy))]
theorem costL_append (m : Int → Option (Int × List Int)) : ∀ a b : List Int, costL m (a ++ b) = costL m a + costL m b
  | [], b => by simp [costL]
  | x :: a, b => by
    have := costL_append m a b
    simp only [List.cons_append, costL, this]
    omega
theorem costL_split (m : Int → Option (Int × List Int)) (p : Int → Bool) : ∀ l : List Int, costL m l = costL m (l.filter p) + costL m (l.filter fun x => !p x)
  | [] => rfl
  | x :: l => by
    have := costL_split m p l
    cases hp : p x <;> simp [hp, costL, this] <;> omega
theorem goC_n (met : List Int) : ∀ (l : List Int) (s : HS) (n : Int), l.Nodup → (goC met s n l).1 = n + costL s.m (l.filter fun x => !memH met x)
  | [], s, n, _ => by simp [goC, costL]
  | x :: l, s, n, hn => by
    obtain ⟨h1, h2⟩ := List.nodup_cons.1 hn
    unfold goC
    split
    · rename_i h
      rw [goC_n met l s n h2]
      have : memH met x = true := decide_eq_true h
      simp [this]
    · rename_i h
      have hb : memH met x = false := decide_eq_false h
      rw [goC_n met l _ _ h2]
      simp only [List.filter_cons, hb, Bool.not_false, if_true, costL]
      have : costL (delM s.m x) (l.filter fun y => !memH met y) = costL s.m (l.filter fun y => !memH met y) := costL_congr (fun y hy => by
        have hy := (List.mem_filter.1 hy).1
        unfold costO delM
        rw [if_neg (show ¬ y = x from fun e => h1 (e ▸ hy))])
      rw [this]
      unfold costO
      omega
def liveL (s : HS) : List Int := ((List.range s.last).map fun i : Nat => (i : Int) + 1).filter fun x => (s.m x).isSome
theorem range_rising : ∀ (n k : Nat), ((List.range' k n).map fun i : Nat => (i : Int) + 1).Pairwise (· < ·)
  | 0, k => by simp
  | n + 1, k => by
    rw [List.range'_succ, List.map_cons, List.pairwise_cons]
    refine ⟨fun y hy => ?_, range_rising n (k + 1)⟩
    obtain ⟨i, hi, rfl⟩ := List.mem_map.1 hy
    have := (List.mem_range'_1.1 hi).1
    omega
theorem liveL_rising (s : HS) : (liveL s).Pairwise (· < ·) := by
  unfold liveL
  rw [List.range_eq_range']
  exact (range_rising s.last 0).filter _
theorem liveL_mem {s : HS} (hd : ∀ x o, s.m x = some o → 1 ≤ x ∧ x ≤ (s.last : Int)) (x : Int) : x ∈ liveL s ↔ (s.m x).isSome = true := by
  unfold liveL
  rw [List.mem_filter]
  refine ⟨fun h => h.2, fun h => ⟨?_, h⟩⟩
  obtain ⟨o, ho⟩ := Option.isSome_iff_exists.1 h
  have := hd x o ho
  refine List.mem_map.2 ⟨(x - 1).toNat, List.mem_range.2 (by omega), by omega⟩
theorem rising_nodup {l : List Int} (h : l.Pairwise (· < ·)) : l.Nodup := h.imp fun h => by omega
def SumOK (s : HS) : Prop := (∀ x o, s.m x = some o → 1 ≤ x ∧ x ≤ (s.last : Int)) ∧ s.used = costL s.m (liveL s)
theorem SumOK.collect_le {s : HS} (h : SumOK s) (met : List Int) : (goC met s 0 (liveL s)).1 ≤ s.used := by
  rw [goC_n met _ s 0 (rising_nodup (liveL_rising s)), h.2, costL_split s.m (fun x => memH met x) (liveL s)]
  have := costL_nonneg s.m ((liveL s).filter fun x => memH met x)
  omega
theorem SumOK.add {s : HS} (h : SumOK s) (c n : Int) (hn : 0 ≤ n) : SumOK (addM s c n).2.2 := by
  unfold addM
  split
  · exact h
  · refine ⟨fun x o hx => ?_, ?_⟩
    · change updM s.m ((s.last : Int) + 1) (c, List.replicate n.toNat 0) x = some o at hx
      show 1 ≤ x ∧ x ≤ ((s.last + 1 : Nat) : Int)
      unfold updM at hx
      split at hx
      · omega
      · have := h.1 x o hx; omega
    · show s.used + (n + 1) = _
      have hnone : s.m ((s.last : Int) + 1) = none := by
        cases hm : s.m ((s.last : Int) + 1) with
        | none => rfl
        | some o => have := h.1 _ o hm; omega
      have hl : liveL { s with used := s.used + (n + 1), last := s.last + 1, m := updM s.m ((s.last : Int) + 1) (c, List.replicate n.toNat 0) } = liveL s ++ [(s.last : Int) + 1] := by
        unfold liveL
        simp only [List.range_succ, List.map_append, List.map_cons, List.map_nil, List.filter_append]
        congr 1
        · refine List.filter_congr (fun x hx => ?_)
          obtain ⟨i, hi, rfl⟩ := List.mem_map.1 hx
          have := List.mem_range.1 hi
          unfold updM
          rw [if_neg (by omega)]
        · simp [updM]
      show s.used + (n + 1) = costL _ (liveL { s with used := s.used + (n + 1), last := s.last + 1, m := updM s.m ((s.last : Int) + 1) (c, List.replicate n.toNat 0) })
      rw [hl, costL_append]
      have h1 : costL (updM s.m ((s.last : Int) + 1) (c, List.replicate n.toNat 0)) (liveL s) = costL s.m (liveL s) := costL_congr (fun x hx => by
        unfold costO updM
        rw [if_neg]
        intro e
        have hx := (liveL_mem h.1 x).1 hx
        rw [e, hnone] at hx
        cases hx)
      show s.used + (n + 1) = costL (updM s.m ((s.last : Int) + 1) (c, List.replicate n.toNat 0)) (liveL s) + costL (updM s.m ((s.last : Int) + 1) (c, List.replicate n.toNat 0)) [(s.last : Int) + 1]
      rw [h1, ← h.2]
      simp [costL, costO, updM]
      omega
theorem setNum_some {m : Int → Option (Int × List Int)} {x i v : Int} (y : Int) : (setNum m x i v y).isSome = (m y).isSome := by
  unfold setNum
  split
  · rename_i e; rw [e]; simp
  · rfl
theorem setNum_cost {m : Int → Option (Int × List Int)} {x i v : Int} (y : Int) : costO (setNum m x i v) y = costO m y := by
  unfold costO setNum
  split
  · rename_i e
    rw [e]
    cases m x with
    | none => rfl
    | some o => simp
  · rfl
theorem SumOK.put {s : HS} (h : SumOK s) (x i v : Int) : SumOK (putM s x i v).2 := by
  unfold putM
  split
  · split
    · exact h
    · refine ⟨fun y o hy => ?_, ?_⟩
      · have : (s.m y).isSome = true := by rw [← setNum_some (x := x) (i := i) (v := v)]; exact Option.isSome_iff_exists.2 ⟨o, hy⟩
        obtain ⟨o', ho⟩ := Option.isSome_iff_exists.1 this
        exact h.1 y o' ho
      · show s.used = costL (setNum s.m x i v) (liveL { s with m := setNum s.m x i v })
        have hl : liveL { s with m := setNum s.m x i v } = liveL s := by
          unfold liveL
          exact List.filter_congr (fun y _ => setNum_some y)
        rw [hl, h.2]
        exact costL_congr (fun y _ => (setNum_cost y).symm)
  · exact h
def colS (s : HS) (met : List Int) : HS := { (goC met s 0 (liveL s)).2 with used := s.used - (goC met s 0 (liveL s)).1 }
theorem colS_m {s : HS} (hd : ∀ x o, s.m x = some o → 1 ≤ x ∧ x ≤ (s.last : Int)) (met : List Int) (y : Int) : (colS s met).m y = if y ∈ met then s.m y else none := by
  unfold colS
  rw [goC_s]
  show cutM met (liveL s) s.m y = _
  unfold cutM
  by_cases h : y ∈ met
  · simp [h]
  · rw [if_neg h]
    split
    · rfl
    · rename_i h2
      have : y ∉ liveL s := fun h3 => h2 ⟨h3, h⟩
      rw [liveL_mem hd] at this
      cases hm : s.m y with
      | none => rfl
      | some o => rw [hm] at this; exact absurd rfl this
theorem colS_eq (s : HS) (met : List Int) : colS s met = { s with m := cutM met (liveL s) s.m, used := s.used - (goC met s 0 (liveL s)).1 } := by
  unfold colS
  rw [goC_s]
theorem SumOK.collect {s : HS} (h : SumOK s) (met : List Int) : SumOK (colS s met) := by
  have hl : liveL (colS s met) = (liveL s).filter fun x => memH met x := by
    refine rising_same (liveL_rising _) ((liveL_rising s).filter _) (fun x => ?_)
    rw [List.mem_filter, liveL_mem h.1, liveL_mem (s := colS s met) (fun x o hx => by
      rw [colS_m h.1] at hx
      split at hx
      · have := h.1 x o hx; rw [colS_eq]; exact this
      · cases hx), colS_m h.1]
    unfold memH
    by_cases hm : x ∈ met <;> simp [hm]
  refine ⟨fun x o hx => ?_, ?_⟩
  · rw [colS_m h.1] at hx
    split at hx
    · have := h.1 x o hx; rw [colS_eq]; exact this
    · cases hx
  · rw [hl]
    have e : (colS s met).used = s.used - (goC met s 0 (liveL s)).1 := rfl
    rw [e, goC_n met _ s 0 (rising_nodup (liveL_rising s)), h.2, costL_split s.m (fun x => memH met x) (liveL s)]
    have h1 : costL (colS s met).m ((liveL s).filter fun x => memH met x) = costL s.m ((liveL s).filter fun x => memH met x) := costL_congr (fun x hx => by
      have hx : x ∈ met := of_decide_eq_true (List.mem_filter.1 hx).2
      unfold costO
      rw [colS_m h.1, if_pos hx])
    rw [h1]
    omega
end Go.Proofs.Ytkjagcamikkjkaa.P

end

section
namespace Go.Proofs.Ytkjagcamikkjkaa.P
open Go.RowKit Go.Proofs.YtkjagcamikkjkaaW.PrintWords Go.Proofs.YtkjagcamikkjkaaW.PrintLast Go.Proofs.YtkjagcamikkjkaaW.PrintMore
attribute [local go_sem] max2_int min2_int max_two min_two max_three min_three max_four min_four
set_option linter.unusedVariables false
set_option linter.unusedSimpArgs false
def SuccM (s : HS) (x v : Int) : Prop := ∃ (o : Int × List Int) (i : Nat), s.m x = some o ∧ 0 ≤ o.1 ∧ i < (fieldsL s.l o.1).length ∧ isRefH (rd_T29 (fieldsL s.l o.1) (i : Int)).f1 = true ∧ v = o.2.getD i 0 ∧ (s.m v).isSome = true
theorem nodup_le : ∀ {l r : List Int}, l.Nodup → (∀ x ∈ l, x ∈ r) → l.length ≤ r.length
  | [], _, _, _ => Nat.zero_le _
  | x :: l, r, hn, hs => by
    obtain ⟨h1, h2⟩ := List.nodup_cons.1 hn
    have hx := hs x List.mem_cons_self
    have h3 := nodup_le (l := l) (r := r.erase x) h2 (fun y hy => (List.mem_erase_of_ne (show y ≠ x from fun e => h1 (e ▸ hy))).2 (hs y (List.mem_cons_of_mem _ hy)))
    have h4 := List.length_erase_of_mem hx
    have h5 := List.length_pos_of_mem hx
    simp only [List.length_cons]
    omega
structure StOK (s : HS) (st : List Int × List Int) : Prop where
  n1 : st.1.Nodup
  n2 : st.2.Nodup
  sub : ∀ x ∈ st.2, x ∈ st.1
  live : ∀ x ∈ st.1, (s.m x).isSome = true
theorem nodup_snoc {l : List Int} {x : Int} (h : l.Nodup) (hx : x ∉ l) : (l ++ [x]).Nodup := by
  rw [List.nodup_append]
  exact ⟨h, by simp, fun a ha b hb e => hx (by rw [List.mem_singleton.1 hb] at e; exact e ▸ ha)⟩
theorem meetM_ok {s : HS} {st : List Int × List Int} (h : StOK s st) (x : Int) : StOK s (meetM s st x) := by
  unfold meetM
  split
  · rename_i c
    refine ⟨nodup_snoc h.n1 c.2, nodup_snoc h.n2 (fun hx => c.2 (h.sub x hx)), fun y hy => ?_, fun y hy => ?_⟩
    · rcases List.mem_append.1 hy with hy | hy
      · exact List.mem_append_left _ (h.sub y hy)
      · exact List.mem_append_right _ hy
    · rcases List.mem_append.1 hy with hy | hy
      · exact h.live y hy
      · rw [List.mem_singleton.1 hy]; exact c.1
  · exact h
theorem meetM_mem {s : HS} {st : List Int × List Int} (x y : Int) : y ∈ (meetM s st x).1 ↔ y ∈ st.1 ∨ (y = x ∧ (s.m x).isSome = true) := by
  unfold meetM
  split
  · rename_i c
    rw [List.mem_append, List.mem_singleton]
    exact ⟨fun h => h.imp id (fun e => ⟨e, c.1⟩), fun h => h.imp id And.left⟩
  · rename_i c
    refine ⟨.inl, fun h => h.elim id (fun ⟨e, h2⟩ => ?_)⟩
    rw [e]
    exact Classical.byContradiction fun hn => c ⟨h2, hn⟩
theorem meetM_shut {s : HS} {st : List Int × List Int} (x y : Int) (h1 : y ∈ (meetM s st x).1) (h2 : y ∉ (meetM s st x).2) : y ∈ st.1 ∧ y ∉ st.2 := by
  unfold meetM at h1 h2
  split at h1
  · rename_i c
    rw [if_pos c] at h2
    rcases List.mem_append.1 h1 with h | h
    · exact ⟨h, fun h3 => h2 (List.mem_append_left _ h3)⟩
    · exact absurd (List.mem_append_right _ h) h2
  · rename_i c
    rw [if_neg c] at h2
    exact ⟨h1, h2⟩
theorem meetM_count {s : HS} {st : List Int × List Int} (x : Int) : (meetM s st x).1.length + st.2.length = st.1.length + (meetM s st x).2.length := by
  unfold meetM
  split
  · simp only [List.length_append, List.length_singleton]; omega
  · rfl
theorem meetAll_ok {s : HS} {fl : List S29} {nums : List Int} {st : List Int × List Int} (h : StOK s st) : ∀ i, StOK s (meetAll s fl nums i st)
  | 0 => h
  | i + 1 => by
    unfold meetAll
    split
    · exact meetM_ok (meetAll_ok h i) _
    · exact meetAll_ok h i
theorem meetAll_mem {s : HS} {fl : List S29} {nums : List Int} {st : List Int × List Int} (y : Int) : ∀ i, y ∈ (meetAll s fl nums i st).1 ↔ y ∈ st.1 ∨ ∃ j, j < i ∧ isRefH (rd_T29 fl (j : Int)).f1 = true ∧ y = nums.getD j 0 ∧ (s.m y).isSome = true
  | 0 => ⟨.inl, fun h => h.elim id (fun ⟨j, hj, _⟩ => absurd hj (Nat.not_lt_zero _))⟩
  | i + 1 => by
    have ih := meetAll_mem (s := s) (fl := fl) (nums := nums) (st := st) y i
    unfold meetAll
    split
    · rename_i c
      rw [meetM_mem, ih]
      constructor
      · rintro ((h | ⟨j, h1, h2⟩) | ⟨h1, h2⟩)
        · exact .inl h
        · exact .inr ⟨j, by omega, h2⟩
        · exact .inr ⟨i, by omega, c, h1, by rw [h1]; exact h2⟩
      · rintro (h | ⟨j, h1, h2, h3, h4⟩)
        · exact .inl (.inl h)
        · by_cases e : j = i
          · subst e; exact .inr ⟨h3, by rw [← h3]; exact h4⟩
          · exact .inl (.inr ⟨j, by omega, h2, h3, h4⟩)
    · rename_i c
      rw [ih]
      constructor
      · rintro (h | ⟨j, h1, h2⟩)
        · exact .inl h
        · exact .inr ⟨j, by omega, h2⟩
      · rintro (h | ⟨j, h1, h2, h3⟩)
        · exact .inl h
        · by_cases e : j = i
          · subst e; exact absurd h2 c
          · exact .inr ⟨j, by omega, h2, h3⟩
theorem meetAll_shut {s : HS} {fl : List S29} {nums : List Int} {st : List Int × List Int} (y : Int) : ∀ i, y ∈ (meetAll s fl nums i st).1 → y ∉ (meetAll s fl nums i st).2 → y ∈ st.1 ∧ y ∉ st.2
  | 0 => fun h1 h2 => ⟨h1, h2⟩
  | i + 1 => by
    unfold meetAll
    split
    · intro h1 h2
      obtain ⟨h3, h4⟩ := meetM_shut _ y h1 h2
      exact meetAll_shut y i h3 h4
    · exact meetAll_shut y i
theorem meetAll_count {s : HS} {fl : List S29} {nums : List Int} {st : List Int × List Int} : ∀ i, (meetAll s fl nums i st).1.length + st.2.length = st.1.length + (meetAll s fl nums i st).2.length
  | 0 => rfl
  | i + 1 => by
    have ih := meetAll_count (s := s) (fl := fl) (nums := nums) (st := st) i
    unfold meetAll
    split
    · have := meetM_count (s := s) (st := meetAll s fl nums i st) (nums.getD i 0)
      omega
    · exact ih
theorem last_split {l : List Int} (h : ¬ l.length = 0) : l = l.dropLast ++ [l.getD (l.length - 1) 0] := by
  have hne : l ≠ [] := fun e => h (by rw [e]; rfl)
  conv => lhs; rw [← List.dropLast_concat_getLast hne]
  congr 2
  rw [List.getLast_eq_getElem, List.getD_eq_getElem?_getD, List.getElem?_eq_getElem (by omega)]
  rfl
theorem markGo_tells (s : HS) (N : Nat) (hN : ∀ l : List Int, l.Nodup → (∀ x ∈ l, (s.m x).isSome = true) → l.length ≤ N) (hN2 : N < 8796093022208) :
    ∀ (k : Nat) (st : List Int × List Int), StOK s st → (∀ x ∈ st.1, x ∉ st.2 → ∀ v, SuccM s x v → v ∈ st.1) → N - st.1.length + st.2.length < k →
      ∃ r, markGo s k st = some r ∧ r.Nodup ∧ (∀ x ∈ r, (s.m x).isSome = true) ∧ (∀ x ∈ st.1, x ∈ r) ∧ (∀ x ∈ r, ∀ v, SuccM s x v → v ∈ r) ∧ ∀ P : Int → Prop, (∀ x ∈ st.1, P x) → (∀ x v, P x → SuccM s x v → P v) → ∀ x ∈ r, P x
  | 0, _, _, _, h => absurd h (Nat.not_lt_zero _)
  | k + 1, st, hok, hcl, hk => by
    unfold markGo
    by_cases h0 : st.2.length = 0
    · rw [if_pos h0]
      have e : st.2 = [] := List.eq_nil_of_length_eq_zero h0
      exact ⟨st.1, rfl, hok.n1, hok.live, fun _ h => h, fun x hx v hv => hcl x hx (by rw [e]; simp) v hv, fun P h1 _ x hx => h1 x hx⟩
    · rw [if_neg h0]
      have hsp := last_split h0
      obtain ⟨z, hz⟩ : ∃ z, z = st.2.getD (st.2.length - 1) 0 := ⟨_, rfl⟩
      rw [← hz] at hsp ⊢
      obtain ⟨q, hq⟩ : ∃ q, q = st.2.dropLast := ⟨_, rfl⟩
      rw [← hq] at hsp ⊢
      have hz2 : z ∈ st.2 := by rw [hsp]; simp
      have hz1 := hok.sub z hz2
      obtain ⟨o, ho⟩ := Option.isSome_iff_exists.1 (hok.live z hz1)
      have hql : st.2.length = q.length + 1 := by rw [hsp]; simp
      have hm1 := hN st.1 hok.n1 hok.live
      have hm2 := hN st.2 hok.n2 (fun x hx => hok.live x (hok.sub x hx))
      have hfit : (fitM st.1.length && fitM st.2.length) = true := by
        unfold fitM
        rw [decide_eq_true (by omega), decide_eq_true (by omega)]
        rfl
      have hqn : q.Nodup ∧ z ∉ q := by
        have := hok.n2
        rw [hsp, List.nodup_append] at this
        exact ⟨this.1, fun hh => this.2.2 z hh z (by simp) rfl⟩
      have hok' : StOK s (st.1, q) := ⟨hok.n1, hqn.1, fun x hx => hok.sub x (by rw [hsp]; exact List.mem_append_left _ hx), hok.live⟩
      rw [ho]
      simp only [hfit, if_true]
      by_cases hc : o.1 < 0
      · rw [if_pos hc]
        obtain ⟨r, h1, h2, h3, h4, h5, h6⟩ := markGo_tells s N hN hN2 k (st.1, q) hok' (fun x hx hxq v hv => by
          by_cases e : x = z
          · obtain ⟨o', i, ho', hc', _⟩ := hv
            rw [e, ho] at ho'
            cases ho'
            omega
          · exact hcl x hx (fun hh => by rw [hsp] at hh; rcases List.mem_append.1 hh with hh | hh; exact hxq hh; exact e (List.mem_singleton.1 hh)) v hv) (by show N - st.1.length + q.length < k; omega)
        exact ⟨r, h1, h2, h3, h4, h5, h6⟩
      · rw [if_neg hc]
        obtain ⟨st', hst⟩ : ∃ st', st' = meetAll s (fieldsL s.l o.1) o.2 (fieldsL s.l o.1).length (st.1, q) := ⟨_, rfl⟩
        rw [← hst]
        have ok2 : StOK s st' := by rw [hst]; exact meetAll_ok hok' _
        have hmem : ∀ y, y ∈ st'.1 ↔ y ∈ st.1 ∨ SuccM s z y := fun y => by
          rw [hst, meetAll_mem]
          refine or_congr Iff.rfl ⟨fun ⟨j, h1, h2, h3, h4⟩ => ⟨o, j, ho, by omega, h1, h2, h3, h4⟩, fun ⟨o', j, ho', h0', h1, h2, h3, h4⟩ => ?_⟩
          rw [ho] at ho'
          cases ho'
          exact ⟨j, h1, h2, h3, h4⟩
        have hcount : st'.1.length + q.length = st.1.length + st'.2.length := by rw [hst]; exact meetAll_count _
        have hm3 := hN st'.1 ok2.n1 ok2.live
        have hge : st.1.length ≤ st'.1.length := by
          exact nodup_le hok.n1 (fun x hx => (hmem x).2 (.inl hx))
        obtain ⟨r, h1, h2, h3, h4, h5, h6⟩ := markGo_tells s N hN hN2 k st' ok2 (fun x hx hxq v hv => by
          have hsh : x ∈ st.1 ∧ x ∉ q := by
            rw [hst] at hx hxq
            exact meetAll_shut x _ hx hxq
          by_cases e : x = z
          · exact (hmem v).2 (.inr (e ▸ hv))
          · exact (hmem v).2 (.inl (hcl x hsh.1 (fun hh => by rw [hsp] at hh; rcases List.mem_append.1 hh with hh | hh; exact hsh.2 hh; exact e (List.mem_singleton.1 hh)) v hv))) (by omega)
        refine ⟨r, h1, h2, h3, fun x hx => h4 x ((hmem x).2 (.inl hx)), h5, fun P p1 p2 x hx => h6 P (fun y hy => ?_) p2 x hx⟩
        rcases (hmem y).1 hy with hy | hy
        · exact p1 y hy
        · exact p2 z y (p1 z hz1) hy
structure Reached (s : HS) (roots met : List Int) : Prop where
  nd : met.Nodup
  live : ∀ x ∈ met, (s.m x).isSome = true
  has : ∀ x ∈ roots, (s.m x).isSome = true → x ∈ met
  shut : ∀ x ∈ met, ∀ v, SuccM s x v → v ∈ met
  least : ∀ P : Int → Prop, (∀ x ∈ roots, (s.m x).isSome = true → P x) → (∀ x v, P x → SuccM s x v → P v) → ∀ x ∈ met, P x
theorem rootsM_tells (s : HS) : ∀ (roots : List Int) (st : List Int × List Int), StOK s st → (∀ x ∈ st.1, x ∈ st.2) → (∀ x ∈ roots, x ≠ 0 → (s.m x).isSome = true) →
    ∃ st', rootsM s roots st = some st' ∧ StOK s st' ∧ (∀ x ∈ st'.1, x ∈ st'.2) ∧ ∀ y, y ∈ st'.1 ↔ y ∈ st.1 ∨ (y ∈ roots ∧ (s.m y).isSome = true)
  | [], st, h1, h2, _ => ⟨st, rfl, h1, h2, fun y => by simp⟩
  | x :: r, st, h1, h2, h3 => by
    unfold rootsM
    rw [if_neg (fun h => by have := h3 x List.mem_cons_self h.1; rw [h.2] at this; cases this)]
    obtain ⟨st', e1, e2, e3, e4⟩ := rootsM_tells s r (meetM s st x) (meetM_ok h1 x) (fun y hy => Classical.byContradiction fun hn => by
      obtain ⟨q1, q2⟩ := meetM_shut x y hy hn
      exact q2 (h2 y q1)) (fun y hy => h3 y (List.mem_cons_of_mem _ hy))
    refine ⟨st', e1, e2, e3, fun y => ?_⟩
    rw [e4, meetM_mem, List.mem_cons]
    constructor
    · rintro ((h | ⟨h, h'⟩) | ⟨h, h'⟩)
      · exact .inl h
      · exact .inr ⟨.inl h, by rw [h]; exact h'⟩
      · exact .inr ⟨.inr h, h'⟩
    · rintro (h | ⟨h | h, h'⟩)
      · exact .inl (.inl h)
      · exact .inl (.inr ⟨h, by rw [← h]; exact h'⟩)
      · exact .inr ⟨h, h'⟩
theorem rootsM_bad (s : HS) : ∀ (roots : List Int) (st : List Int × List Int), (∃ x ∈ roots, x ≠ 0 ∧ s.m x = none) → rootsM s roots st = none
  | [], _, ⟨x, hx, _⟩ => by cases hx
  | x :: r, st, ⟨y, hy, h⟩ => by
    unfold rootsM
    split
    · rfl
    · rename_i c
      rcases List.mem_cons.1 hy with e | hy
      · exact absurd (e ▸ h) c
      · exact rootsM_bad s r _ ⟨y, hy, h⟩
theorem mark_bad (s : HS) (k : Nat) (roots : List Int) (h : ∃ x ∈ roots, x ≠ 0 ∧ s.m x = none) : markM k s roots = some none := by
  unfold markM
  rw [rootsM_bad s roots _ h]
theorem mark_good (s : HS) (N : Nat) (hN : ∀ l : List Int, l.Nodup → (∀ x ∈ l, (s.m x).isSome = true) → l.length ≤ N) (hN2 : N ≤ 4096) (roots : List Int) (h : ∀ x ∈ roots, x ≠ 0 → (s.m x).isSome = true) : ∃ met, markM 8193 s roots = some (some met) ∧ Reached s roots met := by
  obtain ⟨st, e1, e2, e3, e4⟩ := rootsM_tells s roots ([], []) ⟨by simp, by simp, by simp, by simp⟩ (by simp) h
  have hm2 := hN st.2 e2.n2 (fun x hx => e2.live x (e2.sub x hx))
  obtain ⟨r, h1, h2, h3, h4, h5, h6⟩ := markGo_tells s N hN (by omega) 8193 st e2 (fun x hx hn => absurd (e3 x hx) hn) (by omega)
  refine ⟨r, by unfold markM; rw [e1]; simp only [h1]; rfl, h2, h3, fun x hx hl => h4 x ((e4 x).2 (.inr ⟨hx, hl⟩)), h5, fun P p1 p2 x hx => h6 P (fun y hy => ?_) p2 x hx⟩
  rcases (e4 y).1 hy with hy | ⟨hy, hl⟩
  · cases hy
  · exact p1 y hy hl
theorem SumOK.few {s : HS} (h : SumOK s) {N : Nat} (hu : s.used ≤ N) : ∀ l : List Int, l.Nodup → (∀ x ∈ l, (s.m x).isSome = true) → l.length ≤ N := fun l hn hl => by
  have h1 : l.length ≤ (liveL s).length := nodup_le hn (fun x hx => (liveL_mem h.1 x).2 (hl x hx))
  have h2 := costL_len s.m (liveL s)
  have := h.2
  omega
end Go.Proofs.Ytkjagcamikkjkaa.P

end

section
namespace Go.Proofs.Ytkjagcamikkjkaa.P
open Go.RowKit Go.Proofs.YtkjagcamikkjkaaW.PrintWords Go.Proofs.YtkjagcamikkjkaaW.PrintLast Go.Proofs.YtkjagcamikkjkaaW.PrintMore
attribute [local go_sem] max2_int min2_int max_two min_two max_three min_three max_four min_four
set_option linter.unusedVariables false
set_option linter.unusedSimpArgs false
def slices_Clone_Field_Field.f (l0 : List S29) : Option (List S29) := if l0.length < 5864062014805 then some l0 else none
set_option maxHeartbeats 800000 in
set_option maxRecDepth 100000 in
theorem slices_Clone_Field_Field.calls (A0 : Option Addr) (c0 : Nat) (l0 : List S29) (r : List S29) (w : World) (hr0 : Kd.C k29 w A0 l0.length l0) (hc0 : l0.length ≤ c0) (h : slices_Clone_Field_Field.f l0 = some r) :
    Calls Try.prog 33 #[.slice A0 l0.length c0] w fun e w' => ∃ v0_ : Value, e = .returned v0_ ∧ Kd.R k29 29 w' w.heap.size (fun _ => True) v0_ r ∧ Below w.heap.size w w' := by
  obtain ⟨hlim, rfl⟩ : l0.length < 5864062014805 ∧ r = l0 := by
    unfold slices_Clone_Field_Field.f at h
    split at h
    · rename_i h9
      exact ⟨h9, (Option.some.inj h).symm⟩
    · cases h
  have hnil := Lib.run_eql_slice_nil (P := Try.prog) (h := Try.underlying30)
  have HR := Aside0.mk hr0
  have HL := Aside0.mk hlim
  cases A0 with
  | none =>
    have e0 : r = [] := by
      rcases Nat.eq_zero_or_pos r.length with h0 | h0
      · exact List.length_eq_zero_iff.1 h0
      · obtain ⟨ad, e, _⟩ := hr0.2.2 h0
        cases e
    have E0 := Aside0.mk e0
    clear h hr0 hlim e0
    go_enter Try.func33, Try.ntmps33
    go_wp2
    go_ret
    refine ⟨_, rfl, ?_, Below.refl _ _⟩
    rw [E0.out]
    exact Kd.R_nil _ _ _ _ _
  | some ad =>
    clear h hr0 hlim
    go_enter Try.func33, Try.ntmps33
    go_wp2_with (first | ((with_reducible refine gate_dst (N := 5) rfl ?_); refine Kd.R_lit k29 _ 29 ?hg (N := 5) ?hd (xs := ([] : List S29)) (inner := []) (ok := fun _ => True) (okp := fun _ => True) ?hr ?hp (fun _ hk => hk) trivial (Below.refl _ _) (Nat.le_refl _) (by simp) ?_; (case hd => rfl); (case hg => rfl); (case hr => first | (go_simp; done) | (go_simp; rfl)); (case hp => exact (Reps.none _ _)); intro v1 w1 ho1 hb1 _ _; have n1 := Aside0.mk ho1; have n2 := Aside0.mk hb1; clear ho1 hb1; obtain ⟨A1, c1, e1⟩ := Kd.R_slice n1.out; subst e1) | ((with_reducible refine gate_builtin (b := .append) (xs := #[.tmp 5, .tmp 6]) rfl ?_); at_builtin; refine Kd.R_append_rows k29 (w0 := w) w.heap.size rfl (.tmp 5) (.tmp 6) 30 29 (.agg #[(.string ⟨#[]⟩), (.int .u8 0)]) 24 rfl Try.underlying30 info29 rfl (by decide) (by omega) (.slice A1 (([] : List S29)).length c1) ([] : List S29) r _ _ _ (fun _ => True) (fun _ => False) rfl rfl ?aO ?aR (fun _ _ h => h) (fun _ h => h.elim) ?aF ?aB ?aS ?aL ?_; (case aR => exact Kd.C_below HR.out n2.out); (case aB => exact n2.out); (case aF => exact (fun _ _ => trivial)); (case aO => exact n1.out); (case aS => exact n2.out.size); (case aL => have h9 := HL.out; simp only [List.length_nil]; omega); intro v2 w2 ho2 hb2 _ _; have n3 := Aside0.mk ho2; have n4 := Aside0.mk hb2; clear ho2 hb2))
    go_ret
    exact ⟨_, rfl, n3.out, n4.out⟩
section
variable {P : Program}
theorem run_append1 (w : World) (base : Nat) (t ty e : TypeId) (i : TypeInfo) (z : Value) (ht : P.underlying t = some (.slice e)) (hi : P.info? e = some i) (hz : i.zero = some z) (hzs : z.cells.size = i.size) (hsz : 0 < i.size)
    (v : Value) (n : Nat) (xs : List Value) (hown : w.ownsRow base e i.size v n xs) (a : Addr) (c : Nat) (news : List Value) (hl : news.length = 1 * i.size) (hnews : ∀ j u, news[j]? = some u → w.cell? (a.add j) = some u) (h1 : ∀ u ∈ news, u.oneCell' = true)
    (h63 : n + 1 ≤ maxLen) (hb1 : i.bytes ≤ 140737488355328) (hfit : Builtin.nextslicecap (n + 1) n * i.bytes ≤ 281474976710656) (hbase : base ≤ w.heap.size) :
    ∃ v' w', (Builtin.append_ #[t, t] ty #[v, .slice (some a) 1 c]).run P w = .ok v' w' ∧ w'.ownsRow base e i.size v' (n + 1) (xs ++ news) ∧ w.grownBy w' v.ownBlock ∧ (v'.ownBlock = v.ownBlock ∨ v'.ownBlock = some w.heap.size) := by
  rcases hown.2 with ⟨rfl, rfl⟩ | ⟨g, cap, cur, rfl, hbg, hg, hnc, hcm, hcs, htake⟩
  · obtain ⟨v', w', h2, h3, h4, _, h5⟩ := run_append_own_at (P := P) w base t ty e i z i.size i.bytes ht hi hz rfl rfl hzs hsz _ 0 xs hown a 1 c news hl hnews h1 (by omega) (by omega) hbase
    exact ⟨v', w', h2, h3, h4, h5⟩
  · have hsmall : n + 1 ≤ 9223372036854775807 := by simp only [maxLen] at h63; omega
    have hlen : (xs ++ news).length = (n + 1) * i.size := by rw [List.length_append, hown.1, hl, Nat.add_mul]
    by_cases hroom : n + 1 ≤ cap
    · have hfit2 : n * i.size + news.length ≤ cur.size := by rw [hl, hcs, ← Nat.add_mul]; exact Nat.mul_le_mul_right _ hroom
      have hr := run_append_room (P := P) w t ty e i ht hi g n cap cur hg a 1 c news hl hnews h1 hroom hfit2
      refine ⟨_, _, hr, ⟨hlen, .inr ⟨g, cap, _, rfl, hbg, setRow_heap w g cur _ e _ hg, hroom, hcm, ?_, ?_⟩⟩, ⟨rfl, rfl, rfl, by simp, fun k _ hk => setRow_other w g k _ (fun e => hk (by simp [Value.ownBlock, e]))⟩, Or.inl rfl⟩
      · simp only [List.size_toArray, List.length_append, List.length_take, List.length_drop, Array.length_toList]
        omega
      · rw [htake, ← hlen]
        exact List.take_left
    · have hcap : cap = n := by omega
      subst hcap
      have holds : ∀ j u, xs[j]? = some u → w.cell? ((⟨g, 0, none⟩ : Addr).add j) = some u := hown.cells (g := g) rfl
      have hr := run_append_grow (P := P) w t ty e i z ht hi hz ⟨g, 0, none⟩ cap cap xs hown.1 holds a 1 c news hl hnews (by omega) (by omega) hfit
      have hge := grownCap_ge w (cap + 1) cap e
      have hcm2 : grownCap w (cap + 1) cap e ≤ maxLen := grownCap_le_maxLen w (cap + 1) cap e h63
      refine ⟨_, _, hr, ⟨hlen, .inr ⟨w.heap.size, _, _, rfl, hbase, heap_alloc_new w.drew _, hge, hcm2, ?_, ?_⟩⟩, ⟨rfl, rfl, rfl, by simp, fun k hk _ => heap_alloc_old w.drew _ hk⟩, Or.inr rfl⟩
      · simp only [Array.size_append, List.size_toArray, size_zeroCells, hzs, hown.1, hl, ← Nat.add_mul]
        congr 1
        omega
      · simp only [Array.toList_append, List.append_assoc]
        rw [← List.append_assoc, ← hlen]
        exact List.take_left
section
variable {ops : Array Oper} {rest : List Oper} {o : Oper} {a : Act} {Q : Exit → Act → World → Prop}
theorem R_append1_wp {K : Act → World → Prop} {α : Type} (d : Kd α) {w0 W : World} (base : Nat) (hgd : o.guard = none) (s x : Operand) (t e : TypeId) (z : Value) (bytes : Nat)
    (ho : o.op = .call { callee := .builtin .append, args := #[s, x], argTypes := #[t, t] })
    (ht : P.underlying t = some (.slice e)) (hinfo : (P.info? e).map (fun i => (i.zero, i.size, i.bytes)) = some (some z, d.sz, bytes)) (hz : z.cells.size = d.sz) (hs0 : 0 < d.sz) (hb1 : bytes ≤ 140737488355328)
    (v : Value) (xs : List α) (p : α) (cs : List Value) (ok okp : Nat → Prop) (hs : a.eval s = v) (hx : a.eval x = .slice (some ⟨W.heap.size, 0, none⟩) 1 1) (hp : d.M W base okp p cs) (hokp : ∀ k, okp k → ok k ∧ some k ≠ v.ownBlock) (hfresh : ∀ k, W.heap.size ≤ k → ok k)
    (HO : d.R e W base ok v xs) (HB : Below base w0 W) (hbase : base ≤ W.heap.size) (hl : xs.length + 1 ≤ maxLen) (hfit : Builtin.nextslicecap (xs.length + 1) xs.length * bytes ≤ 281474976710656)
    (h : ∀ v1 w1, d.R e w1 base ok v1 (xs ++ [p]) → Below base w0 w1 → W.grownBy w1 v.ownBlock → (v1.ownBlock = v.ownBlock ∨ ∃ b, v1.ownBlock = some b ∧ W.heap.size ≤ b) → K (a.put o.dst v1) w1) :
    Oper.wp P o a (W.alloc (.cells cs.toArray e)) K Q := by
  obtain ⟨h0, inner, hown, hr⟩ := HO
  obtain ⟨i0, hi, hzz⟩ := Option.map_eq_some_iff.1 hinfo
  simp only [Prod.mk.injEq] at hzz
  obtain ⟨hz0, hz1, hz2⟩ := hzz
  have hcl : cs.length = d.sz := d.K_len (d.K_of_M hp)
  rw [← hz1] at hown hz hs0 hcl
  obtain ⟨v1, w1, hrun, hown1, hg, hat⟩ := run_append1 (P := P) (W.alloc (.cells cs.toArray e)) base t o.type e i0 z ht hi hz0 hz hs0 v xs.length inner (hown.alloc _) ⟨W.heap.size, 0, none⟩ 1 cs (by rw [hcl]; simp)
    (by simpa using World.news_of_block (cs := cs.toArray) (t := e) (fr := (0, 0)) (heap_alloc_new W (.cells cs.toArray e))) (d.K_one (d.K_of_M hp)) hl (by rw [hz2]; exact hb1) (by rw [hz2]; exact hfit) (by simp; omega)
  unfold Oper.wp execOp
  simp only [ho, resolve, invoke, builtin, Sem.run_bind, Sem.run_pure, Result.andThen_ok, List.map_toArray, List.map_cons, List.map_nil, hs, hx, hrun]
  have hg2 : W.grownBy w1 v.ownBlock := World.grownBy.trans (World.grownBy_alloc W _ _) hg
  have hat2 : v1.ownBlock = v.ownBlock ∨ ∃ b, v1.ownBlock = some b ∧ W.heap.size ≤ b := by
    rcases hat with hat | hat
    · exact .inl hat
    · exact .inr ⟨_, hat, by simp⟩
  rw [hz1] at hown1 hown
  exact (h v1 w1 (Kd.R_appended h0 hr hp hokp hfresh hown1 hg2 hat2) ((HB.alloc hbase _).grown hg (by simp; omega) (own_base hown)) hg2 hat2)
end
end
theorem cls_M {W : World} {base : Nat} {ok : Nat → Prop} {x : S32} {v : Value} (h : Kd.R k29 29 W base ok v x.f2) : Kd.M k32 W base ok x [.string x.f0, .int .i64 x.f1, v] :=
  ⟨[.string x.f0], [.int .i64 x.f1, v], rfl, rfl, [.int .i64 x.f1], [v], rfl, rfl, v, rfl, h⟩
theorem cls_fits {n : Nat} (h : n ≤ 4398046511104) : Builtin.nextslicecap (n + 1) n * 48 ≤ 281474976710656 := by
  unfold Builtin.nextslicecap
  split
  · omega
  · split
    · omega
    · have h1 : ∀ r c : Nat, n + 1 ≤ c → Builtin.growBy (n + 1) r c = c := fun r c hc => by
        cases r with
        | zero => rfl
        | succ r => unfold Builtin.growBy; rw [if_pos hc]
      unfold Builtin.growBy
      rw [if_neg (by omega), h1 3 _ (by omega)]
      omega
theorem rd_mem_c {l : List S32} {j : Nat} (h : j < l.length) : rd_T32 l (j : Int) ∈ l := by
  unfold rd_T32
  rw [Int.toNat_natCast, List.getD_eq_getElem?_getD, List.getElem?_eq_getElem h]
  exact List.getElem_mem h
set_option maxHeartbeats 1600000 in
set_option maxRecDepth 100000 in
theorem hp_New (k : Nat) (A0 : Option Addr) (c0 : Nat) (l0 : List S32) (room : Int) (r1 r2 : Int) (w : World) (hr0 : Kd.C k32 w A0 l0.length l0) (hc0 : l0.length ≤ c0) (hl : l0.length < 4398046511104) (hfl : ∀ c ∈ l0, c.f2.length < 5864062014805) (h : types_Check.f k l0 = some (r1, r2)) :
    Calls Try.prog 9 #[.slice A0 l0.length c0, .int .i64 room] w fun e w' => ((room < 0 ∨ room > 4096) ∧ e = .returned (.tuple #[.pointer none, .int .i64 1]) ∧ Below w.heap.size w w') ∨ (0 ≤ room ∧ room ≤ 4096 ∧ r2 ≠ 0 ∧ e = .returned (.tuple #[.pointer none, .int .i64 r2]) ∧ Below w.heap.size w w') ∨ (0 ≤ room ∧ room ≤ 4096 ∧ r2 = 0 ∧ ∃ (hb B : Nat) (vc : Value), e = .returned (.tuple #[.pointer (some ⟨hb, 0, none⟩), .int .i64 0]) ∧ HeapAt w ⟨hb, B, vc, l0, room, 0, 0, fun _ => none, fun _ => False, w⟩ w') := by
  have HR := Aside0.mk hr0
  have HC := Aside0.mk hc0
  have HL := Aside0.mk hl
  have HF := Aside0.mk hfl
  have HK := Aside0.mk h
  clear hr0 hc0 hl hfl h
  by_cases ca : room < 0
  · have d1 : decide (room < 0) = true := decide_eq_true ca
    have HCA := Aside0.mk ca
    clear ca
    go_enter Try.func9, Try.ntmps9
    go_wp2
    go_ret2
    exact Or.inl ⟨Or.inl HCA.out, rfl, Below.refl _ _⟩
  have d1 : decide (room < 0) = false := decide_eq_false ca
  have h0 := Aside0.mk (show 0 ≤ room by omega)
  clear ca
  by_cases cb : room > 4096
  · have d2 : decide (room > 4096) = true := decide_eq_true cb
    have d2b : decide (4096 < room) = true := decide_eq_true cb
    have HCB := Aside0.mk cb
    clear cb
    go_enter Try.func9, Try.ntmps9
    go_wp2
    go_ret2
    exact Or.inl ⟨Or.inr HCB.out, rfl, Below.refl _ _⟩
  have d2 : decide (room > 4096) = false := decide_eq_false cb
  have d2b : decide (4096 < room) = false := decide_eq_false cb
  have h1 := Aside0.mk (show room ≤ 4096 by omega)
  clear cb
  by_cases cr : r2 = 0
  · subst cr
    go_enter Try.func9, Try.ntmps9
    go_wp2_with fail
    refine (types_Check.calls k A0 c0 l0 r1 0 w HR.out HC.out HK.out).mono ?_
    rintro e w1 ⟨rfl, hb⟩
    have HBW := Aside0.mk hb
    clear hb
    go_wp2_with ((with_reducible refine gate_dst (N := 26) rfl ?_); refine pm_make rfl rfl ?_; intro hM; have HM := Aside0.mk hM; have hb9 := below_alloc (Below.refl w1.heap.size w1) (.map #[] 0); have HX := Aside0.mk ((Rws.nil w).step HBW.out); replace HX := Aside0.mk (HX.out.step hb9); have HSZ := Aside0.mk HBW.out.size; have HBB := Aside0.mk (Nat.le_refl w1.heap.size); clear hM hb9; obtain ⟨B, hB⟩ : ∃ B, B = w1.heap.size := ⟨_, rfl⟩; have HBE := Aside0.mk hB; rw [← hB] at HM ⊢; clear hB; generalize w1.alloc (.map #[] 0) = w5 at HX HM ⊢)
    have hX := HX.out.add 50 #[.slice none 0 0, .int .i64 room, .int .i64 0, .int .i64 0, .map (some B)]
    have hb9 := below_alloc (Below.refl w5.heap.size w5) (.cells #[.slice none 0 0, .int .i64 room, .int .i64 0, .int .i64 0, .map (some B)] 50 (0, 0))
    replace HM := Aside0.mk (HM.out.block (hb9.block _ HM.out.lt))
    have HBL : Aside0 (w.heap.size ≤ B) := ⟨by have h1 := HBE.out; have h2 := HSZ.out; omega⟩
    clear hb9 HX HBE HBB
    obtain ⟨hb, hhb⟩ : ∃ hb, hb = w5.heap.size := ⟨_, rfl⟩
    rw [← hhb] at hX ⊢
    clear hhb
    generalize w5.alloc (.cells #[.slice none 0 0, .int .i64 room, .int .i64 0, .int .i64 0, .map (some B)] 50 (0, 0)) = w6 at hX HM ⊢
    have HX := Aside0.mk hX
    clear hX
    go_loopw [31] (fun v31 wr => ∃ (j : Nat) (v : Value), v31 = .int .i64 (j : Int) ∧ j ≤ l0.length ∧ Aside0 (Rws w [(hb, 50, #[v, .int .i64 room, .int .i64 0, .int .i64 0, .map (some B)])] wr) ∧ Aside0 (PMap wr B 0 (fun _ => none)) ∧ Aside0 (Kd.R k32 32 wr w.heap.size (fun _ => True) v (l0.take j))) (fun v31 _ => ((l0.length : Int) - intOf v31).toNat)
    case atStart => exact ⟨0, _, rfl, Nat.zero_le _, HX, HM, ⟨Kd.R_nil _ _ _ _ _⟩⟩
    case round =>
      rename_i wr
      clear HX HM
      obtain ⟨j, v, rfl, hj, HX, HM, HV⟩ := hrel
      have HBW2 := Aside0.mk HX.out.below
      by_cases c1 : j < l0.length
      · have c1b : decide ((j : Int) < (l0.length : Int)) = true := decide_eq_true (by omega)
        have c1c : decide (j < l0.length) = true := decide_eq_true c1
        have p5 : (0 ≤ (j : Int)) = True := eq_true (by omega)
        have p6 : ((j : Int) < (l0.length : Int)) = True := eq_true (by omega)
        have HJ := Aside0.mk c1
        have HW := Aside0.mk (wrap_h c1 (by have := HL.out; omega))
        obtain ⟨x, hx⟩ : ∃ x, x = rd_T32 l0 (j : Int) := ⟨_, rfl⟩
        obtain ⟨ad, A2, c2, e1, hx0, hx1, hx2, hx3, hx4⟩ := at_T32 (Kd.C_below HR.out HBW2.out) (j : Int) (by omega) (by omega)
        cases e1
        rw [← hx, Int.toNat_natCast] at hx0 hx1 hx2
        rw [← hx] at hx3 hx4
        have HF4 := Aside0.mk hx4
        have HF3 := Aside0.mk hx3
        have HXX := Aside0.mk hx
        have HFL := Aside0.mk (HF.out x (by rw [hx]; exact rd_mem_c c1))
        clear c1 hx hx4 hx3
        go_wp2_with fail
        have hX := HX.out.add 32 #[.string x.f0, .int .i64 x.f1, .slice A2 x.f2.length c2]
        have hb9 := below_alloc (Below.refl wr.heap.size wr) (.cells #[.string x.f0, .int .i64 x.f1, .slice A2 x.f2.length c2] 32 (0, 0))
        have hs9 : wr.heap.size < (wr.alloc (.cells #[.string x.f0, .int .i64 x.f1, .slice A2 x.f2.length c2] 32 (0, 0))).heap.size := by simp
        replace HM := Aside0.mk (HM.out.block (hb9.block _ HM.out.lt))
        replace HV := Aside0.mk (Kd.R_mono (Kd.R_below (Kd.R_bound HV.out) hb9) (fun k hk => (show k < wr.heap.size from hk.2.2.1)))
        replace HF4 := Aside0.mk (Kd.C_below HF4.out hb9)
        clear HX hb9 hx0 hx1 hx2
        obtain ⟨b10, hb10⟩ : ∃ b10, b10 = wr.heap.size := ⟨_, rfl⟩
        rw [← hb10] at hX hs9 HV ⊢
        have HB10 := Aside0.mk (show w.heap.size ≤ b10 from by rw [hb10]; exact HBW2.out.size)
        clear hb10
        generalize wr.alloc (.cells #[.string x.f0, .int .i64 x.f1, .slice A2 x.f2.length c2] 32 (0, 0)) = w10 at hX hs9 HM HV HF4 ⊢
        have HX := Aside0.mk hX
        have HS9 := Aside0.mk hs9
        clear hX hs9
        refine (slices_Clone_Field_Field.calls A2 c2 x.f2 x.f2 _ HF4.out HF3.out (by unfold slices_Clone_Field_Field.f; rw [if_pos HFL.out])).mono ?_
        rintro e w11 ⟨v37, rfl, hV, hbb⟩
        replace HX := Aside0.mk (HX.out.step hbb)
        replace HM := Aside0.mk (HM.out.block (hbb.block _ HM.out.lt))
        replace HV := Aside0.mk (Kd.R_below HV.out hbb)
        have HS11 := Aside0.mk hbb.size
        obtain ⟨A9, c9, e9⟩ := Kd.R_slice hV
        subst e9
        have HC9 := Aside0.mk (Kd.R_mono (Kd.R_bound hV) (fun k hk => (show w10.heap.size ≤ k from hk.2.1)))
        clear hV hbb
        go_wp2_with ((with_reducible refine gate_store (t := 30) (p := 38) rfl ?_); refine rw_cell rfl 30 rfl (i := 2) rfl (u := .slice A9 x.f2.length c9) rfl rfl [] HX.out (by show (2 : Nat) < 3; decide) (by kernel_rfl) ?_; intro w12 hX hk9; replace HM := Aside0.mk (HM.out.block (hk9.2 _ HM.out.lt (HM.out.ne (HX.out.mem List.mem_cons_self)))); replace HV := Aside0.mk (Kd.R_step HV.out (fun k ho hk => hk9.2 k hk (Nat.ne_of_lt ho))); replace HC9 := Aside0.mk (Kd.R_step HC9.out (fun k ho hk => hk9.2 k hk (by have := HS9.out; omega))); replace HX : Aside0 (Rws w [(b10, 32, #[.string x.f0, .int .i64 x.f1, .slice A9 x.f2.length c9]), (hb, 50, #[v, .int .i64 room, .int .i64 0, .int .i64 0, .map (some B)])] w12) := ⟨hX⟩; clear hX hk9)
        (try simp only [Act.put, List.setIfInBounds_toArray, List.set_cons_zero, List.set_cons_succ])
        refine wp_region_held_drew (S := fun w' => w'.heap[b10]? = some (.cells #[.string x.f0, .int .i64 x.f1, .slice A9 x.f2.length c9] 32 (0, 0))) (by kernel_rfl) ?_ (fun hHeld => ?_)
        · exact HX.out.mem List.mem_cons_self
        replace HX : Aside0 (Rws w [(b10, 32, #[.string x.f0, .int .i64 x.f1, .slice A9 x.f2.length c9]), (hb, 50, #[v, .int .i64 room, .int .i64 0, .int .i64 0, .map (some B)])] w12.drew) := ⟨HX.out.step (pw_below_drewN (Below.refl _ _) 1)⟩
        replace HM : Aside0 (PMap w12.drew B 0 fun _ => none) := ⟨HM.out⟩
        replace HV := Aside0.mk (Kd.R_step (w1 := w12.drew) HV.out (fun _ _ _ => rfl))
        replace HC9 := Aside0.mk (Kd.R_step (w1 := w12.drew) HC9.out (fun _ _ _ => rfl))
        refine take_dst (i := 0) (v := ?_) 39 rfl rfl (by kernel_rfl) (by kernel_rfl) (by kernel_rfl) (fun _ _ _ h => h) (Or.inl ⟨by rfl, ?_⟩) (by assumption) ?_
        rotate_left
        · intro w hSw
          have g0 := blk_cell hSw 0
          have g1 := blk_cell hSw 1
          have g2 := blk_cell hSw 2
          go_simp
          try with_reducible rfl
        (try simp only [Act.put, List.setIfInBounds_toArray, List.set_cons_zero, List.set_cons_succ])
        refine take_dst (i := 1) (v := ?_) 40 rfl rfl (by kernel_rfl) (by kernel_rfl) (by kernel_rfl) (fun _ _ _ h => h) (Or.inl ⟨by rfl, ?_⟩) (by assumption) ?_
        rotate_left
        · intro w hSw
          have g0 := blk_cell hSw 0
          have g1 := blk_cell hSw 1
          have g2 := blk_cell hSw 2
          go_simp
          try with_reducible rfl
        (try simp only [Act.put, List.setIfInBounds_toArray, List.set_cons_zero, List.set_cons_succ])
        refine take_dst (i := 2) (v := ?_) 41 rfl rfl (by kernel_rfl) (by kernel_rfl) (by kernel_rfl) (fun _ _ _ h => h) (Or.inl ⟨by rfl, ?_⟩) (by assumption) ?_
        rotate_left
        · intro w hSw
          have g0 := blk_cell hSw 0
          have g1 := blk_cell hSw 1
          have g2 := blk_cell hSw 2
          go_simp
          try with_reducible rfl
        (try simp only [Act.put, List.setIfInBounds_toArray, List.set_cons_zero, List.set_cons_succ])
        refine take_dst (i := 3) (v := ?_) 42 rfl rfl (by kernel_rfl) (by kernel_rfl) (by kernel_rfl) (fun _ _ _ h => h) (Or.inl ⟨by rfl, ?_⟩) (by assumption) ?_
        rotate_left
        · intro w hSw
          have g0 := blk_cell hSw 0
          have g1 := blk_cell hSw 1
          have g2 := blk_cell hSw 2
          go_simp
          try with_reducible rfl
        (try simp only [Act.put, List.setIfInBounds_toArray, List.set_cons_zero, List.set_cons_succ])
        refine take_dst (i := 5) (v := ?_) 44 rfl rfl (by kernel_rfl) (by kernel_rfl) (by kernel_rfl) (fun _ _ _ h => h) (Or.inl ⟨by rfl, ?_⟩) (by assumption) ?_
        rotate_left
        · intro w hSw
          have g0 := blk_cell hSw 0
          have g1 := blk_cell hSw 1
          have g2 := blk_cell hSw 2
          go_simp
          try with_reducible rfl
        (try simp only [Act.put, List.setIfInBounds_toArray, List.set_cons_zero, List.set_cons_succ])
        generalize w12.drew = w13 at HX HM HV HC9 hHeld ⊢
        refine wpAnyH_ready (rs := [4, 6]) (by kernel_rfl) (by simp) ?_
        refine AllReadyH.cons rfl (fun K hK => ?_) (AllReadyH.cons rfl (fun K hK => ?_) AllReadyH.nil)
        · have f3 := blk_cell (HX.out.mem (List.mem_cons_of_mem _ List.mem_cons_self)) 0
          simp only [List.getElem?_toArray, List.getElem?_cons_zero, List.getElem?_cons_succ] at f3
          go_simp
          refine hK.out _ _ hHeld (fun hHeld => ?_)
          clear hK K f3
          (try simp only [Act.put, List.setIfInBounds_toArray, List.set_cons_zero, List.set_cons_succ])
          refine wpAnyH_ready (rs := [6]) (by kernel_rfl) (by simp) ?_
          refine AllReadyH.cons rfl (fun K hK => ?_) AllReadyH.nil
          go_simp
          have hb9 := below_alloc (Below.refl w13.heap.size w13) (.cells #[.string x.f0, .int .i64 x.f1, .slice A9 x.f2.length c9] 32 (0, 0))
          refine hK.out _ _ (blk_below hHeld hb9) (fun hHeld => ?_)
          clear hb9 hK K
          (try simp only [Act.put, List.setIfInBounds_toArray, List.set_cons_zero, List.set_cons_succ])
          refine wpAnyH_ready (rs := [7]) (by kernel_rfl) (by simp) ?_
          refine AllReadyH.cons rfl (fun K hK => ?_) AllReadyH.nil
          refine Eq.mpr (if_pos (by rfl)) ?_
          have HOWN := Aside0.mk HV.out.1
          have HB13 := Aside0.mk HX.out.below
          refine R_append1_wp k32 (w0 := w) w.heap.size rfl (.tmp 43) (.tmp 45) 33 32 (.agg #[.string ByteArray.empty, .int .i64 0, .slice none 0 0]) 48 rfl Try.underlying33 (by kernel_rfl) rfl (by show (0 : Nat) < 3; decide) (by decide) v (l0.take j) x [.string x.f0, .int .i64 x.f1, .slice A9 x.f2.length c9] (fun _ => True) (fun k => w10.heap.size ≤ k) rfl rfl (cls_M (Kd.R_lower HC9.out (by have := HS9.out; have := HB10.out; omega))) (fun k hk => ⟨trivial, fun e => by have h9 := HOWN.out k e.symm; have := HS9.out; omega⟩) (fun _ _ => trivial) (Kd.R_mono HV.out (fun _ _ => trivial)) HB13.out HB13.out.size (by have := HL.out; have := HJ.out; rw [List.length_take]; unfold maxLen; omega) (cls_fits (by have := HL.out; have := HJ.out; rw [List.length_take]; omega)) ?_
          intro v1 w14 hR hBl hg hat
          have hx1 := blk_grown (HX.out.mem List.mem_cons_self) hg (fun e => by have := HOWN.out b10 e.symm; omega)
          have hx2 := blk_grown (HX.out.mem (List.mem_cons_of_mem _ List.mem_cons_self)) hg (fun e => by
            obtain ⟨_, _, _, q, hq, cells, hc⟩ := (Kd.R_bound HV.out).1 hb e.symm
            have h9 := HX.out.mem (List.mem_cons_of_mem _ List.mem_cons_self)
            rw [h9] at hc
            injection hc with hc
            injection hc with _ hc
            subst hc
            revert hq
            decide)
          refine hK.out _ _ hx1 (fun hHeld => ?_)
          have HP := Aside0.mk (HM.out.block (hg.block _ HM.out.lt (fun e => by
            obtain ⟨_, _, _, q, hq, cells, hc⟩ := (Kd.R_bound HV.out).1 B e.symm
            exact HM.out.ne hc rfl)))
          have HR1 := Aside0.mk hR
          have HBL1 := Aside0.mk hBl
          have HHB := Aside0.mk (HX.out.lies _ (List.mem_cons_of_mem _ List.mem_cons_self)).2
          have HOV := Aside0.mk hat
          have HX1 : Aside0 (Rws w [(hb, 50, #[v, .int .i64 room, .int .i64 0, .int .i64 0, .map (some B)])] w14) := ⟨⟨fun p hp => by rw [List.mem_singleton.1 hp]; exact ⟨hx2, HHB.out⟩, by simp, hBl⟩⟩
          have HNE := Aside0.mk (show ¬ b10 = hb from fun e => by rw [e] at hx1; rw [hx2] at hx1; injection hx1 with h9; injection h9 with _ h9; revert h9; decide)
          obtain ⟨A14, c14, e14⟩ := Kd.R_slice HR1.out
          subst e14
          clear hR hBl hg hat hK K HX hx1 hx2
          (try simp only [Act.put, List.setIfInBounds_toArray, List.set_cons_zero, List.set_cons_succ])
          refine take_dst (i := 8) (v := ?_) 47 rfl rfl (by kernel_rfl) (by kernel_rfl) (by kernel_rfl) (fun _ _ _ h => h) (Or.inl ⟨by rfl, ?_⟩) (by assumption) ?_
          rotate_left
          · intro w hSw
            go_simp
            try with_reducible rfl
          (try simp only [Act.put, List.setIfInBounds_toArray, List.set_cons_zero, List.set_cons_succ])
          refine take_dst (i := 9) (v := ?_) 48 rfl rfl (by kernel_rfl) (by kernel_rfl) (by kernel_rfl) (fun _ _ _ h => h) (Or.inl ⟨by rfl, ?_⟩) (by assumption) ?_
          rotate_left
          · intro w hSw
            go_simp
            try with_reducible rfl
          (try simp only [Act.put, List.setIfInBounds_toArray, List.set_cons_zero, List.set_cons_succ])
          refine wpAnyH_ready (rs := [10]) (by kernel_rfl) (by simp) ?_
          refine AllReadyH.cons rfl (fun K hK => ?_) AllReadyH.nil
          refine Eq.mpr (if_pos (by rfl)) ?_
          refine rw_cell_wp 33 rfl (g := hb) (i := 0) rfl (u := .slice A14 (l0.take j ++ [x]).length c14) rfl rfl [] HX1.out (by show (0 : Nat) < 5; decide) (by kernel_rfl) ?_
          intro w15 hX15 hk15
          have HX2 : Aside0 (Rws w [(hb, 50, #[.slice A14 (l0.take j ++ [x]).length c14, .int .i64 room, .int .i64 0, .int .i64 0, .map (some B)])] w15) := ⟨hX15⟩
          have HP2 := Aside0.mk (HP.out.block (hk15.2 _ HP.out.lt (HP.out.ne (HX1.out.mem List.mem_cons_self))))
          refine hK.out _ _ (blk_kept hHeld hk15 HNE.out) (fun hHeld => ?_)
          clear hK K
          refine wpAnyH_done (by kernel_rfl) ?_ _
          (try simp only [Act.put, List.setIfInBounds_toArray, List.set_cons_zero, List.set_cons_succ])
          have HTK := Aside0.mk (show l0.take (j + 1) = l0.take j ++ [x] by rw [List.take_add_one, List.getElem?_eq_getElem HJ.out, HXX.out]; unfold rd_T32; rw [Int.toNat_natCast, List.getD_eq_getElem?_getD, List.getElem?_eq_getElem HJ.out]; rfl)
          have HR2 := Aside0.mk (Kd.R_mono (Kd.R_step (Kd.R_bound HR1.out) (fun k ho hk => hk15.2 k hk (fun e => by obtain ⟨_, _, _, q, hq, cells, hc⟩ := ho; rw [e, HX1.out.mem List.mem_cons_self] at hc; injection hc with hc; injection hc with _ hc; subst hc; revert hq; decide))) (fun _ _ => trivial))
          go_wp2
          go_roundw
          case rel => exact ⟨j + 1, .slice A14 (l0.take j ++ [x]).length c14, (by rw [HW.out]), HJ.out, HX2, HP2, ⟨(by rw [HTK.out]; exact HR2.out)⟩⟩
          case measure => exact meas_h HJ.out HW.out
        · go_simp
          have hb9 := below_alloc (Below.refl w13.heap.size w13) (.cells #[.string x.f0, .int .i64 x.f1, .slice A9 x.f2.length c9] 32 (0, 0))
          refine hK.out _ _ (blk_below hHeld hb9) (fun hHeld => ?_)
          have f3 := blk_cell (blk_below (HX.out.mem (List.mem_cons_of_mem _ List.mem_cons_self)) hb9) 0
          simp only [List.getElem?_toArray, List.getElem?_cons_zero, List.getElem?_cons_succ] at f3
          clear hb9 hK K
          (try simp only [Act.put, List.setIfInBounds_toArray, List.set_cons_zero, List.set_cons_succ])
          refine wpAnyH_ready (rs := [4]) (by kernel_rfl) (by simp) ?_
          refine AllReadyH.cons rfl (fun K hK => ?_) AllReadyH.nil
          go_simp
          refine hK.out _ _ hHeld (fun hHeld => ?_)
          clear f3 hK K
          (try simp only [Act.put, List.setIfInBounds_toArray, List.set_cons_zero, List.set_cons_succ])
          refine wpAnyH_ready (rs := [7]) (by kernel_rfl) (by simp) ?_
          refine AllReadyH.cons rfl (fun K hK => ?_) AllReadyH.nil
          refine Eq.mpr (if_pos (by rfl)) ?_
          have HOWN := Aside0.mk HV.out.1
          have HB13 := Aside0.mk HX.out.below
          refine R_append1_wp k32 (w0 := w) w.heap.size rfl (.tmp 43) (.tmp 45) 33 32 (.agg #[.string ByteArray.empty, .int .i64 0, .slice none 0 0]) 48 rfl Try.underlying33 (by kernel_rfl) rfl (by show (0 : Nat) < 3; decide) (by decide) v (l0.take j) x [.string x.f0, .int .i64 x.f1, .slice A9 x.f2.length c9] (fun _ => True) (fun k => w10.heap.size ≤ k) rfl rfl (cls_M (Kd.R_lower HC9.out (by have := HS9.out; have := HB10.out; omega))) (fun k hk => ⟨trivial, fun e => by have h9 := HOWN.out k e.symm; have := HS9.out; omega⟩) (fun _ _ => trivial) (Kd.R_mono HV.out (fun _ _ => trivial)) HB13.out HB13.out.size (by have := HL.out; have := HJ.out; rw [List.length_take]; unfold maxLen; omega) (cls_fits (by have := HL.out; have := HJ.out; rw [List.length_take]; omega)) ?_
          intro v1 w14 hR hBl hg hat
          have hx1 := blk_grown (HX.out.mem List.mem_cons_self) hg (fun e => by have := HOWN.out b10 e.symm; omega)
          have hx2 := blk_grown (HX.out.mem (List.mem_cons_of_mem _ List.mem_cons_self)) hg (fun e => by
            obtain ⟨_, _, _, q, hq, cells, hc⟩ := (Kd.R_bound HV.out).1 hb e.symm
            have h9 := HX.out.mem (List.mem_cons_of_mem _ List.mem_cons_self)
            rw [h9] at hc
            injection hc with hc
            injection hc with _ hc
            subst hc
            revert hq
            decide)
          refine hK.out _ _ hx1 (fun hHeld => ?_)
          have HP := Aside0.mk (HM.out.block (hg.block _ HM.out.lt (fun e => by
            obtain ⟨_, _, _, q, hq, cells, hc⟩ := (Kd.R_bound HV.out).1 B e.symm
            exact HM.out.ne hc rfl)))
          have HR1 := Aside0.mk hR
          have HBL1 := Aside0.mk hBl
          have HHB := Aside0.mk (HX.out.lies _ (List.mem_cons_of_mem _ List.mem_cons_self)).2
          have HOV := Aside0.mk hat
          have HX1 : Aside0 (Rws w [(hb, 50, #[v, .int .i64 room, .int .i64 0, .int .i64 0, .map (some B)])] w14) := ⟨⟨fun p hp => by rw [List.mem_singleton.1 hp]; exact ⟨hx2, HHB.out⟩, by simp, hBl⟩⟩
          have HNE := Aside0.mk (show ¬ b10 = hb from fun e => by rw [e] at hx1; rw [hx2] at hx1; injection hx1 with h9; injection h9 with _ h9; revert h9; decide)
          obtain ⟨A14, c14, e14⟩ := Kd.R_slice HR1.out
          subst e14
          clear hR hBl hg hat hK K HX hx1 hx2
          (try simp only [Act.put, List.setIfInBounds_toArray, List.set_cons_zero, List.set_cons_succ])
          refine take_dst (i := 8) (v := ?_) 47 rfl rfl (by kernel_rfl) (by kernel_rfl) (by kernel_rfl) (fun _ _ _ h => h) (Or.inl ⟨by rfl, ?_⟩) (by assumption) ?_
          rotate_left
          · intro w hSw
            go_simp
            try with_reducible rfl
          (try simp only [Act.put, List.setIfInBounds_toArray, List.set_cons_zero, List.set_cons_succ])
          refine take_dst (i := 9) (v := ?_) 48 rfl rfl (by kernel_rfl) (by kernel_rfl) (by kernel_rfl) (fun _ _ _ h => h) (Or.inl ⟨by rfl, ?_⟩) (by assumption) ?_
          rotate_left
          · intro w hSw
            go_simp
            try with_reducible rfl
          (try simp only [Act.put, List.setIfInBounds_toArray, List.set_cons_zero, List.set_cons_succ])
          refine wpAnyH_ready (rs := [10]) (by kernel_rfl) (by simp) ?_
          refine AllReadyH.cons rfl (fun K hK => ?_) AllReadyH.nil
          refine Eq.mpr (if_pos (by rfl)) ?_
          refine rw_cell_wp 33 rfl (g := hb) (i := 0) rfl (u := .slice A14 (l0.take j ++ [x]).length c14) rfl rfl [] HX1.out (by show (0 : Nat) < 5; decide) (by kernel_rfl) ?_
          intro w15 hX15 hk15
          have HX2 : Aside0 (Rws w [(hb, 50, #[.slice A14 (l0.take j ++ [x]).length c14, .int .i64 room, .int .i64 0, .int .i64 0, .map (some B)])] w15) := ⟨hX15⟩
          have HP2 := Aside0.mk (HP.out.block (hk15.2 _ HP.out.lt (HP.out.ne (HX1.out.mem List.mem_cons_self))))
          refine hK.out _ _ (blk_kept hHeld hk15 HNE.out) (fun hHeld => ?_)
          clear hK K
          refine wpAnyH_done (by kernel_rfl) ?_ _
          (try simp only [Act.put, List.setIfInBounds_toArray, List.set_cons_zero, List.set_cons_succ])
          have HTK := Aside0.mk (show l0.take (j + 1) = l0.take j ++ [x] by rw [List.take_add_one, List.getElem?_eq_getElem HJ.out, HXX.out]; unfold rd_T32; rw [Int.toNat_natCast, List.getD_eq_getElem?_getD, List.getElem?_eq_getElem HJ.out]; rfl)
          have HR2 := Aside0.mk (Kd.R_mono (Kd.R_step (Kd.R_bound HR1.out) (fun k ho hk => hk15.2 k hk (fun e => by obtain ⟨_, _, _, q, hq, cells, hc⟩ := ho; rw [e, HX1.out.mem List.mem_cons_self] at hc; injection hc with hc; injection hc with _ hc; subst hc; revert hq; decide))) (fun _ _ => trivial))
          go_wp2
          go_roundw
          case rel => exact ⟨j + 1, .slice A14 (l0.take j ++ [x]).length c14, (by rw [HW.out]), HJ.out, HX2, HP2, ⟨(by rw [HTK.out]; exact HR2.out)⟩⟩
          case measure => exact meas_h HJ.out HW.out
      · have c1b : decide ((j : Int) < (l0.length : Int)) = false := decide_eq_false (by omega)
        have c1c : decide (j < l0.length) = false := decide_eq_false c1
        have hv := HV.out
        rw [List.take_of_length_le (by omega)] at hv
        have HV2 := Aside0.mk hv
        clear hv c1 hj HV
        go_wp2_with fail
        go_ret2
        exact Or.inr (Or.inr ⟨h0.out, h1.out, trivial, hb, B, v, rfl, fun _ => 0, fun _ => 0, ⟨HX.out.mem List.mem_cons_self, HM.out, fun _ _ h => (by cases h), fun _ _ _ _ h => (by cases h), ⟨(HX.out.lies _ List.mem_cons_self).2, HBL.out, fun _ _ h => (by cases h)⟩, Kd.R_mono HV2.out (fun _ _ h => h), fun _ _ h => (by cases h), ⟨Int.le_refl 0, h0.out, h1.out⟩, HBW2.out, ⟨HBW2.out.size, fun _ h => h.elim⟩, fun _ h => h.elim⟩⟩)
  · have HCR := Aside0.mk cr
    have d3 : (r2 != 0) = true := by rw [bne_iff_ne]; exact cr
    have d4 : (r2 == 0) = false := by rw [beq_eq_false_iff_ne]; exact cr
    clear cr
    go_enter Try.func9, Try.ntmps9
    go_wp2_with fail
    refine (types_Check.calls k A0 c0 l0 r1 r2 w HR.out HC.out HK.out).mono ?_
    rintro e w1 ⟨rfl, hb⟩
    have HBW := Aside0.mk hb
    clear hb
    go_wp2
    go_ret2
    exact Or.inr (Or.inl ⟨h0.out, h1.out, HCR.out, rfl, HBW.out⟩)
end Go.Proofs.Ytkjagcamikkjkaa.P

end

section
namespace Go.Proofs.Ytkjagcamikkjkaa.P
open Go.RowKit Go.Proofs.YtkjagcamikkjkaaW.PrintWords Go.Proofs.YtkjagcamikkjkaaW.PrintLast Go.Proofs.YtkjagcamikkjkaaW.PrintMore
attribute [local go_sem] max2_int min2_int max_two min_two max_three min_three max_four min_four
set_option linter.unusedVariables false
set_option linter.unusedSimpArgs false
theorem C_one9 {α : Type} {d : Kd α} {W : World} {g t : Nat} {cs : Array Value} {x : α} (h : W.heap[g]? = some (.cells cs t (0, 0))) (hK : d.K W x cs.toList) : d.C W (some ⟨g, 0, none⟩) 1 [x] := by
  refine ⟨rfl, by omega, fun _ => ⟨⟨g, 0, none⟩, rfl, fun j p hj => ⟨cs.toList, d.K_len hK, ?_, fun i u hi => ?_⟩⟩⟩
  · cases j with
    | zero => simp at hj; rw [← hj]; exact hK
    | succ j => simp at hj
  · cases j with
    | zero =>
      have h3 : Addr.add ⟨g, 0, none⟩ (0 * d.sz + i) = ⟨g, i, none⟩ := by
        rw [Nat.zero_mul, Nat.zero_add]
        by_cases h0 : i = 0
        · subst h0; rfl
        · simp [Addr.add, h0]
      rw [h3, blk_cell h i]
      simpa using hi
    | succ j => simp at hj
theorem one_cls {W : World} {b1 b2 : Nat} {s1 s2 : ByteArray} {t p : Int} (h1 : W.heap[b1]? = some (.cells #[.string s1, .int .u8 t] 29 (0, 0))) (h2 : W.heap[b2]? = some (.cells #[.string s2, .int .i64 p, .slice (some ⟨b1, 0, none⟩) 1 1] 32 (0, 0))) :
    Kd.C k32 W (some ⟨b2, 0, none⟩) 1 [⟨s2, p, [⟨s1, t⟩]⟩] := by
  refine C_one9 h2 ?_
  have hf : Kd.C k29 W (some ⟨b1, 0, none⟩) 1 [⟨s1, t⟩] := C_one9 h1 (k29_mk W ⟨s1, t⟩)
  exact k32_mk W ⟨s2, p, [⟨s1, t⟩]⟩ (c2 := 1) (Nat.le_refl 1) hf
def oneL (t : Int) : List S32 := [⟨⟨#[110]⟩, -1, [⟨⟨#[110, 101, 120, 116]⟩, t⟩]⟩]
theorem two_alloc (w : World) (t : Int) : ∃ W, W = (w.alloc (.cells #[.string ⟨#[110, 101, 120, 116]⟩, .int .u8 t] 29)).alloc (.cells #[.string ⟨#[110]⟩, .int .i64 (-1), .slice (some ⟨w.heap.size, 0, none⟩) 1 1] 32) ∧ Below w.heap.size w W ∧ Kd.C k32 W (some ⟨w.heap.size + 1, 0, none⟩) (oneL t).length (oneL t) := by
  refine ⟨_, rfl, below_alloc (below_alloc (Below.refl _ _) _) _, one_cls (b1 := w.heap.size) ?_ ?_⟩
  · exact blk_below (blk_new w _) (below_alloc (Below.refl _ _) _)
  · have := blk_new (w.alloc (.cells #[.string ⟨#[110, 101, 120, 116]⟩, .int .u8 t] 29)) (.cells #[.string ⟨#[110]⟩, .int .i64 (-1), .slice (some ⟨w.heap.size, 0, none⟩) 1 1] 32)
    simpa using this
theorem check_one5 : types_Check.f 40 (oneL 5) = some (0, 0) := by decide +kernel
theorem fields_one5 : types_Fields.f (oneL 5) 0 = some [⟨⟨#[110, 101, 120, 116]⟩, 5⟩] := by kernel_rfl
end Go.Proofs.Ytkjagcamikkjkaa.P

end

section
namespace Go.Proofs.Ytkjagcamikkjkaa.P
open Go.RowKit Go.Proofs.YtkjagcamikkjkaaW.PrintWords Go.Proofs.YtkjagcamikkjkaaW.PrintLast Go.Proofs.YtkjagcamikkjkaaW.PrintMore
set_option linter.unusedVariables false
set_option linter.unusedSimpArgs false

theorem w_next {i : Int} {n : Nat} (h0 : 0 ≤ i) (h : i < (n : Int)) (hn : n ≤ 9223372036854775807) : wrap64 (i + 1) = i + 1 := by
  unfold wrap64
  omega

def sign (i c : Int) : Bool :=
  (decide (97 ≤ c) && decide (c ≤ 122)) || (decide (65 ≤ c) && decide (c ≤ 90)) || (decide (0 < i) && ((decide (48 ≤ c) && decide (c ≤ 57)) || decide (c = 95)))
def tailOk (s : ByteArray) : Nat → Bool
  | 0 => true
  | d + 1 => sign ((s.size : Int) - (d + 1)) (bt s ((s.size : Int) - (d + 1))) && tailOk s d
def nameOk (s : ByteArray) : Bool := decide (1 ≤ s.size) && decide (s.size ≤ 24) && tailOk s s.size
theorem str_eq (a b : ByteArray) : a.toList = b.toList ↔ a = b :=
  ⟨fun h => by rw [ByteArray.toList_eq, ByteArray.toList_eq] at h; exact Go.WideShapes.bytes_inj h, fun h => by rw [h]⟩
def words6 : List ByteArray := [⟨#[116, 111, 112]⟩, ⟨#[105, 110, 116]⟩, ⟨#[98, 111, 111, 108]⟩, ⟨#[110, 117, 108, 108]⟩, ⟨#[105, 110, 116, 115]⟩, ⟨#[97, 110, 121]⟩]
def isWordB (s : ByteArray) : Bool := words6.any fun t => decide (t = s)
abbrev Tbl := List S32
def par (l : Tbl) (c : Int) : Int := (rd_T32 l c).f1
def nam (l : Tbl) (c : Int) : ByteArray := (rd_T32 l c).f0
def own (l : Tbl) (c : Int) : List S29 := (rd_T32 l c).f2
def Dec (l : Tbl) (n : Int) : Prop := ∀ i : Int, 0 ≤ i → i < n → par l i < i
def fieldsOf (l : Tbl) (c : Int) : List S29 := (climbL l c).reverse.flatMap fun i => own l i
theorem line_tells (l : Tbl) (n : Int) (hn : n ≤ l.length) (hl : l.length * 48 ≤ 140737488351232) (hd : Dec l n) : ∀ (d : Nat) (c : Int) (acc : List Int), c < n → (c + 1).toNat ≤ d → (acc.length : Int) + c < l.length → acc.length ≤ l.length →
    Ev (fun k => provisoref02_Line.l0 k l c acc) (acc ++ climbL l c)
  | 0, c, acc, _, h, _, _ => by
    rw [climbL_out l c (by omega), List.append_nil]
    exact Ev.step (f := fun _ => some acc) (fun k => by simp only [provisoref02_Line.l0]; rw [if_neg (by omega)]) (Ev.now _)
  | d + 1, c, acc, hc, hcd, ha, ha2 => by
    by_cases h0 : 0 ≤ c
    · have hp := hd c h0 hc
      have hcl : c < (l.length : Int) := by omega
      rw [climbL_in l c h0 hcl hp]
      have hx := line_tells l n hn hl hd d (par l c) (acc ++ [c]) (by omega) (by omega) (by simp; omega) (by simp; omega)
      rw [List.append_assoc] at hx
      refine Ev.step (fun k => ?_) hx
      simp only [provisoref02_Line.l0]
      rw [if_pos h0, if_pos hcl, if_pos (by omega), if_pos (by omega), if_pos h0]
      rfl
    · rw [climbL_out l c (by omega), List.append_nil]
      exact Ev.step (f := fun _ => some acc) (fun k => by simp only [provisoref02_Line.l0]; rw [if_neg (by omega)]) (Ev.now _)
theorem ref_line (l : Tbl) (n : Int) (hn : n ≤ l.length) (hl : l.length * 48 ≤ 140737488351232) (hd : Dec l n) (c : Int) (hc : c < n) : Ev (fun k => provisoref02_Line.f k l c) (climbL l c) := by
  by_cases h0 : l.length = 0
  · rw [climbL_out l c (by omega)]
    refine Ev.congr (f := fun k => provisoref02_Line.l0 k l c []) (fun k => rfl) ?_
    exact Ev.step (f := fun _ => some []) (fun k => by simp only [provisoref02_Line.l0]; rw [if_neg (by omega)]) (Ev.now _)
  · have := line_tells l n hn hl hd (c + 1).toNat c [] hc (Nat.le_refl _) (by simp; omega) (by simp)
    rw [List.nil_append] at this
    exact this
theorem fields_tells (l : Tbl) (line : List Int) (hm : ∀ x ∈ line, 0 ≤ x ∧ x < (l.length : Int)) (hl : l.length * 48 ≤ 140737488351232) (hll : line.length ≤ l.length) (hlim : (line.reverse.flatMap fun i => own l i).length < 5864062014805) : ∀ (d : Nat), d ≤ line.length →
    Ev (fun k => provisoref02_Fields.l0 k l line ((line.drop d).reverse.flatMap fun i => own l i) ((d : Int) - 1)) (line.reverse.flatMap fun i => own l i)
  | 0, _ => by
    rw [List.drop_zero]
    exact Ev.step (f := fun _ => some _) (fun k => by simp only [provisoref02_Fields.l0]; rw [if_neg (by omega)]) (Ev.now _)
  | d + 1, hd => by
    have ih := fields_tells l line hm hl hll hlim d (by omega)
    have hrd : rd line ((d : Nat) : Int) = line[d]'(by omega) := by simp [rd, List.getD_eq_getElem?_getD, show d < line.length by omega]
    have hmd := hm (line[d]'(by omega)) (List.getElem_mem _)
    have e1 : ((line.drop d).reverse.flatMap fun i => own l i) = ((line.drop (d + 1)).reverse.flatMap fun i => own l i) ++ own l (line[d]'(by omega)) := by
      rw [List.drop_eq_getElem_cons (by omega), List.reverse_cons, List.flatMap_append]
      simp
    have hle : ((line.drop d).reverse.flatMap fun i => own l i).length ≤ (line.reverse.flatMap fun i => own l i).length := by
      have : line = line.take d ++ line.drop d := by simp
      conv => rhs; rw [this, List.reverse_append, List.flatMap_append, List.length_append]
      omega
    rw [e1] at ih hle
    rw [List.length_append] at hle
    refine Ev.step (fun k => ?_) ih
    simp only [provisoref02_Fields.l0]
    rw [show ((d + 1 : Nat) : Int) - 1 = (d : Int) by omega, hrd, if_pos (by omega), if_pos (by omega), if_pos (by omega), if_pos hmd.1, if_pos hmd.2]
    rw [if_pos (by unfold own at hle hlim ⊢; omega), show wrap64 ((d : Int) - 1) = (d : Int) - 1 by unfold wrap64; omega]
    rfl
theorem ref_fields (l : Tbl) (n : Int) (hn : n ≤ l.length) (hl : l.length * 48 ≤ 140737488351232) (hd : Dec l n) (c : Int) (hc : c < n) (hlim : (fieldsOf l c).length < 5864062014805) : Ev (fun k => provisoref02_Fields.f k l c) (fieldsOf l c) := by
  have hll := climbL_length l c
  have h := fields_tells l (climbL l c) (climbL_mem l c) hl hll hlim (climbL l c).length (Nat.le_refl _)
  rw [List.drop_length, List.reverse_nil, List.flatMap_nil] at h
  refine Ev.congr (fun k => rfl) (Ev.bind (ref_line l n hn hl hd c hc) (f := fun k t => provisoref02_Fields.l0 k l t [] (wrap64 ((t.length : Int) - 1))) ?_)
  rw [show wrap64 (((climbL l c).length : Int) - 1) = ((climbL l c).length : Int) - 1 by unfold wrap64; omega]
  exact h

def hasB (fs : List S29) (s : ByteArray) : Bool := fs.any fun f => decide (f.f0 = s)
def validB (l : Tbl) (a : Int) : Bool := decide (a ≤ 5) || (decide (16 ≤ a) && decide (a - 16 < (l.length : Int)))
def storedB (l : Tbl) (a : Int) : Bool := validB l a && decide (a ≠ 0) && decide (a ≠ 3)
end Go.Proofs.Ytkjagcamikkjkaa.P


end

section
namespace Go.Proofs.Ytkjagcamikkjkaa.P
open Go.RowKit Go.Proofs.YtkjagcamikkjkaaW.PrintWords Go.Proofs.YtkjagcamikkjkaaW.PrintLast Go.Proofs.YtkjagcamikkjkaaW.PrintMore
set_option linter.unusedVariables false
set_option linter.unusedSimpArgs false

def Sane (l : Tbl) : Prop := l.length ≤ 9223372036854775807 ∧ l.length * 48 ≤ 140737488351232 ∧ ∀ x ∈ l, Ok32 x
theorem rd_mem (l : Tbl) (c : Int) (h0 : 0 ≤ c) (h1 : c < (l.length : Int)) : rd_T32 l c ∈ l := by
  have h : c.toNat < l.length := by omega
  simp [rd_T32, List.getD_eq_getElem?_getD, h]
theorem Sane.size {l : Tbl} (h : Sane l) : l.length ≤ 2932031007320 := by have := h.2.1; omega
theorem Sane.nam {l : Tbl} (h : Sane l) {c : Int} (h0 : 0 ≤ c) (h1 : c < (l.length : Int)) : (nam l c).size ≤ 140737488351232 := (h.2.2 _ (rd_mem l c h0 h1)).1
theorem Sane.par {l : Tbl} (h : Sane l) {c : Int} (h0 : 0 ≤ c) (h1 : c < (l.length : Int)) : -9223372036854775808 ≤ par l c ∧ par l c ≤ 9223372036854775807 := by
  have := (h.2.2 _ (rd_mem l c h0 h1)).2.1
  simp [Lit.wf, IntKind.min, IntKind.max, IntKind.signed, IntKind.bits] at this
  exact this
theorem Sane.own {l : Tbl} (h : Sane l) {c : Int} (h0 : 0 ≤ c) (h1 : c < (l.length : Int)) : (own l c).length * 24 ≤ 140737488351232 ∧ ∀ x ∈ own l c, x.f0.size ≤ 140737488351232 ∧ (0 ≤ x.f1 ∧ x.f1 ≤ 255) := by
  obtain ⟨_, h2, h3⟩ := (h.2.2 _ (rd_mem l c h0 h1)).2.2
  refine ⟨h2, fun x hx => ⟨(h3 x hx).1, ?_⟩⟩
  have := (h3 x hx).2
  simp [Lit.wf, IntKind.min, IntKind.max, IntKind.signed, IntKind.bits] at this
  exact this

def fieldFaultFrom (l : Tbl) (all fs : List S29) : Nat → Nat → Int
  | 0, _ => if (fs.length : Int) > 32 - (all.length : Int) then 4 else 0
  | d + 1, i => if nameOk (rd_T29 fs i).f0 = true then (if hasB all (rd_T29 fs i).f0 = true then 20 else if hasB (fs.take i) (rd_T29 fs i).f0 = true then 20 else if storedB l (rd_T29 fs i).f1 = true then fieldFaultFrom l all fs d (i + 1) else 22) else 6
def fieldFault (l : Tbl) (all fs : List S29) : Int := fieldFaultFrom l all fs fs.length 0
def aheadFrom (l : Tbl) (c : Int) : Nat → Bool
  | 0 => false
  | d + 1 => decide (nam l (c - (d + 1)) = nam l c) || aheadFrom l c d
def aheadB (l : Tbl) (c : Int) : Bool := aheadFrom l c c.toNat
def parFault (l : Tbl) (c : Int) : Int := if par l c < -1 then 21 else if par l c ≥ c then 21 else fieldFault l (fieldsOf l (par l c)) (own l c)
def faultB (l : Tbl) (c : Int) : Int :=
  if c ≥ 32 then 4 else if nameOk (nam l c) = true then (if isWordB (nam l c) = true then 6 else if aheadB l c = true then 20 else parFault l c) else 6

def GoodTo (l : Tbl) (n : Int) : Prop := ∀ c : Int, 0 ≤ c → c < n → faultB l c = 0
theorem field_fault_long (l : Tbl) (all fs : List S29) : ∀ (d i : Nat), fieldFaultFrom l all fs d i = 0 → (fs.length : Int) ≤ 32 - all.length
  | 0, i, h => by
    unfold fieldFaultFrom at h
    split at h <;> omega
  | d + 1, i, h => by
    unfold fieldFaultFrom at h
    split at h
    · split at h
      · omega
      · split at h
        · omega
        · split at h
          · exact field_fault_long l all fs d (i + 1) h
          · omega
    · omega
theorem fault_zero {l : Tbl} {c : Int} (h : faultB l c = 0) : c < 32 ∧ nameOk (nam l c) = true ∧ isWordB (nam l c) = false ∧ aheadB l c = false ∧ -1 ≤ par l c ∧ par l c < c ∧ fieldFault l (fieldsOf l (par l c)) (own l c) = 0 := by
  unfold faultB parFault at h
  split at h
  · omega
  · split at h
    · split at h
      · omega
      · split at h
        · omega
        · split at h
          · omega
          · split at h
            · omega
            · rename_i h1 h2 h3 h4 h5 h6
              exact ⟨by omega, h2, by simpa using h3, by simpa using h4, by omega, by omega, h⟩
    · omega
theorem GoodTo.dec {l : Tbl} {n : Int} (h : GoodTo l n) : Dec l n := fun i h0 h1 => (fault_zero (h i h0 h1)).2.2.2.2.2.1
theorem fieldsOf_in (l : Tbl) (c : Int) (h0 : 0 ≤ c) (h1 : c < (l.length : Int)) (h2 : par l c < c) : fieldsOf l c = fieldsOf l (par l c) ++ own l c := by
  unfold fieldsOf
  rw [climbL_in l c h0 h1 h2, List.reverse_cons, List.flatMap_append]
  simp [par]
theorem fieldsOf_out (l : Tbl) (c : Int) (h : ¬ (0 ≤ c ∧ c < (l.length : Int))) : fieldsOf l c = [] := by
  unfold fieldsOf
  rw [climbL_out l c h]
  rfl
theorem GoodTo.fields {l : Tbl} {n : Int} (hn : n ≤ l.length) (h : GoodTo l n) (c : Int) (hc : c < n) : (fieldsOf l c).length ≤ 32 := by
  by_cases h0 : 0 ≤ c
  · obtain ⟨_, _, _, _, h5, h6, h7⟩ := fault_zero (h c h0 hc)
    have := field_fault_long l _ _ _ _ h7
    rw [fieldsOf_in l c h0 (by omega) h6, List.length_append]
    omega
  · rw [fieldsOf_out l c (by omega)]
    simp
def checkFrom (l : Tbl) : Nat → Int → Int × Int
  | 0, _ => (0, 0)
  | d + 1, c => if faultB l c = 0 then checkFrom l d (c + 1) else (c, faultB l c)
def checkB (l : Tbl) : Int × Int := checkFrom l l.length 0
theorem checkFrom_zero (l : Tbl) : ∀ (d : Nat) (c : Int), (checkFrom l d c).2 = 0 ↔ ∀ i : Int, c ≤ i → i < c + d → faultB l i = 0
  | 0, c => by
    constructor
    · intro _ i h1 h2; omega
    · intro _; rfl
  | d + 1, c => by
    unfold checkFrom
    split
    · rename_i e
      rw [checkFrom_zero l d (c + 1)]
      constructor
      · intro h i h1 h2
        by_cases hi : i = c
        · rw [hi]; exact e
        · exact h i (by omega) (by omega)
      · intro h i h1 h2
        exact h i (by omega) (by omega)
    · rename_i e
      constructor
      · intro h; exact absurd h e
      · intro h; exact h c (by omega) (by omega)
def Good (l : Tbl) : Prop := GoodTo l l.length
theorem good_iff (l : Tbl) : (checkB l).2 = 0 ↔ Good l := by
  unfold checkB
  rw [checkFrom_zero l l.length 0]
  unfold Good GoodTo
  simp
theorem Good.short {l : Tbl} (h : Good l) : l.length ≤ 32 := by
  rcases Nat.lt_or_ge 32 l.length with h1 | h1
  · have := (fault_zero (h 32 (by omega) (by omega))).1
    omega
  · exact h1
theorem Good.dec {l : Tbl} (h : Good l) : Dec l l.length := GoodTo.dec h
end Go.Proofs.Ytkjagcamikkjkaa.P


end

section
namespace Go.Proofs.Ytkjagcamikkjkaa.P
open Go.RowKit Go.Proofs.YtkjagcamikkjkaaW.PrintWords Go.Proofs.YtkjagcamikkjkaaW.PrintLast Go.Proofs.YtkjagcamikkjkaaW.PrintMore
set_option linter.unusedVariables false
set_option linter.unusedSimpArgs false

def idxFrom (ws : List ByteArray) (s : ByteArray) : Nat → Nat → Int
  | 0, _ => -1
  | d + 1, i => if s = ws.getD i ByteArray.empty then (i : Int) else idxFrom ws s d (i + 1)
theorem index_tells (ws : List ByteArray) (s : ByteArray) (hw : ws.length ≤ 9223372036854775807) : ∀ (d i : Nat), ws.length - i = d → i ≤ ws.length → Ev (fun k => slices_Index_string_string.l0 k ws s (ws.length : Int) (i : Int)) (idxFrom ws s d i)
  | 0, i, hd, hi => Ev.step (f := fun _ => some (-1)) (fun k => by simp only [slices_Index_string_string.l0]; rw [if_neg (by omega)]) (Ev.now _)
  | d + 1, i, hd, hi => by
    have ih := index_tells ws s hw d (i + 1) (by omega) (by omega)
    unfold idxFrom
    have hrd : rdOf ByteArray.empty ws ((i : Nat) : Int) = ws.getD i ByteArray.empty := by simp [rdOf]
    by_cases e : s = ws.getD i ByteArray.empty
    · rw [if_pos e]
      exact Ev.step (f := fun _ => some _) (fun k => by simp only [slices_Index_string_string.l0]; rw [if_pos (by omega), if_pos (by omega), if_pos (by omega), hrd, if_pos ((str_eq _ _).mpr e)]) (Ev.now _)
    · rw [if_neg e]
      refine Ev.step (fun k => ?_) ih
      simp only [slices_Index_string_string.l0]
      rw [if_pos (by omega), if_pos (by omega), if_pos (by omega), hrd, if_neg (fun h9 => e ((str_eq _ _).mp h9)), w_next (n := ws.length) (by omega) (by omega) (by omega)]
      rfl
theorem words_is : types_words.f = some words6 := rfl
theorem Good.nameOk {l : Tbl} (h : Good l) {c : Int} (h0 : 0 ≤ c) (h1 : c < (l.length : Int)) : nameOk (nam l c) = true ∧ isWordB (nam l c) = false :=
  ⟨(fault_zero (h c h0 h1)).2.1, (fault_zero (h c h0 h1)).2.2.1⟩
end Go.Proofs.Ytkjagcamikkjkaa.P


end

section
namespace Go.Proofs.Ytkjagcamikkjkaa.P
open Go.RowKit Go.Proofs.YtkjagcamikkjkaaW.PrintWords Go.Proofs.YtkjagcamikkjkaaW.PrintLast Go.Proofs.YtkjagcamikkjkaaW.PrintMore
set_option linter.unusedVariables false
set_option linter.unusedSimpArgs false
def classOf (l : List S32) (a : Int) : Int := if a < 16 then -1 else if (a - 16) % 256 ≥ (l.length : Int) then -1 else (a - 16) % 256
theorem class_is (l : List S32) (a : Int) : types_class.f l a = some (classOf l a) := by
  unfold types_class.f classOf
  split
  · rfl
  · split <;> rfl
theorem class_valid (l : Tbl) (a : Int) (ha : 0 ≤ a ∧ a ≤ 255) : classOf l a = if 16 ≤ a ∧ a - 16 < (l.length : Int) then a - 16 else -1 := by
  unfold classOf
  by_cases h1 : a < 16
  · rw [if_pos h1, if_neg (by omega)]
  · rw [if_neg h1, show (a - 16) % 256 = a - 16 by omega]
    by_cases h2 : a - 16 ≥ (l.length : Int)
    · rw [if_pos h2, if_neg (by omega)]
    · rw [if_neg h2, if_pos (by omega)]
theorem rd_class (l : Tbl) (i : Nat) (h : i < l.length) : rd_T32 l (i : Int) = l[i] := by simp [rd_T32, List.getD_eq_getElem?_getD, h]
theorem fields_len {l : Tbl} (hg : Good l) (c : Int) : (fieldsOf l c).length ≤ 32 := by
  by_cases h : c < (l.length : Int)
  · exact GoodTo.fields (Int.le_refl _) hg c h
  · rw [fieldsOf_out l c (by omega)]
    exact Nat.zero_le _
theorem impl_fields' {l : Tbl} (hg : Good l) (c : Int) : types_Fields.f l c = some (fieldsOf l c) := by
  have := hg.short
  have h2 := climbL_length l c
  have h3 := fields_len hg c
  unfold types_Fields.f
  rw [if_pos ⟨by omega, by unfold fieldsOf own at h3; omega⟩]
  rfl
theorem ref_fields' {l : Tbl} (hs : Sane l) (hg : Good l) (c : Int) : Ev (fun k => provisoref02_Fields.f k l c) (fieldsOf l c) := by
  by_cases h : c < (l.length : Int)
  · have := fields_len hg c
    exact ref_fields l l.length (Int.le_refl _) hs.2.1 hg.dec c h (by omega)
  · rw [fieldsOf_out l c (by omega)]
    unfold provisoref02_Fields.f provisoref02_Line.f
    refine Ev.bind (Ev.step (g := fun k => provisoref02_Line.l0 k l c []) (f := fun _ => some []) (fun k => by simp only [provisoref02_Line.l0]; rw [if_pos (by omega), if_neg (by omega)]) (Ev.now _)) ?_
    exact Ev.step (f := fun _ => some []) (fun k => by simp only [provisoref02_Fields.l0]; rw [if_neg (show ¬ (wrap64 ((([] : List Int).length : Int) - 1) ≥ 0) from by unfold wrap64; simp)]) (Ev.now _)
end Go.Proofs.Ytkjagcamikkjkaa.P

end

section
namespace Go.Proofs.Ytkjagcamikkjkaa.P
open Go.RowKit Go.Proofs.YtkjagcamikkjkaaW.PrintWords Go.Proofs.YtkjagcamikkjkaaW.PrintLast Go.Proofs.YtkjagcamikkjkaaW.PrintMore
set_option linter.unusedVariables false
set_option linter.unusedSimpArgs false

theorem impl_name_tail (s : ByteArray) (hn : s.size ≤ 140737488351232) (d : Nat) : ∀ (k : Nat) (i : Int), 0 ≤ i → i ≤ s.size → (s.size : Int) - i = d → 3 * d < k → wire_IsName.l0 k s (s.size : Int) i = some (tailOk s d) := by
  induction d with
  | zero =>
    intro k i h0 h1 hd hk
    obtain ⟨k, rfl⟩ : ∃ m, k = m + 1 := ⟨k - 1, by omega⟩
    simp only [wire_IsName.l0]; rw [if_neg (by omega)]; rfl
  | succ d ih =>
    intro k i h0 h1 hd hk
    obtain ⟨k, rfl⟩ : ∃ m, k = m + 3 := ⟨k - 3, by omega⟩
    have hlt : i < (s.size : Int) := by omega
    have hi : (s.size : Int) - (d + 1) = i := by omega
    have h := ih k (i + 1) (by omega) (by omega) (by omega) (by omega)
    simp only [wire_IsName.l0, wire_IsName.j2, wire_IsName.j3, tailOk, hi]
    rw [if_pos hlt, if_pos h0, if_pos hlt, w_next h0 hlt (by omega)]
    have h' : wire_IsName.l0 k s (s.size : Int) (i + 1) = some (tailOk s d) := h
    rw [h']
    generalize bt s i = c
    generalize tailOk s d = t
    by_cases a1 : 97 ≤ c <;> by_cases a2 : c ≤ 122 <;> by_cases a3 : 65 ≤ c <;> by_cases a4 : c ≤ 90 <;> by_cases a5 : 0 < i <;> by_cases a6 : 48 ≤ c <;> by_cases a7 : c ≤ 57 <;> by_cases a8 : c = 95 <;> (try omega) <;> simp [sign, a1, a2, a3, a4, a5, a6, a7, a8]
theorem impl_name (s : ByteArray) (hn : s.size ≤ 140737488351232) : Ev (fun k => wire_IsName.f k s) (nameOk s) := by
  refine Ev.of (fun k => wire_IsName.mono s k) (k := 3 * s.size + 2) ?_
  have h1 := impl_name_tail s hn s.size (3 * s.size + 1) 0 (by omega) (by omega) (by omega) (by omega)
  unfold wire_IsName.f nameOk
  simp only [wire_IsName.j0, h1]
  by_cases a1 : (s.size : Int) = 0
  · rw [if_pos a1, decide_eq_false (by omega)]
    simp
  · rw [if_neg a1, decide_eq_true (by omega : 1 ≤ s.size)]
    by_cases a3 : (s.size : Int) > 24
    · rw [decide_eq_true a3, decide_eq_false (by omega : ¬ s.size ≤ 24)]
      simp
    · rw [decide_eq_false a3, decide_eq_true (by omega : s.size ≤ 24)]
      simp
def memB (ws : List ByteArray) (s : ByteArray) : Bool := ws.any fun t => decide (t = s)
theorem memB_iff (ws : List ByteArray) (s : ByteArray) : memB ws s = true ↔ s ∈ ws := by
  unfold memB
  rw [List.any_eq_true]
  exact ⟨fun ⟨x, h1, h2⟩ => (of_decide_eq_true h2) ▸ h1, fun h => ⟨s, h, decide_eq_true rfl⟩⟩
theorem idx_mem (ws : List ByteArray) (s : ByteArray) : ∀ (d i : Nat), i + d = ws.length → decide (idxFrom ws s d i ≥ 0) = memB (ws.drop i) s
  | 0, i, h => by
    rw [List.drop_of_length_le (by omega)]
    rfl
  | d + 1, i, h => by
    have hi : i < ws.length := by omega
    have hg : ws.getD i ByteArray.empty = ws[i] := by simp [List.getD_eq_getElem?_getD, hi]
    rw [List.drop_eq_getElem_cons hi]
    show decide ((if s = ws.getD i ByteArray.empty then (i : Int) else idxFrom ws s d (i + 1)) ≥ 0) = _
    rw [hg]
    by_cases e : s = ws[i]
    · rw [if_pos e, decide_eq_true (by omega), (memB_iff _ _).2 (by rw [e]; exact List.mem_cons_self)]
    · rw [if_neg e, idx_mem ws s d (i + 1) (by omega), Bool.eq_iff_iff, memB_iff, memB_iff, List.mem_cons]
      exact ⟨.inr, fun h => h.resolve_left e⟩
theorem impl_contains (ws : List ByteArray) (s : ByteArray) (hw : ws.length ≤ 9223372036854775807) : Ev (fun k => slices_Contains_string_string.f k ws s) (memB ws s) := by
  have h := idx_mem ws s ws.length 0 (by omega)
  rw [List.drop_zero] at h
  rw [← h]
  unfold slices_Contains_string_string.f
  exact Ev.bind (index_tells ws s hw ws.length 0 (by omega) (by omega)) (Ev.now _)
theorem impl_stored (l : Tbl) (a : Int) (ha : 0 ≤ a ∧ a ≤ 255) : types_stored.f l a = some (storedB l a) := by
  unfold types_stored.f storedB
  rw [class_is, Option.bind_some, class_valid l a ha]
  by_cases h1 : a = 1
  · subst h1; simp [validB]
  · by_cases h2 : a = 2
    · subst h2; simp [validB]
    · by_cases h4 : a = 4
      · subst h4; simp [validB]
      · by_cases h5 : a = 5
        · subst h5; simp [validB]
        · rw [if_neg h1, if_neg h2, if_neg h4, if_neg h5]
          by_cases h6 : 16 ≤ a ∧ a - 16 < (l.length : Int)
          · rw [if_pos h6]
            have : a ≠ 0 ∧ a ≠ 3 := by omega
            simp [validB, this.1, this.2, h6.1, h6.2]
          · rw [if_neg h6]
            by_cases h7 : a ≤ 5
            · have : a = 0 ∨ a = 3 := by omega
              rcases this with rfl | rfl <;> simp
            · have : validB l a = false := by
                rw [Bool.eq_false_iff, Ne, show (validB l a = true ↔ _) from by unfold validB; simp; exact Iff.rfl]
                omega
              rw [this]
              simp

theorem hasB_mem (fs : List S29) (s : ByteArray) : hasB fs s = memB (namesOf fs) s := by
  rw [Bool.eq_iff_iff, memB_iff]
  unfold hasB namesOf
  rw [List.any_eq_true, List.mem_map]
  exact ⟨fun ⟨x, h1, h2⟩ => ⟨x, h1, of_decide_eq_true h2⟩, fun ⟨x, h1, h2⟩ => ⟨x, h1, decide_eq_true h2⟩⟩
theorem met_mem (l : Tbl) (line : List Int) (s : ByteArray) : s ∈ metOf l line ↔ s ∈ namesOf (line.reverse.flatMap fun i => own l i) := by
  unfold metOf namesOf own
  rw [List.map_flatMap, List.mem_flatMap, List.mem_flatMap]
  simp only [List.mem_reverse]
theorem met_len (l : Tbl) : ∀ (line : List Int), (metOf l line).length = (line.reverse.flatMap fun i => own l i).length
  | [] => rfl
  | x :: line => by
    have ih := met_len l line
    unfold metOf at ih ⊢
    rw [List.flatMap_cons, List.length_append, ih, List.reverse_cons, List.flatMap_append, List.length_append]
    unfold namesOf own
    simp
    omega
theorem fault_tells (l : Tbl) (all : List S29) (met : List ByteArray) (hm : ∀ s, s ∈ met ↔ s ∈ namesOf all) (hml : met.length = all.length) (h1 : all.length ≤ 32) (fs : List S29) (h2 : fs.length * 24 ≤ 140737488351232) (h3 : ∀ x ∈ fs, x.f0.size ≤ 140737488351232 ∧ (0 ≤ x.f1 ∧ x.f1 ≤ 255)) : ∀ (d i : Nat), i + d = fs.length →
    Ev (fun k => types_fields.l0 k l fs i (met ++ namesOf (fs.take i))) (fieldFaultFrom l all fs d i)
  | 0, i, hd => by
    refine Ev.step (f := fun _ => some (if (fs.length : Int) > 32 - (all.length : Int) then 4 else 0)) (fun k => ?_) (Ev.now _)
    simp only [types_fields.l0]
    rw [if_neg (by omega)]
    have hl : (met ++ namesOf (fs.take i)).length = all.length + fs.length := by
      rw [List.length_append, names_len fs i (by omega), hml]
      omega
    rw [hl]
    by_cases e : (fs.length : Int) > 32 - (all.length : Int)
    · rw [if_pos e, if_pos (by omega)]
    · rw [if_neg e, if_neg (by omega)]
  | d + 1, i, hd => by
    have hi : i < fs.length := by omega
    have ih := fault_tells l all met hm hml h1 fs h2 h3 d (i + 1) (by omega)
    rw [names_next fs i hi, ← List.append_assoc] at ih
    have hx : rd_T29 fs (i : Int) ∈ fs := by
      have : rd_T29 fs (i : Int) = fs[i] := by simp [rd_T29, List.getD_eq_getElem?_getD, hi]
      rw [this]
      exact List.getElem_mem hi
    obtain ⟨q1, q2⟩ := h3 _ hx
    have hlen : (met ++ namesOf (fs.take i)).length = all.length + i := by rw [List.length_append, names_len fs i (by omega), hml]
    unfold fieldFaultFrom
    refine Ev.step (f := fun k => (wire_IsName.f k (rd_T29 fs i).f0).bind fun a => if a = true then ((slices_Contains_string_string.f k (met ++ namesOf (fs.take i)) (rd_T29 fs i).f0).bind fun b => if b = true then some 20 else ((types_stored.f l (rd_T29 fs i).f1).bind fun c => if c = true then types_fields.l0 k l fs (i + 1) (met ++ namesOf (fs.take i) ++ [(rd_T29 fs i).f0]) else some 22)) else some 6) (fun k => ?_) ?_
    · simp only [types_fields.l0]
      rw [if_pos hi, if_pos (by omega)]
    · refine Ev.bind (impl_name _ q1) ?_
      cases nameOk (rd_T29 fs i).f0 with
      | false =>
        show Ev _ (6 : Int)
        exact Ev.congr (fun k => by rw [if_neg (by simp)]) (Ev.now _)
      | true =>
        refine Ev.congr (fun k => by rw [if_pos rfl]) (Ev.bind (impl_contains _ _ (by omega)) ?_)
        rw [if_pos rfl]
        by_cases e1 : hasB all (rd_T29 fs i).f0 = true
        · have e1' := e1
          rw [hasB_mem, memB_iff, ← hm] at e1'
          rw [if_pos e1, (memB_iff _ _).2 (List.mem_append_left _ e1')]
          exact Ev.congr (fun k => by rw [if_pos rfl]) (Ev.now _)
        · by_cases e2 : hasB (fs.take i) (rd_T29 fs i).f0 = true
          · have e2' := e2
            rw [hasB_mem, memB_iff] at e2'
            rw [if_neg e1, if_pos e2, (memB_iff _ _).2 (List.mem_append_right _ e2')]
            exact Ev.congr (fun k => by rw [if_pos rfl]) (Ev.now _)
          · have e3 : ¬ (rd_T29 fs i).f0 ∈ met ++ namesOf (fs.take i) := by
              rw [List.mem_append, hm]
              rw [hasB_mem, memB_iff] at e1 e2
              exact fun h => h.elim e1 e2
            rw [if_neg e1, if_neg e2, Bool.eq_false_iff.mpr (fun h => e3 ((memB_iff _ _).1 h))]
            refine Ev.congr (fun k => by rw [if_neg (by simp), impl_stored l _ q2, Option.bind_some]) ?_
            cases storedB l (rd_T29 fs i).f1 with
            | false =>
              show Ev _ (22 : Int)
              exact Ev.congr (fun k => by rw [if_neg (by simp)]) (Ev.now _)
            | true => exact Ev.congr (fun k => by rw [if_pos rfl]) (by rw [if_pos rfl]; exact ih)
theorem impl_fields_fault (l : Tbl) (hs : Sane l) (c : Int) (h0 : 0 ≤ c) (h1 : c < (l.length : Int)) (hp : par l c < c) (hg : GoodTo l c) : Ev (fun k => types_fields.f k l c) (fieldFault l (fieldsOf l (par l c)) (own l c)) := by
  have hall : (fieldsOf l (par l c)).length ≤ 32 := GoodTo.fields (by omega) hg _ hp
  have hml := met_len l (climbL l (par l c))
  have ho := hs.own h0 h1
  have h := fault_tells l (fieldsOf l (par l c)) (metOf l (climbL l (par l c))) (fun s => met_mem l _ s) hml hall (own l c) ho.1 ho.2 (own l c).length 0 (by omega)
  refine Ev.congr (fun k => ?_) h
  unfold types_fields.f
  have hlim : (metOf l (climbL l (rd_T32 l c).f1)).length < 8796093022208 := by
    have : (metOf l (climbL l (par l c))).length ≤ 32 := by rw [hml]; exact hall
    unfold par at this
    omega
  rw [if_pos ⟨h0, h1, hlim⟩]
  show types_fields.l0 k l (own l c) 0 (metOf l (climbL l (par l c))) = _
  congr 1
  exact (List.append_nil _).symm

theorem ahead_any (l : Tbl) (c : Nat) (hc : c < l.length) : ∀ d : Nat, d ≤ c → aheadFrom l c d = ((l.take c).drop (c - d)).any fun x => x.f0.toList == (rd_T32 l c).f0.toList
  | 0, h => by
    rw [List.drop_of_length_le (by rw [List.length_take]; omega)]
    rfl
  | d + 1, h => by
    have hi : c - (d + 1) < (l.take c).length := by rw [List.length_take]; omega
    have hr : rd_T32 l ((c : Int) - ((d : Int) + 1)) = (l.take c)[c - (d + 1)] := by
      rw [show (c : Int) - ((d : Int) + 1) = ((c - (d + 1) : Nat) : Int) by omega, List.getElem_take]
      exact rd_class l _ (by omega)
    rw [List.drop_eq_getElem_cons hi, List.any_cons, show c - (d + 1) + 1 = c - d by omega, ← ahead_any l c hc d (by omega), ← hr]
    show (decide (nam l ((c : Int) - ((d : Int) + 1)) = nam l c) || aheadFrom l c d) = _
    congr 1
    unfold nam
    rw [Bool.eq_iff_iff, decide_eq_true_iff, beq_iff_eq]
    exact (str_eq _ _).symm
theorem impl_check_tells (l : Tbl) (hs : Sane l) : ∀ (d i : Nat), i + d = l.length → GoodTo l i → Ev (fun k => types_Check.l0 k l i) (checkFrom l d (i : Int))
  | 0, i, hd, hg => by
    exact Ev.step (f := fun _ => some _) (fun k => by simp only [types_Check.l0]; rw [if_neg (by omega)]; rfl) (Ev.now _)
  | d + 1, i, hd, hg => by
    have hi : i < l.length := by omega
    have hw : (rd_T32 l i).f0.size ≤ 140737488351232 := hs.nam (c := (i : Int)) (by omega) (by omega)
    have hfault : Ev (fun k => if i ≥ 32 then some 4 else ((wire_IsName.f k (rd_T32 l i).f0).bind fun a => if a = true then (types_words.f.bind fun ws => (slices_Contains_string_string.f k ws (rd_T32 l i).f0).bind fun b => if b = true then some 6 else (if ((l.take i).any fun x => x.f0.toList == (rd_T32 l i).f0.toList) = true then some 20 else (if (rd_T32 l i).f1 < -1 ∨ (rd_T32 l i).f1 ≥ i then some 21 else types_fields.f k l i))) else some 6)) (faultB l i) := by
      unfold faultB
      by_cases e1 : (i : Int) ≥ 32
      · rw [if_pos e1]
        exact Ev.congr (fun k => by rw [if_pos (by omega)]) (Ev.now _)
      · rw [if_neg e1]
        refine Ev.congr (fun k => by rw [if_neg (by omega)]) (Ev.bind (impl_name _ hw) ?_)
        have hn : nam l i = (rd_T32 l i).f0 := rfl
        rw [hn]
        cases nameOk (rd_T32 l i).f0 with
        | false =>
          show Ev _ (6 : Int)
          exact Ev.congr (fun k => by rw [if_neg (by simp)]) (Ev.now _)
        | true =>
          rw [if_pos rfl]
          refine Ev.congr (fun k => by rw [if_pos rfl, words_is, Option.bind_some]) (Ev.bind (impl_contains words6 _ (by decide)) ?_)
          have hword : isWordB (rd_T32 l i).f0 = memB words6 (rd_T32 l i).f0 := rfl
          rw [hword]
          cases memB words6 (rd_T32 l i).f0 with
          | true =>
            show Ev _ (6 : Int)
            exact Ev.congr (fun k => by rw [if_pos rfl]) (Ev.now _)
          | false =>
            rw [if_neg (by simp)]
            have hah := ahead_any l i hi i (Nat.le_refl _)
            rw [Nat.sub_self, List.drop_zero] at hah
            have hah2 : aheadB l i = aheadFrom l i i := by unfold aheadB; rw [Int.toNat_natCast]
            rw [hah2, hah]
            refine Ev.congr (fun k => by rw [if_neg (by simp)]) ?_
            cases ((l.take i).any fun x => x.f0.toList == (rd_T32 l i).f0.toList) with
            | true =>
              show Ev _ (20 : Int)
              exact Ev.congr (fun k => by rw [if_pos rfl]) (Ev.now _)
            | false =>
              rw [if_neg (by simp)]
              refine Ev.congr (fun k => by rw [if_neg (by simp)]) ?_
              unfold parFault
              by_cases q1 : par l i < -1
              · rw [if_pos q1]
                exact Ev.congr (fun k => by rw [if_pos (.inl q1)]) (Ev.now _)
              · by_cases q2 : par l i ≥ i
                · rw [if_neg q1, if_pos q2]
                  exact Ev.congr (fun k => by rw [if_pos (.inr q2)]) (Ev.now _)
                · rw [if_neg q1, if_neg q2]
                  refine Ev.congr (fun k => by rw [if_neg (fun h => h.elim q1 q2)]) ?_
                  exact impl_fields_fault l hs i (by omega) (by omega) (by omega) hg
    refine Ev.step (fun k => ?_) (Ev.bind hfault (f := fun k e => if e = 0 then types_Check.l0 k l (i + 1) else some ((i : Int), e)) ?_)
    · simp only [types_Check.l0]
      rw [if_pos hi]
    · unfold checkFrom
      by_cases e0 : faultB l i = 0
      · rw [if_pos e0]
        have ih := impl_check_tells l hs d (i + 1) (by omega) (fun c h0 h1 => by
          by_cases e : c = (i : Int)
          · subst e; exact e0
          · exact hg c h0 (by omega))
        exact Ev.congr (fun k => by rw [if_pos e0]) ih
      · rw [if_neg e0]
        exact Ev.congr (fun k => by rw [if_neg e0]) (Ev.now _)
theorem impl_check (l : Tbl) (hs : Sane l) : Ev (fun k => types_Check.f k l) (checkB l) := impl_check_tells l hs l.length 0 (by omega) (fun c h0 h1 => by omega)
end Go.Proofs.Ytkjagcamikkjkaa.P


end

section
namespace Go.Proofs.Ytkjagcamikkjkaa.P
open Go.RowKit Go.Proofs.YtkjagcamikkjkaaW.PrintWords Go.Proofs.YtkjagcamikkjkaaW.PrintLast Go.Proofs.YtkjagcamikkjkaaW.PrintMore
attribute [local go_sem] max2_int min2_int max_two min_two max_three min_three max_four min_four
set_option linter.unusedVariables false
set_option linter.unusedSimpArgs false
theorem good_fields {l : List S32} (hg : Good l) : FieldsOK l := fun c _ _ => impl_fields' hg c
theorem HeapAt.dom {w0 : World} {s : HS} {W : World} (h : HeapAt w0 s W) : ∀ x o, s.m x = some o → ObjOK s.l s.last x o := by
  obtain ⟨ob, rb, h⟩ := h
  exact h.dom
theorem HeapAt.lower {w w1 : World} {s : HS} {W : World} (h : HeapAt w1 s W) (hb : Below w.heap.size w w1) : HeapAt w s W := by
  obtain ⟨ob, rb, h⟩ := h
  have hs := hb.size
  exact ⟨ob, rb, h.hd, h.mp, h.obj, h.inj, ⟨Nat.le_trans hs h.base.1, Nat.le_trans hs h.base.2.1, fun x o hx => ⟨Nat.le_trans hs (h.base.2.2 x o hx).1, Nat.le_trans hs (h.base.2.2 x o hx).2⟩⟩, Kd.R_lower h.cls hs, h.dom, h.num, below_then hb hs h.below, h.keep, h.sep⟩
def BadRoots (s : HS) (roots : List Int) : Prop := ∃ x ∈ roots, x ≠ 0 ∧ s.m x = none
theorem good_roots {s : HS} {roots : List Int} (h : ¬ BadRoots s roots) : ∀ x ∈ roots, x ≠ 0 → (s.m x).isSome = true := fun x hx h0 => by
  cases hm : s.m x with
  | none => exact absurd ⟨x, hx, h0, hm⟩ h
  | some o => rfl
theorem mark_total {s : HS} (h : SumOK s) (hu : s.used ≤ 4096) (roots : List Int) : (BadRoots s roots ∧ markM 8193 s roots = some none) ∨ ∃ met, ¬ BadRoots s roots ∧ markM 8193 s roots = some (some met) ∧ Reached s roots met ∧ met.length ≤ 4096 := by
  by_cases hb : BadRoots s roots
  · exact .inl ⟨hb, mark_bad s _ roots hb⟩
  · obtain ⟨met, h1, h2⟩ := mark_good s 4096 (h.few hu) (Nat.le_refl _) roots (good_roots hb)
    exact .inr ⟨met, hb, h1, h2, h.few hu met h2.nd h2.live⟩
theorem HeapAt.used_le {w0 : World} {s : HS} {W : World} (h : HeapAt w0 s W) : s.used ≤ 4096 := by have := h.num; omega
theorem live_few {s : HS} (h : SumOK s) (hu : s.used ≤ 4096) : (liveL s).length ≤ 4096 := h.few hu _ (rising_nodup (liveL_rising s)) (fun x hx => (liveL_mem h.1 x).1 hx)
theorem hp_LiveS (w0 : World) (s : HS) (hs : SumOK s) (hlast : s.last < 17592186044416) (W : World) (h : HeapAt w0 s W) : Calls Try.prog 13 #[.pointer (some ⟨s.hb, 0, none⟩)] W fun e w' => ∃ v : Value, e = .returned v ∧ Kd.R (Kd.int .i64) 3 w' W.heap.size (fun _ => True) v (liveL s) ∧ Below W.heap.size W w' :=
  (hp_Live w0 s hlast W h).mono fun e w' ⟨v, ls, h1, h2, h3, h4, h5⟩ => by
    obtain rfl : ls = liveL s := rising_same h3 (liveL_rising s) (fun x => by rw [h4, liveL_mem hs.1])
    exact ⟨v, h1, h2, h5⟩
def reachL (s : HS) (met : List Int) : List Int := (liveL s).filter fun x => memH met x
theorem reachL_mem {s : HS} (hs : SumOK s) {met : List Int} (hl : ∀ x ∈ met, (s.m x).isSome = true) (x : Int) : x ∈ reachL s met ↔ x ∈ met := by
  unfold reachL memH
  rw [List.mem_filter, liveL_mem hs.1]
  simp only [decide_eq_true_eq]
  exact ⟨And.right, fun h => ⟨hl x h, h⟩⟩
theorem reachL_rising (s : HS) (met : List Int) : (reachL s met).Pairwise (· < ·) := (liveL_rising s).filter _
theorem hp_ReachS (w0 : World) (s : HS) (hs : SumOK s) (hg : Good s.l) (hlast : s.last < 4611686018427387904) (A : Option Addr) (c : Nat) (roots : List Int) (W : World) (h : HeapAt w0 s W) (hC : (Kd.int .i64).C W A roots.length roots) (hrk : ∀ y ∈ roots, I64 y) (hrl : roots.length < 17592186044416) :
    Calls Try.prog 20 #[.pointer (some ⟨s.hb, 0, none⟩), .slice A roots.length c] W fun e w' => Below W.heap.size W w' ∧ ((BadRoots s roots ∧ e = .returned (.tuple #[.slice none 0 0, .int .i64 141])) ∨ ∃ (met : List Int) (v : Value), ¬ BadRoots s roots ∧ Reached s roots met ∧ e = .returned (.tuple #[v, .int .i64 0]) ∧ Kd.R (Kd.int .i64) 3 w' W.heap.size (fun _ => True) v (reachL s met)) := by
  rcases mark_total hs h.used_le roots with ⟨hb, hm⟩ | ⟨met, hb, hm, hR, hl⟩
  · exact (hp_Reach w0 s 8193 A c roots none W h (good_fields hg) hlast hC hrk hrl hm (fun _ h => by cases h)).mono fun e w' ⟨h1, h2⟩ => ⟨h1, by
      rcases h2 with ⟨_, h2⟩ | ⟨met, _, _, h2, _⟩
      · exact .inl ⟨hb, h2⟩
      · cases h2⟩
  · exact (hp_Reach w0 s 8193 A c roots (some met) W h (good_fields hg) hlast hC hrk hrl hm (fun m h => by cases h; omega)).mono fun e w' ⟨h1, h2⟩ => ⟨h1, by
      rcases h2 with ⟨h2, _⟩ | ⟨met', v, ls, h2, h3, h4, h5, h6⟩
      · cases h2
      · cases h2
        obtain rfl : ls = reachL s met := rising_same h5 (reachL_rising s met) (fun x => by rw [h6, reachL_mem hs hR.live])
        exact .inr ⟨met, v, hb, hR, h3, h4⟩⟩
theorem hp_CollectS (w0 : World) (s : HS) (hs : SumOK s) (hg : Good s.l) (hlast : s.last < 17592186044416) (A : Option Addr) (c : Nat) (roots : List Int) (W : World) (h : HeapAt w0 s W) (hC : (Kd.int .i64).C W A roots.length roots) (hrk : ∀ y ∈ roots, I64 y) (hrl : roots.length < 17592186044416) :
    Calls Try.prog 12 #[.pointer (some ⟨s.hb, 0, none⟩), .slice A roots.length c] W fun e w' => (BadRoots s roots ∧ e = .returned (.tuple #[.int .i64 0, .int .i64 141]) ∧ HeapAt w0 s w') ∨ ∃ met : List Int, ¬ BadRoots s roots ∧ Reached s roots met ∧ e = .returned (.tuple #[.int .i64 (goC met s 0 (liveL s)).1, .int .i64 0]) ∧ HeapAt w0 (colS s met) w' := by
  have hlf := live_few hs h.used_le
  rcases mark_total hs h.used_le roots with ⟨hb, hm⟩ | ⟨met, hb, hm, hR, hl⟩
  · exact (hp_Collect w0 s 8193 A c roots none (liveL s) W h (good_fields hg) hlast hC hrk hrl hm (liveL_rising s) (fun x => liveL_mem hs.1 x) (by omega) (fun _ h => by cases h)).mono fun e w' h2 => by
      rcases h2 with ⟨_, h2, h3⟩ | ⟨met, h2, _⟩
      · exact .inl ⟨hb, h2, h.step h3⟩
      · cases h2
  · exact (hp_Collect w0 s 8193 A c roots (some met) (liveL s) W h (good_fields hg) hlast hC hrk hrl hm (liveL_rising s) (fun x => liveL_mem hs.1 x) (by omega) (fun m _ => hs.collect_le m)).mono fun e w' h2 => by
      rcases h2 with ⟨h2, _⟩ | ⟨met', h2, h3, h4⟩
      · cases h2
      · cases h2
        exact .inr ⟨met, hb, hR, h3, h4⟩
structure LifeS (l0 : List S32) (room : Int) (j : Nat) (s : HS) : Prop where
  l : s.l = l0
  good : Good l0
  room : s.room = room
  sum : SumOK s
  last : s.last ≤ j
  fr : ∀ k, ¬ s.fr k
theorem addM_last (s : HS) (c n : Int) : (addM s c n).2.2.last ≤ s.last + 1 ∧ (addM s c n).2.2.l = s.l ∧ (addM s c n).2.2.room = s.room ∧ (addM s c n).2.2.fr = s.fr ∧ (addM s c n).2.2.hb = s.hb := by
  unfold addM
  split
  · exact ⟨Nat.le_succ _, rfl, rfl, rfl, rfl⟩
  · exact ⟨Nat.le_refl _, rfl, rfl, rfl, rfl⟩
theorem LifeS.addM {l0 : List S32} {room : Int} {j : Nat} {s : HS} (h : LifeS l0 room j s) (c n : Int) (hn : 0 ≤ n) : LifeS l0 room (j + 1) (addM s c n).2.2 := by
  obtain ⟨h1, h2, h3, h4, _⟩ := addM_last s c n
  exact ⟨h2.trans h.l, h.good, h3.trans h.room, h.sum.add c n hn, by have := h.last; omega, by rw [h4]; exact h.fr⟩
theorem LifeS.up {l0 : List S32} {room : Int} {j : Nat} {s : HS} (h : LifeS l0 room j s) : LifeS l0 room (j + 1) s := ⟨h.l, h.good, h.room, h.sum, Nat.le_succ_of_le h.last, h.fr⟩
theorem LifeS.record {l0 : List S32} {room : Int} {j : Nat} {s : HS} (h : LifeS l0 room j s) (c : Int) : LifeS l0 room (j + 1) (recordM s c).2.2 := by
  unfold recordM
  split
  · exact h.up
  · exact h.addM _ _ (by omega)
theorem recordM_hb (s : HS) (c : Int) : (recordM s c).2.2.hb = s.hb := by
  unfold recordM
  split
  · rfl
  · exact (addM_last _ _ _).2.2.2.2
theorem rowM_hb (s : HS) (c : Int) : (rowM s c).2.2.hb = s.hb := by
  unfold rowM
  split
  · rfl
  · exact (addM_last _ _ _).2.2.2.2
theorem LifeS.row {l0 : List S32} {room : Int} {j : Nat} {s : HS} (h : LifeS l0 room j s) (n : Int) : LifeS l0 room (j + 1) (rowM s n).2.2 := by
  unfold rowM
  split
  · exact h.up
  · exact h.addM _ _ (by omega)
theorem putM_keeps (s : HS) (x i v : Int) : (putM s x i v).2.last = s.last ∧ (putM s x i v).2.l = s.l ∧ (putM s x i v).2.room = s.room ∧ (putM s x i v).2.fr = s.fr ∧ (putM s x i v).2.hb = s.hb := by
  unfold putM
  split
  · split
    · exact ⟨rfl, rfl, rfl, rfl, rfl⟩
    · exact ⟨rfl, rfl, rfl, rfl, rfl⟩
  · exact ⟨rfl, rfl, rfl, rfl, rfl⟩
theorem LifeS.put {l0 : List S32} {room : Int} {j : Nat} {s : HS} (h : LifeS l0 room j s) (x i v : Int) : LifeS l0 room (j + 1) (putM s x i v).2 := by
  obtain ⟨h1, h2, h3, h4, _⟩ := putM_keeps s x i v
  exact ⟨h2.trans h.l, h.good, h3.trans h.room, h.sum.put x i v, by have := h.last; omega, by rw [h4]; exact h.fr⟩
theorem colS_hb (s : HS) (met : List Int) : (colS s met).hb = s.hb := by rw [colS_eq]
theorem LifeS.collect {l0 : List S32} {room : Int} {j : Nat} {s : HS} (h : LifeS l0 room j s) (met : List Int) : LifeS l0 room (j + 1) (colS s met) := by
  refine ⟨?_, h.good, ?_, h.sum.collect met, ?_, ?_⟩ <;> rw [colS_eq]
  · exact h.l
  · exact h.room
  · exact Nat.le_succ_of_le h.last
  · exact h.fr
theorem LifeS.start (hb B : Nat) (vc : Value) {l0 : List S32} (hg : Good l0) (room : Int) (W : World) : LifeS l0 room 0 ⟨hb, B, vc, l0, room, 0, 0, fun _ => none, fun _ => False, W⟩ :=
  ⟨rfl, hg, rfl, ⟨fun x o h => (by cases h), (by unfold liveL; rfl)⟩, Nat.le_refl _, fun _ h => h⟩
end Go.Proofs.Ytkjagcamikkjkaa.P

end

section
namespace Go.Proofs.Ytkjagcamikkjkaa.P
open Go.RowKit Go.Proofs.YtkjagcamikkjkaaW.PrintWords Go.Proofs.YtkjagcamikkjkaaW.PrintLast Go.Proofs.YtkjagcamikkjkaaW.PrintMore
attribute [local go_sem] max2_int min2_int max_two min_two max_three min_three max_four min_four
set_option linter.unusedVariables false
set_option linter.unusedSimpArgs false
def awS (hb B : Nat) (vc : Value) (w : World) : HS := ⟨hb, B, vc, oneL 5, 9, 0, 0, fun _ => none, fun _ => False, w⟩
def awS1 (hb B : Nat) (vc : Value) (w : World) : HS := ⟨hb, B, vc, oneL 5, 9, 2, 1, updM (fun _ => none) 1 (0, [0]), fun _ => False, w⟩
def awS2 (hb B : Nat) (vc : Value) (w : World) : HS := ⟨hb, B, vc, oneL 5, 9, 5, 2, updM (updM (fun _ => none) 1 (0, [0])) 2 (-1, [0, 0]), fun _ => False, w⟩
def awS3 (hb B : Nat) (vc : Value) (w : World) : HS := ⟨hb, B, vc, oneL 5, 9, 5, 2, setNum (updM (updM (fun _ => none) 1 (0, [0])) 2 (-1, [0, 0])) 1 0 2, fun _ => False, w⟩
theorem aw_record (hb B : Nat) (vc : Value) (w : World) : recordM (awS hb B vc w) 0 = (1, 0, awS1 hb B vc w) := by kernel_rfl
theorem aw_row (hb B : Nat) (vc : Value) (w : World) : rowM (awS1 hb B vc w) 2 = (2, 0, awS2 hb B vc w) := by kernel_rfl
theorem aw_put (hb B : Nat) (vc : Value) (w : World) : putM (awS2 hb B vc w) 1 0 2 = (0, awS3 hb B vc w) := by kernel_rfl
set_option maxHeartbeats 1600000 in
set_option maxRecDepth 100000 in
theorem awake_calls (w : World) : Calls Try.prog 14 #[] w fun e w' => e = .returned (.bool true) ∧ Below w.heap.size w w' := by
  go_enter Try.func14, Try.ntmps14
  go_wp2_with fail
  obtain ⟨W, hW, hb, hC⟩ := two_alloc w 5
  rw [← hW]
  have HB := Aside0.mk hb
  clear hW hb
  refine (hp_New 40 _ 1 (oneL 5) 9 0 0 W hC (by decide) (by decide) (by decide) check_one5).mono ?_
  rintro e w3 (⟨h, _⟩ | ⟨_, _, h, _⟩ | ⟨_, _, _, hb, B, vc, rfl, hH⟩)
  · omega
  · omega
  have H : Aside0 (HeapAt W (awS hb B vc W) w3) := ⟨hH⟩
  clear hH hC
  go_wp2_with fail
  refine (hp_Record W (awS hb B vc W) 0 _ fields_one5 (show (0 : Nat) < 4611686018427387904 by decide) w3 H.out).mono ?_
  rw [aw_record]
  rintro e w4 ⟨rfl, hH⟩
  replace H := Aside0.mk hH
  clear hH
  go_wp2_with fail
  refine (hp_Row W (awS1 hb B vc W) 2 (by decide) (show (1 : Nat) < 4611686018427387904 by decide) w4 H.out).mono ?_
  rw [aw_row]
  rintro e w5 ⟨rfl, hH⟩
  replace H := Aside0.mk hH
  clear hH
  go_wp2_with fail
  refine (hp_Put W (awS2 hb B vc W) 1 0 2 (by constructor <;> decide) w5 H.out).mono ?_
  rw [aw_put]
  rintro e w6 ⟨rfl, hH⟩
  replace H := Aside0.mk hH
  clear hH
  go_wp2_with fail
  refine (hp_Used W (awS3 hb B vc W) w6 H.out).mono ?_
  rintro e w7 ⟨rfl, hb7⟩
  replace H := Aside0.mk (H.out.step hb7)
  clear hb7
  unfold awS3
  go_wp2_with fail
  go_ret
  exact ⟨rfl, below_then HB.out HB.out.size H.out.below⟩
end Go.Proofs.Ytkjagcamikkjkaa.P

end

section
namespace Go.Proofs.Ytkjagcamikkjkaa.P
open Go.RowKit Go.Proofs.YtkjagcamikkjkaaW.PrintWords Go.Proofs.YtkjagcamikkjkaaW.PrintLast Go.Proofs.YtkjagcamikkjkaaW.PrintMore
attribute [local go_sem] max2_int min2_int max_two min_two max_three min_three max_four min_four
set_option linter.unusedVariables false
set_option linter.unusedSimpArgs false
theorem rd_mem_a {l : List S89} {j : Nat} (h : j < l.length) : rd_T89 l (j : Int) ∈ l := by
  unfold rd_T89
  rw [Int.toNat_natCast, List.getD_eq_getElem?_getD, List.getElem?_eq_getElem h]
  exact List.getElem_mem h
theorem sane_long {l : List S32} (h : Sane l) : l.length < 4398046511104 ∧ ∀ c ∈ l, c.f2.length < 5864062014805 := by
  have h1 := h.size
  refine ⟨by omega, fun c hc => ?_⟩
  have := (h.2.2 c hc).2.2
  have := this.2.1
  omega
theorem hp_NewS (A0 : Option Addr) (c0 : Nat) (l0 : List S32) (room : Int) (w : World) (hr0 : Kd.C k32 w A0 l0.length l0) (hc0 : l0.length ≤ c0) (hs : Sane l0) :
    Calls Try.prog 9 #[.slice A0 l0.length c0, .int .i64 room] w fun e w' => (∃ n : Int, n ≠ 0 ∧ e = .returned (.tuple #[.pointer none, .int .i64 n]) ∧ Below w.heap.size w w') ∨ (∃ (hb B : Nat) (vc : Value), e = .returned (.tuple #[.pointer (some ⟨hb, 0, none⟩), .int .i64 0]) ∧ HeapAt w ⟨hb, B, vc, l0, room, 0, 0, fun _ => none, fun _ => False, w⟩ w' ∧ LifeS l0 room 0 ⟨hb, B, vc, l0, room, 0, 0, fun _ => none, fun _ => False, w⟩) := by
  obtain ⟨h1, h2⟩ := sane_long hs
  obtain ⟨k, hk⟩ := impl_check l0 hs
  have hk := hk k (Nat.le_refl k)
  refine (hp_New k A0 c0 l0 room (checkB l0).1 (checkB l0).2 w hr0 hc0 h1 h2 hk).mono ?_
  rintro e w' (⟨h, h3, h4⟩ | ⟨_, _, h, h3, h4⟩ | ⟨_, _, h, hb, B, vc, h3, h4⟩)
  · exact .inl ⟨1, by decide, h3, h4⟩
  · exact .inl ⟨_, h, h3, h4⟩
  · exact .inr ⟨hb, B, vc, h3, h4, LifeS.start hb B vc ((good_iff l0).1 h) room w⟩
theorem int_wf {n : Int} (h : (Lit.int .i64 n).wf = true) : I64 n := by
  simp [Lit.wf, IntKind.min, IntKind.max, IntKind.signed, IntKind.bits] at h
  exact h
set_option maxHeartbeats 1600000 in
set_option maxRecDepth 100000 in
theorem lived_calls (A0 : Option Addr) (c0 : Nat) (l0 : List S32) (room : Int) (A2 : Option Addr) (c2 : Nat) (acts : List S89) (w : World) (hr0 : Kd.C k32 w A0 l0.length l0) (hc0 : l0.length ≤ c0) (hr2 : Kd.C k89 w A2 acts.length acts) (hc2 : acts.length ≤ c2) (hs : Sane l0) (ha : acts.length * 56 ≤ 140737488351232) (hax : ∀ x ∈ acts, Ok89 x) :
    Calls Try.prog 15 #[.agg #[.slice A0 l0.length c0, .int .i64 room, .slice A2 acts.length c2]] w fun e w' => (e = .returned (.pointer none) ∧ Below w.heap.size w w') ∨ ∃ s : HS, e = .returned (.pointer (some ⟨s.hb, 0, none⟩)) ∧ HeapAt w s w' ∧ LifeS l0 room acts.length s := by
  have HR := Aside0.mk hr0
  have HC := Aside0.mk hc0
  have HA := Aside0.mk hr2
  have HC2 := Aside0.mk hc2
  have HSA := Aside0.mk hs
  have HAL := Aside0.mk ha
  have HAX := Aside0.mk hax
  clear hr0 hc0 hr2 hc2 hs ha hax
  go_enter Try.func15, Try.ntmps15
  go_wp2_with ((with_reducible refine gate_dst (N := 1) rfl ?_); refine rw_box rfl 43 rfl (cs := #[.slice A0 l0.length c0, .int .i64 room, .slice A2 acts.length c2]) rfl (Rws.nil w) ?_; intro b1 w1 hX; have HX := Aside0.mk hX; clear hX; have f0 := blk_cell (HX.out.mem List.mem_cons_self) 0; have f1 := blk_cell (HX.out.mem List.mem_cons_self) 1; have f2 := blk_cell (HX.out.mem List.mem_cons_self) 2; simp only [List.getElem?_toArray, List.getElem?_cons_zero, List.getElem?_cons_succ] at f0 f1 f2)
  have HB1 := Aside0.mk HX.out.below
  refine (hp_NewS A0 c0 l0 room w1 (Kd.C_below HR.out HB1.out) HC.out HSA.out).mono ?_
  rintro e w3 (⟨n, h, rfl, hb⟩ | ⟨hb, B, vc, rfl, hH, hL⟩)
  · have HB3 := Aside0.mk (below_then HB1.out HB1.out.size hb)
    have d1 : (n != 0) = true := by rw [bne_iff_ne]; exact h
    have d2 : (n == 0) = false := by rw [beq_eq_false_iff_ne]; exact h
    clear hb h
    go_wp2_with fail
    go_ret
    exact Or.inl ⟨rfl, HB3.out⟩
  have H := Aside0.mk hH
  have L := Aside0.mk hL
  have HX3 := Aside0.mk (HX.out.step H.out.below)
  clear hH hL f0 f1 f2
  have f0 := blk_cell (HX3.out.mem List.mem_cons_self) 0
  have f1 := blk_cell (HX3.out.mem List.mem_cons_self) 1
  have f2 := blk_cell (HX3.out.mem List.mem_cons_self) 2
  simp only [List.getElem?_toArray, List.getElem?_cons_zero, List.getElem?_cons_succ] at f0 f1 f2
  go_wp2_with fail
  go_loopw [20] (fun v20 wr => ∃ (j : Nat) (s : HS), v20 = .int .i64 (j : Int) ∧ j ≤ acts.length ∧ Aside0 (s.hb = hb) ∧ Aside0 (HeapAt w1 s wr) ∧ Aside0 (LifeS l0 room j s)) (fun v20 _ => ((acts.length : Int) - intOf v20).toNat)
  case atStart => exact ⟨0, _, rfl, Nat.zero_le _, ⟨rfl⟩, H, L⟩
  case round =>
    rename_i wr
    clear H L HX3 f0 f1 f2
    obtain ⟨j, s, rfl, hj, HHB, H, L⟩ := hrel
    have HBW := Aside0.mk (below_then HB1.out HB1.out.size H.out.below)
    by_cases c1 : j < acts.length
    · have c1b : decide ((j : Int) < (acts.length : Int)) = true := decide_eq_true (by omega)
      have c1c : decide (j < acts.length) = true := decide_eq_true c1
      have p5 : (0 ≤ (j : Int)) = True := eq_true (by omega)
      have p6 : ((j : Int) < (acts.length : Int)) = True := eq_true (by omega)
      have HJ := Aside0.mk c1
      have HW := Aside0.mk (wrap_h c1 (by have := HAL.out; omega))
      have hlast := L.out.last
      have HLT := Aside0.mk (show s.last < 4398046511104 by have := HAL.out; omega)
      obtain ⟨x, hx⟩ : ∃ x, x = rd_T89 acts (j : Int) := ⟨_, rfl⟩
      obtain ⟨ad, A4, c4, e1, hx0, hx1, hx2, hx3, hx4, hx5, hx6⟩ := at_T89 (Kd.C_below HA.out HBW.out) (j : Int) (by omega) (by omega)
      cases e1
      rw [← hx, Int.toNat_natCast] at hx0 hx1 hx2 hx3 hx4
      rw [← hx] at hx5 hx6
      have HF5 := Aside0.mk hx5
      have HF6 := Aside0.mk hx6
      have HXO := Aside0.mk (HAX.out x (by rw [hx]; exact rd_mem_a c1))
      clear c1 hx hx5 hx6 hlast
      go_wp2_with fail
      · replace HF6 := Aside0.mk (Kd.C_below HF6.out (below_alloc (Below.refl wr.heap.size wr) (.cells #[.int .i64 x.f0, .int .i64 x.f1, .int .i64 x.f2, .int .i64 x.f3, .slice A4 x.f4.length c4] 89)))
        replace H := Aside0.mk (H.out.step (below_alloc (Below.refl wr.heap.size wr) (.cells #[.int .i64 x.f0, .int .i64 x.f1, .int .i64 x.f2, .int .i64 x.f3, .slice A4 x.f4.length c4] 89)))
        clear hx0 hx1 hx2 hx3 hx4
        generalize wr.alloc (.cells #[.int .i64 x.f0, .int .i64 x.f1, .int .i64 x.f2, .int .i64 x.f3, .slice A4 x.f4.length c4] 89) = w4 at H HF6 ⊢
        have hcall := hp_Record w1 s x.f1 _ (by rw [L.out.l]; exact impl_fields' L.out.good x.f1) (by have := HLT.out; omega) w4 H.out
        rw [HHB.out] at hcall
        refine hcall.mono ?_
        clear hcall
        rintro e w5 ⟨rfl, hH⟩
        replace H := Aside0.mk hH
        replace L := Aside0.mk (L.out.record x.f1)
        replace HHB : Aside0 (((recordM s x.f1).2.2).hb = hb) := ⟨by rw [recordM_hb]; exact HHB.out⟩
        clear hH
        go_wp2_with fail
        go_roundw
        case rel => exact ⟨j + 1, _, (by rw [HW.out]), HJ.out, HHB, H, L⟩
        case measure => exact meas_h HJ.out HW.out
      · replace HF6 := Aside0.mk (Kd.C_below HF6.out (below_alloc (Below.refl wr.heap.size wr) (.cells #[.int .i64 x.f0, .int .i64 x.f1, .int .i64 x.f2, .int .i64 x.f3, .slice A4 x.f4.length c4] 89)))
        replace H := Aside0.mk (H.out.step (below_alloc (Below.refl wr.heap.size wr) (.cells #[.int .i64 x.f0, .int .i64 x.f1, .int .i64 x.f2, .int .i64 x.f3, .slice A4 x.f4.length c4] 89)))
        clear hx0 hx1 hx2 hx3 hx4
        generalize wr.alloc (.cells #[.int .i64 x.f0, .int .i64 x.f1, .int .i64 x.f2, .int .i64 x.f3, .slice A4 x.f4.length c4] 89) = w4 at H HF6 ⊢
        have hcall := hp_Row w1 s x.f1 (int_wf HXO.out.2.1).2 (by have := HLT.out; omega) w4 H.out
        rw [HHB.out] at hcall
        refine hcall.mono ?_
        clear hcall
        rintro e w5 ⟨rfl, hH⟩
        replace H := Aside0.mk hH
        replace L := Aside0.mk (L.out.row x.f1)
        replace HHB : Aside0 (((rowM s x.f1).2.2).hb = hb) := ⟨by rw [rowM_hb]; exact HHB.out⟩
        clear hH
        go_wp2_with fail
        go_roundw
        case rel => exact ⟨j + 1, _, (by rw [HW.out]), HJ.out, HHB, H, L⟩
        case measure => exact meas_h HJ.out HW.out
      · replace HF6 := Aside0.mk (Kd.C_below HF6.out (below_alloc (Below.refl wr.heap.size wr) (.cells #[.int .i64 x.f0, .int .i64 x.f1, .int .i64 x.f2, .int .i64 x.f3, .slice A4 x.f4.length c4] 89)))
        replace H := Aside0.mk (H.out.step (below_alloc (Below.refl wr.heap.size wr) (.cells #[.int .i64 x.f0, .int .i64 x.f1, .int .i64 x.f2, .int .i64 x.f3, .slice A4 x.f4.length c4] 89)))
        clear hx0 hx1 hx2 hx3 hx4
        generalize wr.alloc (.cells #[.int .i64 x.f0, .int .i64 x.f1, .int .i64 x.f2, .int .i64 x.f3, .slice A4 x.f4.length c4] 89) = w4 at H HF6 ⊢
        have hcall := hp_Put w1 s x.f1 x.f2 x.f3 (int_wf HXO.out.2.1) w4 H.out
        rw [HHB.out] at hcall
        refine hcall.mono ?_
        clear hcall
        rintro e w5 ⟨rfl, hH⟩
        replace H := Aside0.mk hH
        replace L := Aside0.mk (L.out.put x.f1 x.f2 x.f3)
        replace HHB : Aside0 (((putM s x.f1 x.f2 x.f3).2).hb = hb) := ⟨by rw [(putM_keeps s x.f1 x.f2 x.f3).2.2.2.2]; exact HHB.out⟩
        clear hH
        go_wp2_with fail
        go_roundw
        case rel => exact ⟨j + 1, _, (by rw [HW.out]), HJ.out, HHB, H, L⟩
        case measure => exact meas_h HJ.out HW.out
      · replace HF6 := Aside0.mk (Kd.C_below HF6.out (below_alloc (Below.refl wr.heap.size wr) (.cells #[.int .i64 x.f0, .int .i64 x.f1, .int .i64 x.f2, .int .i64 x.f3, .slice A4 x.f4.length c4] 89)))
        replace H := Aside0.mk (H.out.step (below_alloc (Below.refl wr.heap.size wr) (.cells #[.int .i64 x.f0, .int .i64 x.f1, .int .i64 x.f2, .int .i64 x.f3, .slice A4 x.f4.length c4] 89)))
        clear hx0 hx1 hx2 hx3 hx4
        generalize wr.alloc (.cells #[.int .i64 x.f0, .int .i64 x.f1, .int .i64 x.f2, .int .i64 x.f3, .slice A4 x.f4.length c4] 89) = w4 at H HF6 ⊢
        have hcall := hp_CollectS w1 s L.out.sum (by rw [L.out.l]; exact L.out.good) (by have := HLT.out; omega) A4 c4 x.f4 w4 H.out HF6.out (fun y hy => int_wf (HXO.out.2.2.2.2.2.2 y hy)) (by have := HXO.out.2.2.2.2.2.1; omega)
        rw [HHB.out] at hcall
        refine hcall.mono ?_
        clear hcall
        rintro e w5 (⟨_, rfl, hH⟩ | ⟨met, _, _, rfl, hH⟩)
        · replace H := Aside0.mk hH
          replace L := Aside0.mk L.out.up
          clear hH
          go_wp2_with fail
          go_roundw
          case rel => exact ⟨j + 1, _, (by rw [HW.out]), HJ.out, HHB, H, L⟩
          case measure => exact meas_h HJ.out HW.out
        · replace H := Aside0.mk hH
          replace L := Aside0.mk (L.out.collect met)
          replace HHB : Aside0 ((colS s met).hb = hb) := ⟨by rw [colS_hb]; exact HHB.out⟩
          clear hH
          go_wp2_with fail
          go_roundw
          case rel => exact ⟨j + 1, _, (by rw [HW.out]), HJ.out, HHB, H, L⟩
          case measure => exact meas_h HJ.out HW.out
      · replace H := Aside0.mk (H.out.step (below_alloc (Below.refl wr.heap.size wr) (.cells #[.int .i64 x.f0, .int .i64 x.f1, .int .i64 x.f2, .int .i64 x.f3, .slice A4 x.f4.length c4] 89)))
        replace L := Aside0.mk L.out.up
        go_roundw
        case rel => exact ⟨j + 1, _, (by rw [HW.out]), HJ.out, HHB, H, L⟩
        case measure => exact meas_h HJ.out HW.out
    · have c1b : decide ((j : Int) < (acts.length : Int)) = false := decide_eq_false (by omega)
      have c1c : decide (j < acts.length) = false := decide_eq_false c1
      have hje : j = acts.length := by omega
      rw [hje] at L
      clear c1 hj hje
      go_wp2_with fail
      go_ret
      exact Or.inr ⟨s, (by rw [HHB.out]; rfl), H.out.lower HB1.out, L.out⟩
end Go.Proofs.Ytkjagcamikkjkaa.P

end

section
namespace Go.Proofs.Ytkjagcamikkjkaa.P
open Go.RowKit Go.Proofs.YtkjagcamikkjkaaW.PrintWords Go.Proofs.YtkjagcamikkjkaaW.PrintLast Go.Proofs.YtkjagcamikkjkaaW.PrintMore
attribute [local go_sem] max2_int min2_int max_two min_two max_three min_three max_four min_four
set_option linter.unusedVariables false
set_option linter.unusedSimpArgs false
theorem wrap_one {i n : Nat} (h : i < n) (hn : n ≤ 9223372036854775807) : wrap64 ((i : Int) + 1) = ((i + 1 : Nat) : Int) := by unfold wrap64; omega
theorem drop_at {l : List Int} {i : Nat} (h : i < l.length) : l.drop i = rd l (i : Int) :: l.drop (i + 1) := by
  rw [List.drop_eq_getElem_cons h]
  congr 1
  show l[i] = l.getD (i : Int).toNat 0
  rw [Int.toNat_natCast, List.getD_eq_getElem?_getD, List.getElem?_eq_getElem h]
  rfl
theorem index_go (l : List Int) (hl : l.length ≤ 9223372036854775807) (x : Int) : ∀ (d i : Nat), l.length - i = d → i ≤ l.length → ∃ r : Int, Ev (fun k => slices_Index_int_int.l0 k l x (l.length : Int) (i : Int)) r ∧ (0 ≤ r ↔ x ∈ l.drop i) ∧ r < (l.length : Int) ∧ (0 ≤ r → rd l r = x)
  | 0, i, hd, hi => by
    obtain rfl : i = l.length := by omega
    refine ⟨-1, Ev.step (f := fun _ => some (-1)) (fun k => ?_) (Ev.now _), ?_, by omega, fun h => by omega⟩
    · simp only [slices_Index_int_int.l0]
      rw [if_neg (by omega)]
    · rw [List.drop_length]
      exact ⟨fun h => by omega, fun h => by cases h⟩
  | d + 1, i, hd, hi => by
    have h1 : i < l.length := by omega
    rw [drop_at h1]
    by_cases h2 : x = rd l (i : Int)
    · refine ⟨(i : Int), Ev.step (f := fun _ => some (i : Int)) (fun k => ?_) (Ev.now _), ⟨fun _ => by rw [h2]; simp, fun _ => by omega⟩, by omega, fun _ => h2.symm⟩
      simp only [slices_Index_int_int.l0]
      rw [if_pos (by omega), if_pos (by omega), if_pos (by omega), if_pos h2]
    · obtain ⟨r, hr, hm, hb, hx⟩ := index_go l hl x d (i + 1) (by omega) (by omega)
      refine ⟨r, Ev.step (fun k => ?_) hr, ?_, hb, hx⟩
      · simp only [slices_Index_int_int.l0]
        rw [if_pos (by omega), if_pos (by omega), if_pos (by omega), if_neg h2, wrap_one h1 hl]
      · rw [hm, List.mem_cons]
        exact ⟨fun h => .inr h, fun h => h.resolve_left h2⟩
theorem index_ev (l : List Int) (hl : l.length ≤ 9223372036854775807) (x : Int) : ∃ r : Int, Ev (fun k => slices_Index_int_int.f k l x) r ∧ (0 ≤ r ↔ x ∈ l) ∧ r < (l.length : Int) ∧ (0 ≤ r → rd l r = x) := by
  have h := index_go l hl x l.length 0 (by omega) (by omega)
  rw [List.drop_zero] at h
  exact h
theorem contains_ev (l : List Int) (hl : l.length ≤ 9223372036854775807) (x : Int) : Ev (fun k => slices_Contains_int_int.f k l x) (decide (x ∈ l)) := by
  obtain ⟨r, h1, h2, _⟩ := index_ev l hl x
  refine Ev.congr (f := fun k => (slices_Index_int_int.f k l x).bind fun t => some (decide (t ≥ 0))) (fun k => rfl) (Ev.bind h1 ?_)
  have e : decide (r ≥ 0) = decide (x ∈ l) := by
    by_cases h : x ∈ l
    · rw [decide_eq_true h, decide_eq_true (h2.2 h)]
    · rw [decide_eq_false h, decide_eq_false (fun h9 => h (h2.1 h9))]
  simp only [e]
  exact Ev.now _
theorem ct_Contains (A : Option Addr) (c : Nat) (l : List Int) (x : Int) (w : World) (hr : Kd.C (Kd.int .i64) w A l.length l) (hc : l.length ≤ c) :
    Calls Try.prog 27 #[.slice A l.length c, .int .i64 x] w fun e w' => e = .returned (.bool (decide (x ∈ l))) ∧ Below w.heap.size w w' := by
  obtain ⟨k, hk⟩ := (contains_ev l (Kd.C_max hr) x).rounds
  exact (slices_Contains_int_int.calls k A c l x _ w hr hc hk).mono fun e w' h => ⟨h.1, h.2.below⟩
theorem int_fits {n : Nat} (h : n ≤ 17592186060800) : Builtin.nextslicecap (n + 1) n * 8 ≤ 281474976710656 := by
  unfold Builtin.nextslicecap
  split
  · omega
  · split
    · omega
    · have h1 : ∀ r c : Nat, n + 1 ≤ c → Builtin.growBy (n + 1) r c = c := fun r c hc => by
        cases r with
        | zero => rfl
        | succ r => unfold Builtin.growBy; rw [if_pos hc]
      unfold Builtin.growBy
      rw [if_neg (by omega), h1 3 _ (by omega)]
      omega
section
variable {ops : Array Oper} {rest : List Oper} {o : Oper} {a : Act} {Q : Exit → Act → World → Prop}
theorem ap_int (hgd : o.guard = none) {s x : Operand} (ho : o.op = .call { callee := .builtin .append, args := #[s, x], argTypes := #[37, 37] }) {w0 W : World} (base : Nat) {v : Value} {xs : List Int} (p : Int) (HO : Kd.R (Kd.int .i64) 3 W base (fun _ => True) v xs) (hs : a.eval s = v) (hx : a.eval x = .slice (some ⟨W.heap.size, 0, none⟩) 1 1)
    (HB : Below base w0 W) (hbase : base ≤ W.heap.size) (hl : xs.length ≤ 17592186060800)
    (h : ∀ v1 w1, Kd.R (Kd.int .i64) 3 w1 base (fun _ => True) v1 (xs ++ [p]) → Below base w0 w1 → wpList Try.prog ops Q rest (a.put o.dst v1) w1) : wpList Try.prog ops Q (o :: rest) a (W.alloc (.cells #[.int .i64 p] 3)) :=
  wpList_plain hgd fun K hK => R_append1_wp (Kd.int .i64) (w0 := w0) base hgd s x 37 3 (.int .i64 0) 8 ho Try.underlying37 info3 rfl (by decide) (by decide) v xs p [.int .i64 p] (fun _ => True) (fun _ => False) hs hx rfl (fun _ h => h.elim) (fun _ _ => trivial) HO HB hbase (by unfold maxLen; omega) (int_fits hl) (fun v1 w1 h1 h2 _ _ => hK _ _ (h v1 w1 h1 h2))
end
end Go.Proofs.Ytkjagcamikkjkaa.P

end

section
namespace Go.Proofs.Ytkjagcamikkjkaa.P
open Go.RowKit Go.Proofs.YtkjagcamikkjkaaW.PrintWords Go.Proofs.YtkjagcamikkjkaaW.PrintLast Go.Proofs.YtkjagcamikkjkaaW.PrintMore
attribute [local go_sem] max2_int min2_int max_two min_two max_three min_three max_four min_four
set_option linter.unusedVariables false
set_option linter.unusedSimpArgs false
set_option maxHeartbeats 1600000 in
set_option maxRecDepth 100000 in
theorem live_calls (w0 : World) (s : HS) (hs : SumOK s) (hlast : s.last < 17592186044416) (A : Option Addr) (c : Nat) (l : List Int) (w : World) (h : HeapAt w0 s w) (hC : (Kd.int .i64).C w A l.length l) (hc : l.length ≤ c) (hl : l.length < 17592186044416) :
    Calls Try.prog 22 #[.pointer (some ⟨s.hb, 0, none⟩), .slice A l.length c] w fun e w' => ∃ v : Value, e = .returned v ∧ Kd.R (Kd.int .i64) 3 w' w.heap.size (fun _ => True) v (l.filter fun x => (s.m x).isSome) ∧ Below w.heap.size w w' := by
  have H := Aside0.mk h
  have HSM := Aside0.mk hs
  have HLA := Aside0.mk hlast
  have HR := Aside0.mk hC
  have HC := Aside0.mk hc
  have HL := Aside0.mk hl
  clear h hs hlast hC hc hl
  go_enter Try.func22, Try.ntmps22
  go_wp2
  go_loopw [5, 10] (fun v5 v10 wr => ∃ (j : Nat) (v : Value), v10 = .int .i64 (j : Int) ∧ v5 = v ∧ j ≤ l.length ∧ Aside0 (Below w.heap.size w wr) ∧ Aside0 (Kd.R (Kd.int .i64) 3 wr w.heap.size (fun _ => True) v ((l.take j).filter fun x => (s.m x).isSome))) (fun _ v10 _ => ((l.length : Int) - intOf v10).toNat)
  case atStart => exact ⟨0, _, rfl, rfl, Nat.zero_le _, ⟨Below.refl _ _⟩, ⟨Kd.R_nil _ _ _ _ _⟩⟩
  case round =>
    rename_i wr
    obtain ⟨j, v, rfl, rfl, hj, HB, HV⟩ := hrel
    obtain ⟨Av, cv, ev⟩ := Kd.R_slice HV.out
    subst ev
    by_cases c1 : j < l.length
    · obtain ⟨x, hx⟩ : ∃ x, x = rd l (j : Int) := ⟨_, rfl⟩
      obtain ⟨ad, e1, hxa⟩ := Kd.at_int (Kd.C_below HR.out HB.out) (j : Int) (by omega) (by omega)
      cases e1
      rw [← hx, Int.toNat_natCast] at hxa
      have HTK := Aside0.mk (show (l.take (j + 1)).filter (fun x => (s.m x).isSome) = (l.take j).filter (fun x => (s.m x).isSome) ++ (if (s.m x).isSome = true then [x] else []) by
        rw [List.take_succ_eq_append_getElem c1, List.filter_append]
        congr 1
        have e9 : l[j] = x := by rw [hx]; unfold rd; rw [Int.toNat_natCast, List.getD_eq_getElem?_getD, List.getElem?_eq_getElem c1]; rfl
        rw [e9]
        by_cases h9 : (s.m x).isSome = true
        · rw [if_pos h9]; simp [h9]
        · rw [if_neg h9]; simp at h9; simp [h9])
      have HVL := Aside0.mk (show ((l.take j).filter fun x => (s.m x).isSome).length ≤ 17592186060800 by
        have h1 := List.length_filter_le (fun x => (s.m x).isSome) (l.take j)
        have h2 := List.length_take_le j l
        have h3 := HL.out
        omega)
      have c1b : decide ((j : Int) < (l.length : Int)) = true := decide_eq_true (by omega)
      have c1c : decide (j < l.length) = true := decide_eq_true c1
      have p5 : (0 ≤ (j : Int)) = True := eq_true (by omega)
      have p6 : ((j : Int) < (l.length : Int)) = True := eq_true (by omega)
      have HJ := Aside0.mk c1
      have HW := Aside0.mk (wrap_h c1 (by have := HL.out; omega))
      clear hx c1
      go_wp2_with fail
      refine (hp_LiveS w0 s HSM.out HLA.out wr (H.out.step HB.out)).mono ?_
      rintro e w5 ⟨u, rfl, hU, hb⟩
      replace HB := Aside0.mk (below_step HB.out hb)
      replace HV := Aside0.mk (Kd.R_below HV.out hb)
      obtain ⟨Au, cu, eu, hcu, hUC⟩ := Kd.R_reads hU
      subst eu
      have HU := Aside0.mk hUC
      have HUC := Aside0.mk hcu
      clear hU hb hcu hUC hxa
      go_wp2_with fail
      refine (ct_Contains Au cu (liveL s) x w5 HU.out HUC.out).mono ?_
      rintro e w6 ⟨rfl, hb⟩
      replace HB := Aside0.mk (below_step HB.out hb)
      replace HV := Aside0.mk (Kd.R_below HV.out hb)
      have hmm := liveL_mem HSM.out.1 x
      clear hb HU
      by_cases cm : x ∈ liveL s
      · have d1 : decide (x ∈ liveL s) = true := decide_eq_true cm
        replace HTK := HTK.out
        rw [if_pos (hmm.1 cm)] at HTK
        replace HTK := Aside0.mk HTK
        clear hmm cm
        go_wp2_with ((with_reducible refine gate_dst (N := 21) rfl ?_); refine ap_int rfl rfl (w0 := w) w.heap.size x HV.out rfl rfl HB.out HB.out.size HVL.out ?_; intro v9 w9 hV hb9; replace HV := Aside0.mk hV; replace HB := Aside0.mk hb9; clear hV hb9; obtain ⟨A9, c9, e9⟩ := Kd.R_slice HV.out; subst e9)
        go_roundw
        case rel => exact ⟨j + 1, _, (by rw [HW.out]), rfl, HJ.out, HB, ⟨by rw [HTK.out]; have h9 := HV.out; simp only [List.length_append, List.length_singleton] at h9; exact h9⟩⟩
        case measure => exact meas_h HJ.out HW.out
      · have d1 : decide (x ∈ liveL s) = false := decide_eq_false cm
        replace HTK := HTK.out
        rw [if_neg (fun h => cm (hmm.2 h)), List.append_nil] at HTK
        replace HTK := Aside0.mk HTK
        clear hmm cm
        go_wp2_with fail
        go_roundw
        case rel => exact ⟨j + 1, _, (by rw [HW.out]), rfl, HJ.out, HB, ⟨by rw [HTK.out]; exact HV.out⟩⟩
        case measure => exact meas_h HJ.out HW.out
    · have c1b : decide ((j : Int) < (l.length : Int)) = false := decide_eq_false (by omega)
      have c1c : decide (j < l.length) = false := decide_eq_false c1
      obtain ⟨ys, hys⟩ : ∃ ys, ys = (l.take j).filter fun x => (s.m x).isSome := ⟨_, rfl⟩
      rw [← hys] at HV ⊢
      rw [List.take_of_length_le (by omega)] at hys
      have HE := Aside0.mk hys
      clear hys c1 hj
      go_wp2_with fail
      go_ret
      exact ⟨_, rfl, by rw [← HE.out]; exact HV.out, HB.out⟩
end Go.Proofs.Ytkjagcamikkjkaa.P

end

section
namespace Go.Proofs.Ytkjagcamikkjkaa.P
open Go.RowKit Go.Proofs.YtkjagcamikkjkaaW.PrintWords Go.Proofs.YtkjagcamikkjkaaW.PrintLast Go.Proofs.YtkjagcamikkjkaaW.PrintMore
attribute [local go_sem] max2_int min2_int max_two min_two max_three min_three max_four min_four
set_option linter.unusedVariables false
set_option linter.unusedSimpArgs false
def placesM (s : HS) (x : Int) : List Int := if x = 0 then [] else ((s.m x).getD (0, [])).2
theorem lenM_places (s : HS) (x : Int) : (lenM s x).1 = ((placesM s x).length : Int) := by
  unfold lenM placesM
  by_cases h : x = 0
  · rw [if_pos h, if_pos h]; rfl
  · rw [if_neg h, if_neg h]
    cases s.m x <;> rfl
theorem getM_places {s : HS} {x : Int} {j : Nat} (h : j < (placesM s x).length) : getM s x (j : Int) = (rd (placesM s x) (j : Int), 0) := by
  by_cases h0 : x = 0
  · unfold placesM at h
    rw [if_pos h0] at h
    exact absurd h (Nat.not_lt_zero _)
  · cases hm : s.m x with
    | none =>
      unfold placesM at h
      rw [if_neg h0, hm] at h
      exact absurd h (Nat.not_lt_zero _)
    | some o =>
      have hp : placesM s x = o.2 := by unfold placesM; rw [if_neg h0, hm]; rfl
      rw [hp] at h ⊢
      have he := placeE_in (i := (j : Int)) h0 hm ⟨by omega, by omega⟩
      unfold getM numAt
      rw [if_pos he, hm]
      rfl
set_option maxHeartbeats 1600000 in
set_option maxRecDepth 100000 in
theorem places_calls (w0 : World) (s : HS) (x : Int) (hk : I64 x) (w : World) (h : HeapAt w0 s w) :
    Calls Try.prog 25 #[.pointer (some ⟨s.hb, 0, none⟩), .int .i64 x] w fun e w' => ∃ v : Value, e = .returned v ∧ Kd.R (Kd.int .i64) 3 w' w.heap.size (fun _ => True) v (placesM s x) ∧ Below w.heap.size w w' := by
  have HPL := Aside0.mk (show (placesM s x).length ≤ 4096 by
    unfold placesM
    split
    · simp
    · cases hm : s.m x with
      | none => simp
      | some o => exact (h.dom x o hm).2.2.1)
  have H := Aside0.mk h
  have HK := Aside0.mk hk
  have hlm := lenM_places s x
  obtain ⟨l, hl⟩ : ∃ l, l = placesM s x := ⟨_, rfl⟩
  rw [← hl] at hlm HPL ⊢
  have HGP := Aside0.mk (show ∀ j : Nat, j < l.length → getM s x (j : Int) = (rd l (j : Int), 0) by rw [hl]; exact fun j hj => getM_places hj)
  have HLM := Aside0.mk hlm
  clear h hk hl hlm
  go_enter Try.func25, Try.ntmps25
  go_wp2_with fail
  refine (hp_Len w0 s x HK.out w H.out).mono ?_
  rw [HLM.out]
  rintro e w3 ⟨rfl, hb⟩
  have HB := Aside0.mk hb
  clear hb
  go_wp2_with fail
  go_loopw [7, 18] (fun v7 v18 wr => ∃ (j : Nat) (v : Value) (zs : List Int), v18 = .int .i64 (j : Int) ∧ v7 = v ∧ j ≤ l.length ∧ Aside0 (Below w.heap.size w wr) ∧ Aside0 (zs = l.take j) ∧ Aside0 (Kd.R (Kd.int .i64) 3 wr w.heap.size (fun _ => True) v zs)) (fun _ v18 _ => ((l.length : Int) - intOf v18).toNat)
  case atStart => exact ⟨0, _, [], rfl, rfl, Nat.zero_le _, HB, ⟨rfl⟩, ⟨Kd.R_nil _ _ _ _ _⟩⟩
  case round =>
    rename_i wr
    clear HB
    obtain ⟨j, v, zs, rfl, rfl, hj, HB, HZ, HV⟩ := hrel
    obtain ⟨Av, cv, ev⟩ := Kd.R_slice HV.out
    subst ev
    by_cases c1 : j < l.length
    · obtain ⟨y, hy⟩ : ∃ y, y = rd l (j : Int) := ⟨_, rfl⟩
      have hg := HGP.out j c1
      rw [← hy] at hg
      have HG := Aside0.mk hg
      have HTK := Aside0.mk (show zs ++ [y] = l.take (j + 1) by
        rw [List.take_succ_eq_append_getElem c1, hy, HZ.out]
        unfold rd
        rw [Int.toNat_natCast, List.getD_eq_getElem?_getD, List.getElem?_eq_getElem c1]
        rfl)
      have HVL := Aside0.mk (show zs.length ≤ 17592186060800 by
        rw [HZ.out]
        have h2 := List.length_take_le j l
        have h3 := HPL.out
        omega)
      have c1b : decide ((j : Int) < (l.length : Int)) = true := decide_eq_true (by omega)
      have c1c : decide (j < l.length) = true := decide_eq_true c1
      have HJ := Aside0.mk c1
      have HW := Aside0.mk (wrap_h c1 (by have := HPL.out; omega))
      clear hy c1 hg
      go_wp2_with fail
      refine (hp_Get w0 s x (j : Int) HK.out wr (H.out.step HB.out)).mono ?_
      rw [HG.out]
      rintro e w5 ⟨rfl, hb⟩
      replace HB := Aside0.mk (below_step HB.out hb)
      replace HV := Aside0.mk (Kd.R_below HV.out hb)
      clear hb
      go_wp2_with ((with_reducible refine gate_dst (N := 31) rfl ?_); refine ap_int rfl rfl (w0 := w) w.heap.size y HV.out rfl rfl HB.out HB.out.size HVL.out ?_; intro v9 w9 hV hb9; replace HV := Aside0.mk hV; replace HB := Aside0.mk hb9; clear hV hb9; obtain ⟨A9, c9, e9⟩ := Kd.R_slice HV.out; subst e9)
      go_roundw
      case rel => exact ⟨j + 1, _, zs ++ [y], (by rw [HW.out]), rfl, HJ.out, HB, HTK, ⟨by have h9 := HV.out; first | exact h9 | (simp only [List.length_append, List.length_singleton] at h9; exact h9)⟩⟩
      case measure => exact meas_h HJ.out HW.out
    · have c1b : decide ((j : Int) < (l.length : Int)) = false := decide_eq_false (by omega)
      have c1c : decide (j < l.length) = false := decide_eq_false c1
      have HE := Aside0.mk (show zs = l by rw [HZ.out, List.take_of_length_le (by omega)])
      clear c1 hj
      go_wp2_with fail
      go_ret
      exact ⟨_, rfl, by rw [← HE.out]; exact HV.out, HB.out⟩
end Go.Proofs.Ytkjagcamikkjkaa.P

end

section
namespace Go.Proofs.Ytkjagcamikkjkaa.P
open Go.RowKit Go.Proofs.YtkjagcamikkjkaaW.PrintWords Go.Proofs.YtkjagcamikkjkaaW.PrintLast Go.Proofs.YtkjagcamikkjkaaW.PrintMore
attribute [local go_sem] max2_int min2_int max_two min_two max_three min_three max_four min_four
set_option linter.unusedVariables false
set_option linter.unusedSimpArgs false
def cmp_isNaN_int.f (a0 : Int) : Option (Bool) := some (a0 != a0)
set_option maxHeartbeats 8000000 in
set_option maxRecDepth 100000 in
theorem cmp_isNaN_int.calls (a0 : Int) (r : Bool) (w : World) (h : cmp_isNaN_int.f a0 = some r) :
    Calls Try.prog 63 #[.int .i64 a0] w fun e w' => e = .returned (.bool r) ∧ Drawn0 w w' := by
  have H : (some (a0 != a0)) = some r := h
  clear h
  obtain rfl := Option.some.inj H
  go_enter Try.func63, Try.ntmps63
  go_wp2
  go_ret
  exact ⟨by first | rfl | (simp; done) | (simp [*]; done), by repeat (first | exact Drawn0.refl _ | apply Drawn0.step)⟩

def cmp_Less_int.f (a0 : Int) (a1 : Int) : Option (Bool) := (cmp_isNaN_int.f a0).bind fun t111 => (if t111 = true then ((cmp_isNaN_int.f a1).bind fun t112 => (if t112 = true then (some (decide (a0 < a1))) else (some true))) else (some (decide (a0 < a1))))
set_option maxHeartbeats 8000000 in
set_option maxRecDepth 100000 in
theorem cmp_Less_int.calls (a0 : Int) (a1 : Int) (r : Bool) (w : World) (h : cmp_Less_int.f a0 a1 = some r) :
    Calls Try.prog 46 #[.int .i64 a0, .int .i64 a1] w fun e w' => e = .returned (.bool r) ∧ Drawn0 w w' := by
  have H : ((cmp_isNaN_int.f a0).bind fun t111 => (if t111 = true then ((cmp_isNaN_int.f a1).bind fun t112 => (if t112 = true then (some (decide (a0 < a1))) else (some true))) else (some (decide (a0 < a1))))) = some r := h
  clear h
  replace H := Option.bind_eq_some_iff.mp H
  obtain ⟨t111, A30, H⟩ := H
  replace H : (if t111 = true then ((cmp_isNaN_int.f a1).bind fun t112 => (if t112 = true then (some (decide (a0 < a1))) else (some true))) else (some (decide (a0 < a1)))) = some r := H
  have A3 := Aside0.mk A30
  clear A30
  by_cases c4 : t111 = true
  · subst c4
    have H1 : ((cmp_isNaN_int.f a1).bind fun t112 => (if t112 = true then (some (decide (a0 < a1))) else (some true))) = some r := by rw [if_pos rfl] at H; exact H
    clear H
    have H := H1
    clear H1
    replace H := Option.bind_eq_some_iff.mp H
    obtain ⟨t112, A50, H⟩ := H
    replace H : (if t112 = true then (some (decide (a0 < a1))) else (some true)) = some r := H
    have A5 := Aside0.mk A50
    clear A50
    by_cases c6 : t112 = true
    · subst c6
      have H1 : (some (decide (a0 < a1))) = some r := by rw [if_pos rfl] at H; exact H
      clear H
      have H := H1
      clear H1
      obtain rfl := Option.some.inj H
      go_enter Try.func46, Try.ntmps46
      go_wp2_with (first | ((with_reducible refine gate_callee (f := 63) rfl ?_); refine goesL_ (some 6) rfl rfl Try.func63 (by kernel_rfl) rfl #[.int .i64 a0] rfl (by (try simp only [List.map_toArray, List.map_cons, List.map_nil]); first | done | rfl | (simp only [List.length_drop, List.length_take]; rfl)) ?_; (with_reducible refine (cmp_isNaN_int.calls a0 true _ A3.out).mono ?_); rintro e w' ⟨rfl, ⟨nd, rfl⟩⟩; refine ⟨_, rfl, ?_⟩) | (go_at_call 63; (with_reducible refine (cmp_isNaN_int.calls a1 true _ A5.out).mono ?_); rintro e w' ⟨rfl, ⟨nd, rfl⟩⟩))
      go_ret
      exact ⟨by first | rfl | (simp; done) | (simp [*]; done), by repeat (first | exact Drawn0.refl _ | apply Drawn0.step)⟩
    · replace c6 := Bool.eq_false_iff.mpr c6
      subst c6
      have H1 : (some true) = some r := by rw [if_neg (show ¬ (false = true) by decide)] at H; exact H
      clear H
      have H := H1
      clear H1
      obtain rfl := Option.some.inj H
      go_enter Try.func46, Try.ntmps46
      go_wp2_with (first | ((with_reducible refine gate_callee (f := 63) rfl ?_); refine goesL_ (some 6) rfl rfl Try.func63 (by kernel_rfl) rfl #[.int .i64 a0] rfl (by (try simp only [List.map_toArray, List.map_cons, List.map_nil]); first | done | rfl | (simp only [List.length_drop, List.length_take]; rfl)) ?_; (with_reducible refine (cmp_isNaN_int.calls a0 true _ A3.out).mono ?_); rintro e w' ⟨rfl, ⟨nd, rfl⟩⟩; refine ⟨_, rfl, ?_⟩) | (go_at_call 63; (with_reducible refine (cmp_isNaN_int.calls a1 false _ A5.out).mono ?_); rintro e w' ⟨rfl, ⟨nd, rfl⟩⟩))
      go_ret
      exact ⟨by first | rfl | (simp; done) | (simp [*]; done), by repeat (first | exact Drawn0.refl _ | apply Drawn0.step)⟩
  · replace c4 := Bool.eq_false_iff.mpr c4
    subst c4
    have H1 : (some (decide (a0 < a1))) = some r := by rw [if_neg (show ¬ (false = true) by decide)] at H; exact H
    clear H
    have H := H1
    clear H1
    obtain rfl := Option.some.inj H
    go_enter Try.func46, Try.ntmps46
    go_wp2_with (first | ((with_reducible refine gate_callee (f := 63) rfl ?_); refine goesL_ (some 6) rfl rfl Try.func63 (by kernel_rfl) rfl #[.int .i64 a0] rfl (by (try simp only [List.map_toArray, List.map_cons, List.map_nil]); first | done | rfl | (simp only [List.length_drop, List.length_take]; rfl)) ?_; (with_reducible refine (cmp_isNaN_int.calls a0 false _ A3.out).mono ?_); rintro e w' ⟨rfl, ⟨nd, rfl⟩⟩; refine ⟨_, rfl, ?_⟩))
    go_ret
    exact ⟨by first | rfl | (simp; done) | (simp [*]; done), by repeat (first | exact Drawn0.refl _ | apply Drawn0.step)⟩

























def slices_IsSorted_int_int.l0 : Nat → List Int → Int → Option (Bool)
  | 0, _, _ => none
  | k + 1, x0, x3 => if x3 > 0 then (if 0 ≤ x3 then (if x3 < (x0.length : Int) then (if 0 ≤ (wrap64 (x3 - 1)) then (if (wrap64 (x3 - 1)) < (x0.length : Int) then ((cmp_Less_int.f (rd x0 x3) (rd x0 (wrap64 (x3 - 1)))).bind fun t142 => (if t142 = true then (some false) else (slices_IsSorted_int_int.l0 k x0 (wrap64 (x3 - 1))))) else (none)) else (none)) else (none)) else (none)) else (some true)
def slices_IsSorted_int_int.f (k : Nat) (l0 : List Int) : Option (Bool) := slices_IsSorted_int_int.l0 k l0 (wrap64 ((l0.length : Int) - 1))
set_option maxHeartbeats 8000000 in
set_option maxRecDepth 100000 in
theorem slices_IsSorted_int_int.calls (k : Nat) (A0 : Option Addr) (c0 : Nat) (l0 : List Int) (r : Bool) (w : World) (hr0 : Kd.C (Kd.int .i64) w A0 l0.length l0) (hc0 : l0.length ≤ c0) (h : slices_IsSorted_int_int.f k l0 = some r) :
    Calls Try.prog 28 #[.slice A0 l0.length c0] w fun e w' => e = .returned (.bool r) ∧ Drawn0 w w' := by
  have HR0 := Aside0.mk hr0
  have HC0 := Aside0.mk hc0
  clear hr0 hc0
  have H : (slices_IsSorted_int_int.l0 k l0 (wrap64 ((l0.length : Int) - 1))) = some r := h
  clear h
  have H' := Aside0.mk H
  clear H
  go_enter Try.func28, Try.ntmps28
  go_wp2
  repeat (go_quiet (fail); try go_wp2)
  go_loopg [3] k (fun kq v3 w' => ∃ (x3_1 : Int), v3 = .int .i64 x3_1 ∧ Aside0 (slices_IsSorted_int_int.l0 kq l0 x3_1 = some r) ∧ Aside0 (kq ≤ k) ∧ Drawn0 w w')
  case atStart => exact ⟨(wrap64 ((l0.length : Int) - 1)), (by first | rfl | (simp; done) | (simp [*]; done)), H', ⟨Nat.le_refl _⟩, by repeat (first | exact Drawn0.refl _ | apply Drawn0.step)⟩
  case round =>
    clear H'
    obtain ⟨x3_1, rfl, HA, HK1, ⟨m1, rfl⟩⟩ := hrel
    cases gk with
    | zero => exact absurd HA.out (by simp [slices_IsSorted_int_int.l0])
    | succ k1 =>
      have H := HA.out
      clear HA
      simp only [slices_IsSorted_int_int.l0] at H
      by_cases c2 : x3_1 > 0
      · rw [if_pos c2] at H
        have c2b0 : decide (0 < x3_1) = true := decide_eq_true c2
        clear c2
        by_cases c3 : 0 ≤ x3_1
        · rw [if_pos c3] at H
          have c3b0 : decide (0 ≤ x3_1) = true := decide_eq_true c3
          clear c3
          by_cases c4 : x3_1 < (l0.length : Int)
          · rw [if_pos c4] at H
            have c4b0 : decide (x3_1 < (l0.length : Int)) = true := decide_eq_true c4
            clear c4
            obtain ⟨ji5, hji5⟩ : ∃ j_ : Int, (wrap64 (x3_1 - 1)) = j_ := ⟨_, rfl⟩
            replace H : (if 0 ≤ (ji5) then (if (ji5) < (l0.length : Int) then ((cmp_Less_int.f (rd l0 x3_1) (rd l0 (ji5))).bind fun t142 => (if t142 = true then (some false) else (slices_IsSorted_int_int.l0 k1 l0 ji5))) else (none)) else (none)) = some r := by first | (rw [hji5] at H; exact H) | (simp only [hji5] at H ⊢; exact H)
            have hji5w : (IntKind.i64.wrap (x3_1 - 1)) = ji5 := (i64_w _).trans hji5
            by_cases c6 : 0 ≤ (ji5)
            · rw [if_pos c6] at H
              have c6b0 : decide (0 ≤ (ji5)) = true := decide_eq_true c6
              clear c6
              by_cases c7 : (ji5) < (l0.length : Int)
              · rw [if_pos c7] at H
                have c7b0 : decide ((ji5) < (l0.length : Int)) = true := decide_eq_true c7
                clear c7
                replace H := Option.bind_eq_some_iff.mp H
                obtain ⟨t142, A80, H⟩ := H
                replace H : (if t142 = true then (some false) else (slices_IsSorted_int_int.l0 k1 l0 ji5)) = some r := H
                have A8 := Aside0.mk A80
                clear A80
                by_cases c9 : t142 = true
                · subst c9
                  have H1 : (some false) = some r := by rw [if_pos rfl] at H; exact H
                  clear H
                  have H := H1
                  clear H1
                  obtain rfl := Option.some.inj H
                  have p140 : 0 ≤ (x3_1 : Int) := of_decide_eq_true (by first | (with_reducible assumption) | assumption)
                  have q140 : x3_1 < (l0.length : Int) := of_decide_eq_true (by first | (with_reducible assumption) | assumption)
                  obtain ⟨ad140, e140, hx140_0⟩ := Kd.at_int HR0.out x3_1 p140 q140
                  cases e140
                  replace p140 := eq_true p140
                  replace q140 := eq_true q140
                  have p141 : 0 ≤ ((ji5) : Int) := of_decide_eq_true (by first | (with_reducible assumption) | assumption)
                  have q141 : (ji5) < (l0.length : Int) := of_decide_eq_true (by first | (with_reducible assumption) | assumption)
                  obtain ⟨ad141, e141, hx141_0⟩ := Kd.at_int HR0.out (ji5) p141 q141
                  obtain rfl : ad140 = ad141 := (by injection e141)
                  replace p141 := eq_true p141
                  replace q141 := eq_true q141
                  go_wp2_with (first | (go_at_call 46; (with_reducible refine (cmp_Less_int.calls (rd l0 x3_1) (rd l0 (ji5)) true _ A8.out).mono ?_); rintro e w' ⟨rfl, ⟨nd, rfl⟩⟩; (try first | exact ⟨rfl, _, World.drewN_drewN _ _ _⟩ | exact ⟨rfl, _, Eq.trans (World.drewN_drewN _ _ _) (congrArg (World.drewN _) (Nat.add_assoc _ _ _))⟩)))
                  repeat (go_quiet (first | (go_at_call 46; (with_reducible refine (cmp_Less_int.calls (rd l0 x3_1) (rd l0 (ji5)) true _ A8.out).mono ?_); rintro e w' ⟨rfl, ⟨nd, rfl⟩⟩; (try first | exact ⟨rfl, _, World.drewN_drewN _ _ _⟩ | exact ⟨rfl, _, Eq.trans (World.drewN_drewN _ _ _) (congrArg (World.drewN _) (Nat.add_assoc _ _ _))⟩))); try go_wp2_with (first | (go_at_call 46; (with_reducible refine (cmp_Less_int.calls (rd l0 x3_1) (rd l0 (ji5)) true _ A8.out).mono ?_); rintro e w' ⟨rfl, ⟨nd, rfl⟩⟩; (try first | exact ⟨rfl, _, World.drewN_drewN _ _ _⟩ | exact ⟨rfl, _, Eq.trans (World.drewN_drewN _ _ _) (congrArg (World.drewN _) (Nat.add_assoc _ _ _))⟩))))
                  go_ret
                  exact ⟨by first | rfl | (simp; done) | (simp only [← hji5] <;> (first | rfl | simp)) | (simp [*]; done), by repeat (first | exact Drawn0.refl _ | apply Drawn0.step)⟩
                · replace c9 := Bool.eq_false_iff.mpr c9
                  subst c9
                  have H1 : (slices_IsSorted_int_int.l0 k1 l0 ji5) = some r := by rw [if_neg (show ¬ (false = true) by decide)] at H; exact H
                  clear H
                  have H := H1
                  clear H1
                  have H' := Aside0.mk H
                  clear H
                  have p140 : 0 ≤ (x3_1 : Int) := of_decide_eq_true (by first | (with_reducible assumption) | assumption)
                  have q140 : x3_1 < (l0.length : Int) := of_decide_eq_true (by first | (with_reducible assumption) | assumption)
                  obtain ⟨ad140, e140, hx140_0⟩ := Kd.at_int HR0.out x3_1 p140 q140
                  cases e140
                  replace p140 := eq_true p140
                  replace q140 := eq_true q140
                  have p141 : 0 ≤ ((ji5) : Int) := of_decide_eq_true (by first | (with_reducible assumption) | assumption)
                  have q141 : (ji5) < (l0.length : Int) := of_decide_eq_true (by first | (with_reducible assumption) | assumption)
                  obtain ⟨ad141, e141, hx141_0⟩ := Kd.at_int HR0.out (ji5) p141 q141
                  obtain rfl : ad140 = ad141 := (by injection e141)
                  replace p141 := eq_true p141
                  replace q141 := eq_true q141
                  go_wp2_with (first | (go_at_call 46; (with_reducible refine (cmp_Less_int.calls (rd l0 x3_1) (rd l0 (ji5)) false _ A8.out).mono ?_); rintro e w' ⟨rfl, ⟨nd, rfl⟩⟩; (try first | exact ⟨rfl, _, World.drewN_drewN _ _ _⟩ | exact ⟨rfl, _, Eq.trans (World.drewN_drewN _ _ _) (congrArg (World.drewN _) (Nat.add_assoc _ _ _))⟩)))
                  repeat (go_quiet (first | (go_at_call 46; (with_reducible refine (cmp_Less_int.calls (rd l0 x3_1) (rd l0 (ji5)) false _ A8.out).mono ?_); rintro e w' ⟨rfl, ⟨nd, rfl⟩⟩; (try first | exact ⟨rfl, _, World.drewN_drewN _ _ _⟩ | exact ⟨rfl, _, Eq.trans (World.drewN_drewN _ _ _) (congrArg (World.drewN _) (Nat.add_assoc _ _ _))⟩))); try go_wp2_with (first | (go_at_call 46; (with_reducible refine (cmp_Less_int.calls (rd l0 x3_1) (rd l0 (ji5)) false _ A8.out).mono ?_); rintro e w' ⟨rfl, ⟨nd, rfl⟩⟩; (try first | exact ⟨rfl, _, World.drewN_drewN _ _ _⟩ | exact ⟨rfl, _, Eq.trans (World.drewN_drewN _ _ _) (congrArg (World.drewN _) (Nat.add_assoc _ _ _))⟩))))
                  go_roundg k1
                  case measure => have := HK1.out; omega
                  case rel => exact ⟨(ji5), (by first | rfl | (simp; done) | (simp only [← hji5] <;> (first | rfl | simp)) | (simp [*]; done)), H', ⟨by have := HK1.out; omega⟩, by repeat (first | exact Drawn0.refl _ | apply Drawn0.step)⟩
              · rw [if_neg c7] at H
                exact absurd H (by simp)
            · rw [if_neg c6] at H
              exact absurd H (by simp)
          · rw [if_neg c4] at H
            exact absurd H (by simp)
        · rw [if_neg c3] at H
          exact absurd H (by simp)
      · rw [if_neg c2] at H
        have c2b0 : decide (0 < x3_1) = false := decide_eq_false c2
        clear c2
        obtain rfl := Option.some.inj H
        go_wp2
        repeat (go_quiet (fail); try go_wp2)
        go_ret
        exact ⟨by first | rfl | (simp; done) | (simp [*]; done), by repeat (first | exact Drawn0.refl _ | apply Drawn0.step)⟩


theorem less_is (x y : Int) : cmp_Less_int.f x y = some (decide (x < y)) := by
  unfold cmp_Less_int.f cmp_isNaN_int.f
  simp
theorem sorted_go {l : List Int} (hl : l.length ≤ 9223372036854775807) (hp : l.Pairwise (· < ·)) : ∀ (d : Nat) (i : Int), -1 ≤ i → i < (l.length : Int) → i.toNat ≤ d → Ev (fun k => slices_IsSorted_int_int.l0 k l i) true
  | 0, i, h0, h1, hd => Ev.step (f := fun _ => some true) (fun k => by simp only [slices_IsSorted_int_int.l0]; rw [if_neg (by omega)]) (Ev.now _)
  | d + 1, i, h0, h1, hd => by
    by_cases hi : i > 0
    · have hw : wrap64 (i - 1) = i - 1 := by unfold wrap64; omega
      have hlt : ¬ rd l i < rd l (i - 1) := by
        have := List.pairwise_iff_getElem.1 hp (i - 1).toNat i.toNat (by omega) (by omega) (by omega)
        unfold rd
        rw [List.getD_eq_getElem?_getD, List.getElem?_eq_getElem (by omega), List.getD_eq_getElem?_getD, List.getElem?_eq_getElem (by omega)]
        simp only [Option.getD_some]
        omega
      refine Ev.step (f := fun k => slices_IsSorted_int_int.l0 k l (i - 1)) (fun k => ?_) (sorted_go hl hp d (i - 1) (by omega) (by omega) (by omega))
      simp only [slices_IsSorted_int_int.l0]
      rw [hw, if_pos hi, if_pos (by omega), if_pos h1, if_pos (by omega), if_pos (by omega), less_is, Option.bind_some, decide_eq_false hlt]
      rfl
    · exact Ev.step (f := fun _ => some true) (fun k => by simp only [slices_IsSorted_int_int.l0]; rw [if_neg hi]) (Ev.now _)
theorem ct_IsSorted (A : Option Addr) (c : Nat) (l : List Int) (w : World) (hr : Kd.C (Kd.int .i64) w A l.length l) (hc : l.length ≤ c) (hl : l.length ≤ 4096) (hp : l.Pairwise (· < ·)) :
    Calls Try.prog 28 #[.slice A l.length c] w fun e w' => e = .returned (.bool true) ∧ Below w.heap.size w w' := by
  have he : Ev (fun k => slices_IsSorted_int_int.f k l) true := by
    refine Ev.congr (fun k => ?_) (sorted_go (by omega) hp l.length ((l.length : Int) - 1) (by omega) (by omega) (by omega))
    unfold slices_IsSorted_int_int.f
    rw [show wrap64 ((l.length : Int) - 1) = (l.length : Int) - 1 by unfold wrap64; omega]
  obtain ⟨k, hk⟩ := he.rounds
  exact (slices_IsSorted_int_int.calls k A c l _ w hr hc hk).mono fun e w' h => ⟨h.1, h.2.below⟩
theorem ref_isref (t : Int) : provisoref02_IsRef.f t = some (isRefH t) := by
  unfold isRefH types_IsRef.f provisoref02_IsRef.f
  by_cases h3 : t = 3 <;> by_cases h4 : t = 4 <;> by_cases h5 : t = 5 <;> simp [h3, h4, h5]
theorem ct_IsRef (t : Int) (w : World) : Calls Try.prog 26 #[.int .u8 t] w fun e w' => e = .returned (.bool (isRefH t)) ∧ Below w.heap.size w w' :=
  (provisoref02_IsRef.calls t _ w (ref_isref t)).mono fun e w' h => ⟨h.1, h.2.below⟩
theorem ct_Fields (A : Option Addr) (c : Nat) (l : List S32) (x : Int) (w : World) (hr : Kd.C k32 w A l.length l) (hc : l.length ≤ c) (hs : Sane l) (hg : Good l) :
    Calls Try.prog 24 #[.slice A l.length c, .int .i64 x] w fun e w' => ∃ v : Value, e = .returned v ∧ Kd.R k29 29 w' w.heap.size (fun _ => True) v (fieldsL l x) ∧ Below w.heap.size w w' := by
  obtain ⟨k, hk⟩ := (ref_fields' hs hg x).rounds
  exact provisoref02_Fields.calls k A c l x _ w hr hc hk
end Go.Proofs.Ytkjagcamikkjkaa.P

end

section
namespace Go.Proofs.Ytkjagcamikkjkaa.P
open Go.RowKit Go.Proofs.YtkjagcamikkjkaaW.PrintWords Go.Proofs.YtkjagcamikkjkaaW.PrintLast Go.Proofs.YtkjagcamikkjkaaW.PrintMore
attribute [local go_sem] max2_int min2_int max_two min_two max_three min_three max_four min_four
set_option linter.unusedVariables false
set_option linter.unusedSimpArgs false
theorem live_good {s : HS} (l : List Int) : ¬ BadRoots s (l.filter fun x => (s.m x).isSome) := by
  rintro ⟨x, hx, _, h⟩
  have := (List.mem_filter.1 hx).2
  rw [h] at this
  cases this
theorem Reached.sub {s : HS} {r1 r2 m1 m2 : List Int} (h1 : Reached s r1 m1) (h2 : Reached s r2 m2) (hs : ∀ x ∈ r1, x ∈ r2) : ∀ x ∈ m1, x ∈ m2 :=
  h1.least (fun x => x ∈ m2) (fun x hx hl => h2.has x (hs x hx) hl) (fun x v hx hv => h2.shut x hx v hv)
theorem Reached.both {s : HS} {r1 r2 m1 m2 m : List Int} (h1 : Reached s r1 m1) (h2 : Reached s r2 m2) (h : Reached s (r1 ++ r2) m) : ∀ x, x ∈ m ↔ x ∈ m1 ∨ x ∈ m2 := fun x =>
  ⟨h.least (fun x => x ∈ m1 ∨ x ∈ m2) (fun x hx hl => (List.mem_append.1 hx).imp (fun q => h1.has x q hl) (fun q => h2.has x q hl)) (fun x v hx hv => hx.imp (fun q => h1.shut x q v hv) (fun q => h2.shut x q v hv)) x,
   fun hx => hx.elim (Reached.sub h1 h (fun x hx => List.mem_append_left _ hx) x) (Reached.sub h2 h (fun x hx => List.mem_append_right _ hx) x)⟩
end Go.Proofs.Ytkjagcamikkjkaa.P

end

section
namespace Go.Proofs.Ytkjagcamikkjkaa.P
open Go.RowKit Go.Proofs.YtkjagcamikkjkaaW.PrintWords Go.Proofs.YtkjagcamikkjkaaW.PrintLast Go.Proofs.YtkjagcamikkjkaaW.PrintMore
attribute [local go_sem] max2_int min2_int max_two min_two max_three min_three max_four min_four
set_option linter.unusedVariables false
set_option linter.unusedSimpArgs false
theorem costL_take (m : Int → Option (Int × List Int)) {l : List Int} {j : Nat} (h : j < l.length) : costL m (l.take (j + 1)) = costL m (l.take j) + costO m (rd l (j : Int)) := by
  rw [List.take_succ_eq_append_getElem h, costL_append]
  unfold rd
  rw [Int.toNat_natCast, List.getD_eq_getElem?_getD, List.getElem?_eq_getElem h]
  simp [costL]
theorem costL_take_le (m : Int → Option (Int × List Int)) (l : List Int) (j : Nat) : costL m (l.take j) ≤ costL m l := by
  conv => rhs; rw [← List.take_append_drop j l, costL_append]
  have := costL_nonneg m (l.drop j)
  omega
end Go.Proofs.Ytkjagcamikkjkaa.P

end

section
namespace Go.Proofs.Ytkjagcamikkjkaa.P
open Go.RowKit Go.Proofs.YtkjagcamikkjkaaW.PrintWords Go.Proofs.YtkjagcamikkjkaaW.PrintLast Go.Proofs.YtkjagcamikkjkaaW.PrintMore
attribute [local go_sem] max2_int min2_int max_two min_two max_three min_three max_four min_four
set_option linter.unusedVariables false
set_option linter.unusedSimpArgs false
def SuccAt (s : HS) (x : Int) (i : Nat) (v : Int) : Prop := ∃ o : Int × List Int, s.m x = some o ∧ 0 ≤ o.1 ∧ i < (fieldsL s.l o.1).length ∧ isRefH (rd_T29 (fieldsL s.l o.1) (i : Int)).f1 = true ∧ v = o.2.getD i 0 ∧ (s.m v).isSome = true
theorem SuccM.at_ {s : HS} {x v : Int} (h : SuccM s x v) : ∃ i, SuccAt s x i v := by
  obtain ⟨o, i, h⟩ := h
  exact ⟨i, o, h⟩
theorem SuccAt.is {s : HS} {x v : Int} {i : Nat} (h : SuccAt s x i v) : SuccM s x v := by
  obtain ⟨o, h⟩ := h
  exact ⟨o, i, h⟩
structure Named (s : HS) (rs m done nz : List Int) : Prop where
  sub : ∀ y ∈ nz, y ∈ m
  has : ∀ y ∈ rs, y ∈ nz
  shut : ∀ x ∈ done, ∀ v, SuccM s x v → v ∈ nz
theorem Named.more {s : HS} {rs m done nz : List Int} (h : Named s rs m done nz) {v : Int} (hv : v ∈ m) : Named s rs m done (nz ++ [v]) :=
  ⟨fun y hy => (List.mem_append.1 hy).elim (h.sub y) (fun q => by rw [List.mem_singleton.1 q]; exact hv), fun y hy => List.mem_append_left _ (h.has y hy), fun x hx v hv => List.mem_append_left _ (h.shut x hx v hv)⟩
theorem Named.all {s : HS} {rs m done nz : List Int} (hm : Reached s rs m) (h : Named s rs m done nz) (hd : ∀ x ∈ m, x ∈ done) : ∀ x ∈ m, x ∈ nz := fun x hx =>
  (hm.least (fun x => x ∈ m ∧ x ∈ nz) (fun y hy hl => ⟨hm.has y hy hl, h.has y hy⟩) (fun y v hy hv => ⟨hm.shut y hy.1 v hv, h.shut y (hd y hy.1) v hv⟩) x hx).2
section
variable {ops : Array Oper} {rest : List Oper} {o : Oper} {a : Act} {Q : Exit → Act → World → Prop}
theorem ap_int2 (hgd : o.guard = none) {s x : Operand} (ho : o.op = .call { callee := .builtin .append, args := #[s, x], argTypes := #[37, 37] }) {w0 W : World} (base : Nat) {ok : Nat → Prop} {v : Value} {xs : List Int} (p : Int) (HO : Kd.R (Kd.int .i64) 3 W base ok v xs) (hs : a.eval s = v) (hx : a.eval x = .slice (some ⟨W.heap.size, 0, none⟩) 1 1)
    (HB : Below base w0 W) (hbase : base ≤ W.heap.size) (hl : xs.length ≤ 17592186060800) (hfresh : ∀ k, W.heap.size ≤ k → ok k)
    (h : ∀ v1 w1, Kd.R (Kd.int .i64) 3 w1 base ok v1 (xs ++ [p]) → Below base w0 w1 → W.grownBy w1 v.ownBlock → wpList Try.prog ops Q rest (a.put o.dst v1) w1) : wpList Try.prog ops Q (o :: rest) a (W.alloc (.cells #[.int .i64 p] 3)) :=
  wpList_plain hgd fun K hK => R_append1_wp (Kd.int .i64) (w0 := w0) base hgd s x 37 3 (.int .i64 0) 8 ho Try.underlying37 info3 rfl (by decide) (by decide) v xs p [.int .i64 p] ok (fun _ => False) hs hx rfl (fun _ h => h.elim) hfresh HO HB hbase (by unfold maxLen; omega) (int_fits hl) (fun v1 w1 h1 h2 h3 _ => hK _ _ (h v1 w1 h1 h2 h3))
def MidKept (a b : Nat) (w W : World) : Prop := b ≤ W.heap.size ∧ ∀ k, a ≤ k → k < b → W.heap[k]? = w.heap[k]?
theorem MidKept.step {a b : Nat} {w W W1 : World} (h : MidKept a b w W) (hb : Below W.heap.size W W1) : MidKept a b w W1 := ⟨Nat.le_trans h.1 hb.size, fun k h1 h2 => (hb.block k (Nat.lt_of_lt_of_le h2 h.1)).trans (h.2 k h1 h2)⟩
theorem MidKept.grown {a b : Nat} {w W W1 : World} {r : Option Nat} (h : MidKept a b w W) (hg : W.grownBy W1 r) (hr : ∀ k, r = some k → k < a ∨ b ≤ k) : MidKept a b w W1 := ⟨Nat.le_trans h.1 hg.size, fun k h1 h2 => (hg.block k (Nat.lt_of_lt_of_le h2 h.1) (fun e => by have := hr k e.symm; omega)).trans (h.2 k h1 h2)⟩
theorem MidKept.C {α : Type} {d : Kd α} {e a : Nat} {w W : World} {xs : List α} {A : Option Addr} {c : Nat} (hR : d.R e w a (fun _ => True) (.slice A xs.length c) xs) (h : MidKept a w.heap.size w W) : d.C W A xs.length xs := by
  have h1 : d.R e W a (fun k => a ≤ k) (.slice A xs.length c) xs := Kd.R_step (Kd.R_mono (Kd.R_bound hR) (fun k hk => hk.2.1)) (fun k hk hlt => h.2 k hk hlt)
  obtain ⟨A', c', e9, _, h9⟩ := Kd.R_reads h1
  injection e9 with e9 _ _
  rw [e9]
  exact h9
end
def provisolaw14_HeapCome.Facts (l0 : List S32) (room : Int) (acts : List S89) (roots : List Int) : Prop := Sane l0 ∧ (acts.length * 56 ≤ 140737488351232 ∧ ∀ x ∈ acts, Ok89 x) ∧ (roots.length < 17592186044416 ∧ ∀ x ∈ roots, I64 x)
set_option maxHeartbeats 1600000 in
set_option maxRecDepth 100000 in
theorem provisolaw14_HeapCome.calls (A0 : Option Addr) (c0 : Nat) (l0 : List S32) (room : Int) (A2 : Option Addr) (c2 : Nat) (acts : List S89) (A3 : Option Addr) (c3 : Nat) (roots : List Int) (w : World) (hr0 : Kd.C k32 w A0 l0.length l0) (hc0 : l0.length ≤ c0) (hr2 : Kd.C k89 w A2 acts.length acts) (hc2 : acts.length ≤ c2) (hr3 : Kd.C (Kd.int .i64) w A3 roots.length roots) (hc3 : roots.length ≤ c3) (h : provisolaw14_HeapCome.Facts l0 room acts roots) :
    Calls Try.prog 6 #[.agg #[.slice A0 l0.length c0, .int .i64 room, .slice A2 acts.length c2], .slice A3 roots.length c3] w fun e w' => e = .returned (.bool true) ∧ Below w.heap.size w w' := by
  have HR := Aside0.mk hr0
  have HC := Aside0.mk hc0
  have HA := Aside0.mk hr2
  have HC2 := Aside0.mk hc2
  have HRR := Aside0.mk hr3
  have HC3 := Aside0.mk hc3
  have HFA := Aside0.mk h
  clear hr0 hc0 hr2 hc2 hr3 hc3 h
  go_enter Try.func6, Try.ntmps6
  go_wp2_with ((with_reducible refine gate_dst (N := 2) rfl ?_); refine rw_box rfl 43 rfl (cs := #[.slice A0 l0.length c0, .int .i64 room, .slice A2 acts.length c2]) rfl (Rws.nil w) ?_; intro b1 w1 hX; have HX := Aside0.mk hX; clear hX)
  refine (awake_calls _).mono ?_
  rintro e w2 ⟨rfl, hb⟩
  replace HX := Aside0.mk (HX.out.step hb)
  clear hb
  have f0 := blk_cell (HX.out.mem List.mem_cons_self) 0
  have f1 := blk_cell (HX.out.mem List.mem_cons_self) 1
  have f2 := blk_cell (HX.out.mem List.mem_cons_self) 2
  simp only [List.getElem?_toArray, List.getElem?_cons_zero, List.getElem?_cons_succ] at f0 f1 f2
  go_wp2_with fail
  refine (lived_calls A0 c0 l0 room A2 c2 acts w2 (Kd.C_below HR.out HX.out.below) HC.out (Kd.C_below HA.out HX.out.below) HC2.out HFA.out.1 HFA.out.2.1.1 HFA.out.2.1.2).mono ?_
  clear f0 f1 f2
  rintro e w3 (⟨rfl, hb⟩ | ⟨s, rfl, hH, hL⟩)
  · replace HX := Aside0.mk (HX.out.step hb)
    clear hb
    go_wp2_with fail
    go_ret
    exact ⟨rfl, HX.out.below⟩
  replace HX := Aside0.mk (HX.out.step hH.below)
  have HB := Aside0.mk HX.out.below
  have H := Aside0.mk hH
  have L := Aside0.mk hL
  clear hH hL
  have HLA := Aside0.mk (show s.last < 4398046511104 by have h1 := L.out.last; have h2 := HFA.out.2.1.1; omega)
  go_wp2_with fail
  refine (live_calls w2 s L.out.sum (by have := HLA.out; omega) A3 c3 roots w3 H.out (Kd.C_below HRR.out HB.out) HC3.out HFA.out.2.2.1).mono ?_
  rintro e w4 ⟨v, rfl, hV, hb⟩
  obtain ⟨rs, hrs⟩ : ∃ rs, rs = roots.filter fun x => (s.m x).isSome := ⟨_, rfl⟩
  have HRS := Aside0.mk (show ∀ x ∈ rs, (s.m x).isSome = true by rw [hrs]; exact fun x hx => (List.mem_filter.1 hx).2)
  have HGD := Aside0.mk (show ¬ BadRoots s rs by rw [hrs]; exact live_good roots)
  have HRK := Aside0.mk (show ∀ x ∈ rs, I64 x by rw [hrs]; exact fun x hx => HFA.out.2.2.2 x (List.mem_filter.1 hx).1)
  have HRL := Aside0.mk (show rs.length < 17592186044416 by rw [hrs]; exact Nat.lt_of_le_of_lt (List.length_filter_le _ _) HFA.out.2.2.1)
  rw [← hrs] at hV
  obtain ⟨Ar, cr, er, hcr, hCr⟩ := Kd.R_reads hV
  subst er
  have HV := Aside0.mk hCr
  have HCR := Aside0.mk hcr
  have HW3 := Aside0.mk hb
  clear hV hb hrs hcr hCr
  go_wp2_with fail
  refine (hp_ReachS w2 s L.out.sum (by rw [L.out.l]; exact L.out.good) (by have := HLA.out; omega) Ar cr rs w4 (H.out.step HW3.out) HV.out HRK.out HRL.out).mono ?_
  rintro e w5 ⟨hb, ⟨hbad, _⟩ | ⟨m0, v0, _, hm0, rfl, hR0⟩⟩
  · exact absurd hbad HGD.out
  have HW5 := Aside0.mk (below_step HW3.out hb)
  have H5 := Aside0.mk (H.out.step HW5.out)
  have HX5 := Aside0.mk (HX.out.step HW5.out)
  have HV5 := Aside0.mk (Kd.C_below HV.out hb)
  obtain ⟨B0, d0, e0, hd0, hC0⟩ := Kd.R_reads hR0
  subst e0
  obtain ⟨ls, hls⟩ : ∃ ls, ls = reachL s m0 := ⟨_, rfl⟩
  rw [← hls] at hC0 hd0 ⊢
  have M0 := Aside0.mk hm0
  have LS := Aside0.mk (show (∀ x, x ∈ ls ↔ x ∈ m0) ∧ ls.Pairwise (· < ·) ∧ ls.length ≤ 4096 by
    rw [hls]
    exact ⟨reachL_mem L.out.sum hm0.live, reachL_rising s m0, Nat.le_trans (List.length_filter_le _ _) (live_few L.out.sum H5.out.used_le)⟩)
  have LC := Aside0.mk (show costL s.m ls ≤ 4096 by
    rw [hls]
    have h1 := costL_split s.m (fun x => memH m0 x) (liveL s)
    have h2 := costL_nonneg s.m ((liveL s).filter fun x => !memH m0 x)
    have h3 := L.out.sum.2
    have h4 := H5.out.used_le
    unfold reachL
    omega)
  have HC0 := Aside0.mk hC0
  have HD0 := Aside0.mk hd0
  clear hb hm0 hR0 hls hC0 hd0
  go_wp2_with fail
  refine (slices_Clone_int_int.calls Ar cr rs rs w5 HV5.out HCR.out (by unfold slices_Clone_int_int.f; rw [if_pos HRL.out])).mono ?_
  rintro e w6 ⟨v6, rfl, hV6, hb6⟩
  obtain ⟨B6, d6, e6⟩ := Kd.R_slice hV6
  subst e6
  have HN6 := Aside0.mk hV6
  have HB6 := Aside0.mk hb6
  have NM0 := Aside0.mk (show Named s rs m0 ([] : List Int) rs from ⟨fun y hy => M0.out.has y hy (HRS.out y hy), fun y hy => hy, fun x hx => by cases hx⟩)
  clear hV6 hb6
  go_wp2_with fail
  go_loopw [8, 41] (fun v8 v41 wr => ∃ (j : Nat) (v : Value) (nz : List Int), v41 = .int .i64 (j : Int) ∧ v8 = v ∧ j ≤ ls.length ∧ Aside0 (Below w5.heap.size w5 wr) ∧ Aside0 (Kd.R (Kd.int .i64) 3 wr w5.heap.size (fun _ => True) v nz) ∧ Aside0 (Named s rs m0 (ls.take j) nz) ∧ Aside0 ((nz.length : Int) ≤ (rs.length : Int) + costL s.m (ls.take j))) (fun _ v41 _ => ((ls.length : Int) - intOf v41).toNat)
  case atStart => exact ⟨0, _, rs, rfl, rfl, Nat.zero_le _, HB6, HN6, NM0, ⟨by rw [List.take_zero]; show (rs.length : Int) ≤ (rs.length : Int) + 0; omega⟩⟩
  case round =>
    rename_i wr
    clear HB6 HN6
    obtain ⟨j, v, nz, rfl, rfl, hj, HB6, HN6, NM, HNL⟩ := hrel
    obtain ⟨Bn, dn, en⟩ := Kd.R_slice HN6.out
    subst en
    by_cases c1 : j < ls.length
    · obtain ⟨x, hx⟩ : ∃ x, x = rd ls (j : Int) := ⟨_, rfl⟩
      obtain ⟨ad, e1, hxa⟩ := Kd.at_int (Kd.C_below HC0.out HB6.out) (j : Int) (by omega) (by omega)
      cases e1
      rw [← hx, Int.toNat_natCast] at hxa
      have hxm : x ∈ ls := by rw [hx]; unfold rd; rw [Int.toNat_natCast, List.getD_eq_getElem?_getD, List.getElem?_eq_getElem c1]; exact List.getElem_mem c1
      have HTK := Aside0.mk (show ls.take (j + 1) = ls.take j ++ [x] by
        rw [List.take_succ_eq_append_getElem c1, hx]
        unfold rd
        rw [Int.toNat_natCast, List.getD_eq_getElem?_getD, List.getElem?_eq_getElem c1]
        rfl)
      obtain ⟨o, ho⟩ := Option.isSome_iff_exists.1 (M0.out.live x ((LS.out.1 x).1 hxm))
      have HXM := Aside0.mk (show x ∈ m0 from (LS.out.1 x).1 hxm)
      have hdm := H5.out.dom x o ho
      have hx0 : ¬ x = 0 := by have := hdm.1; omega
      have HO := Aside0.mk ho
      have HDM := Aside0.mk hdm
      have HK := Aside0.mk (show I64 x by
        have h1 := hdm.1
        have h2 := hdm.2.1
        have h3 := HLA.out
        unfold I64
        omega)
      have HCO := Aside0.mk (show costL s.m (ls.take (j + 1)) = costL s.m (ls.take j) + ((o.2.length : Int) + 1) by
        have h1 := costL_take s.m c1
        rw [← hx] at h1
        rw [h1]
        unfold costO
        rw [ho]
        rfl)
      have HCL := Aside0.mk (show costL s.m (ls.take (j + 1)) ≤ 4096 by have h1 := costL_take_le s.m ls (j + 1); have h2 := LC.out; omega)
      have c1b : decide ((j : Int) < (ls.length : Int)) = true := decide_eq_true (by omega)
      have c1c : decide (j < ls.length) = true := decide_eq_true c1
      have p5 : (0 ≤ (j : Int)) = True := eq_true (by omega)
      have p6 : ((j : Int) < (ls.length : Int)) = True := eq_true (by omega)
      have HJ := Aside0.mk c1
      have HW := Aside0.mk (wrap_h c1 (by have := LS.out.2.2; omega))
      have HPM := Aside0.mk (show placesM s x = o.2 by unfold placesM; rw [if_neg hx0, ho]; rfl)
      have HCM := Aside0.mk (show classM s x = if o.1 < 0 then (0, false) else (o.1, true) by unfold classM; rw [if_neg hx0, ho])
      clear hx c1 hxm hdm hx0 ho
      go_wp2_with fail
      refine (hp_Class w2 s x HK.out wr (H5.out.step HB6.out)).mono ?_
      rintro e w7 ⟨rfl, hb⟩
      rw [HCM.out]
      replace HB6 := Aside0.mk (below_step HB6.out hb)
      replace HN6 := Aside0.mk (Kd.R_below HN6.out hb)
      clear hb hxa
      by_cases cc : o.1 < 0
      · rw [if_pos cc]
        have HC9 := Aside0.mk cc
        clear cc
        go_wp2_with fail
        go_roundw
        case rel => exact ⟨j + 1, _, nz, (by rw [HW.out]), rfl, HJ.out, HB6, HN6, ⟨⟨NM.out.sub, NM.out.has, fun y hy v hv => by
          rw [HTK.out] at hy
          rcases List.mem_append.1 hy with hy | hy
          · exact NM.out.shut y hy v hv
          · rw [List.mem_singleton.1 hy] at hv
            obtain ⟨o', i, h1, h2, _⟩ := hv
            rw [HO.out] at h1
            cases h1
            have := HC9.out
            omega⟩⟩, ⟨by have h1 := HNL.out; have h2 := HCO.out; omega⟩⟩
        case measure => exact meas_h HJ.out HW.out
      · rw [if_neg cc]
        have HC9 := Aside0.mk (show 0 ≤ o.1 by omega)
        clear cc
        have HXr := Aside0.mk (HX5.out.step HB6.out)
        have f0 := blk_cell (HXr.out.mem List.mem_cons_self) 0
        simp only [List.getElem?_toArray, List.getElem?_cons_zero, List.getElem?_cons_succ] at f0
        go_wp2_with fail
        have hwb := below_then HB.out HB.out.size (below_then HW5.out HW5.out.size HB6.out)
        replace HN6 := Aside0.mk (Kd.R_mono (Kd.R_bound HN6.out) (fun k hk => (show k < w7.heap.size from hk.2.2.1)))
        refine (ct_Fields A0 c0 l0 o.1 w7 (Kd.C_below HR.out hwb) HC.out HFA.out.1 L.out.good).mono ?_
        rintro e w8 ⟨vf, rfl, hF, hb⟩
        replace HB6 := Aside0.mk (below_step HB6.out hb)
        replace HN6 := Aside0.mk (Kd.R_below HN6.out hb)
        obtain ⟨fl, hfl⟩ : ∃ fl, fl = fieldsL l0 o.1 := ⟨_, rfl⟩
        rw [← hfl] at hF
        have HFL := Aside0.mk (show fl = fieldsL s.l o.1 by rw [hfl, L.out.l])
        obtain ⟨Bf, df, ef, hdf, hCf⟩ := Kd.R_reads hF
        subst ef
        have HRF := Aside0.mk hF
        have HDF := Aside0.mk hdf
        have HS78 := Aside0.mk hb.size
        have HW8 := Aside0.mk (below_then HB.out HB.out.size (below_then HW5.out HW5.out.size HB6.out))
        clear hF hb hfl hdf hCf f0 HXr hwb
        go_wp2_with fail
        refine (places_calls w2 s x HK.out w8 (H5.out.step HB6.out)).mono ?_
        rw [HPM.out]
        rintro e w9 ⟨vp, rfl, hP, hb⟩
        replace HB6 := Aside0.mk (below_step HB6.out hb)
        replace HN6 := Aside0.mk (Kd.R_below HN6.out hb)
        replace HRF := Aside0.mk (Kd.R_below HRF.out hb)
        have HRP := Aside0.mk (Kd.R_lower hP HS78.out)
        obtain ⟨ps, hps⟩ : ∃ ps, ps = o.2 := ⟨_, rfl⟩
        rw [← hps] at hP HRP
        have HPS := Aside0.mk (show ps = o.2 ∧ ps.length = fl.length ∧ ps.length ≤ 4096 by
          have h1 := HDM.out
          have h2 := h1.2.2.2.1 HC9.out
          rw [hps, HFL.out]
          exact ⟨rfl, h2.2, h1.2.2.1⟩)
        obtain ⟨Bp, dp, ep, hdp, hCp⟩ := Kd.R_reads hP
        subst ep
        replace HN6 := Aside0.mk (Kd.R_mono (ok' := fun k => k < w7.heap.size ∨ w9.heap.size ≤ k) HN6.out (fun k hk => Or.inl hk))
        clear hP hb hps hdp hCp
        go_wp2_with fail
        go_loopw [8, 61] (fun v8 v61 wr => ∃ (i : Nat) (v : Value) (nz : List Int), v61 = .int .i64 (i : Int) ∧ v8 = v ∧ i ≤ ps.length ∧ Aside0 (MidKept w7.heap.size w9.heap.size w9 wr) ∧ Aside0 (Below w5.heap.size w5 wr) ∧ Aside0 (Kd.R (Kd.int .i64) 3 wr w5.heap.size (fun k => k < w7.heap.size ∨ w9.heap.size ≤ k) v nz) ∧ Aside0 (Named s rs m0 (ls.take j) nz) ∧ Aside0 (∀ i', i' < i → ∀ v, SuccAt s x i' v → v ∈ nz) ∧ Aside0 ((nz.length : Int) ≤ (rs.length : Int) + costL s.m (ls.take j) + (i : Int))) (fun _ v61 _ => ((ps.length : Int) - intOf v61).toNat)
        case atStart => exact ⟨0, _, nz, rfl, rfl, Nat.zero_le _, ⟨⟨Nat.le_refl _, fun _ _ _ => rfl⟩⟩, HB6, HN6, NM, ⟨fun _ h => absurd h (Nat.not_lt_zero _)⟩, ⟨by have := HNL.out; omega⟩⟩
        case round =>
          rename_i wr
          clear HB6 HN6 NM HNL
          obtain ⟨i, v, nz, rfl, rfl, hi, HB9, HB6, HN6, NM, HIN, HNL⟩ := hrel
          obtain ⟨Bn, dn, en⟩ := Kd.R_slice HN6.out
          subst en
          by_cases c2 : i < ps.length
          · obtain ⟨y, hy⟩ : ∃ y, y = rd ps (i : Int) := ⟨_, rfl⟩
            obtain ⟨ad2, e2, hya⟩ := Kd.at_int (MidKept.C HRP.out HB9.out) (i : Int) (by omega) (by omega)
            cases e2
            rw [← hy, Int.toNat_natCast] at hya
            obtain ⟨ad3, e3, hf0, hf1⟩ := at_T29 (MidKept.C HRF.out HB9.out) (i : Int) (by omega) (by have := HPS.out.2.1; omega)
            cases e3
            obtain ⟨ft, hft⟩ : ∃ ft, ft = (rd_T29 fl (i : Int)).f1 := ⟨_, rfl⟩
            rw [Int.toNat_natCast] at hf0 hf1
            rw [← hft] at hf1
            have HYY := Aside0.mk (show y = o.2.getD i 0 by rw [hy, HPS.out.1]; rfl)
            have HFT := Aside0.mk (show ft = (rd_T29 (fieldsL s.l o.1) (i : Int)).f1 by rw [hft, HFL.out])
            have HFI := Aside0.mk (show i < (fieldsL s.l o.1).length by rw [← HFL.out]; have := HPS.out.2.1; omega)
            have c2b : decide ((i : Int) < (ps.length : Int)) = true := decide_eq_true (by omega)
            have c2c : decide (i < ps.length) = true := decide_eq_true c2
            have c3b : decide ((i : Int) < (fl.length : Int)) = true := decide_eq_true (by have := HPS.out.2.1; omega)
            have c3c : decide (i < fl.length) = true := decide_eq_true (by have := HPS.out.2.1; omega)
            have p5 : (0 ≤ (i : Int)) = True := eq_true (by omega)
            have p6 : ((i : Int) < (ps.length : Int)) = True := eq_true (by omega)
            have p7 : ((i : Int) < (fl.length : Int)) = True := eq_true (by have := HPS.out.2.1; omega)
            have HI := Aside0.mk c2
            have HW2 := Aside0.mk (wrap_h c2 (by have := HPS.out.2.2; omega))
            clear hy c2 hft
            go_wp2_with fail
            refine (ct_IsRef ft wr).mono ?_
            rintro e w10 ⟨rfl, hb⟩
            replace HB9 := Aside0.mk (HB9.out.step hb)
            replace HB6 := Aside0.mk (below_step HB6.out hb)
            replace HN6 := Aside0.mk (Kd.R_below HN6.out hb)
            clear hb hya hf0 hf1
            cases hq : isRefH ft with
            | true =>
              go_wp2_with fail
              refine (hp_LiveS w2 s L.out.sum (by have := HLA.out; omega) w10 (H5.out.step HB6.out)).mono ?_
              rintro e w11 ⟨u, rfl, hU, hb⟩
              replace HB9 := Aside0.mk (HB9.out.step hb)
              replace HB6 := Aside0.mk (below_step HB6.out hb)
              replace HN6 := Aside0.mk (Kd.R_below HN6.out hb)
              obtain ⟨Au, cu, eu, hcu, hUC⟩ := Kd.R_reads hU
              subst eu
              have HU := Aside0.mk hUC
              have HUC := Aside0.mk hcu
              clear hU hb hcu hUC
              go_wp2_with fail
              refine (ct_Contains Au cu (liveL s) y w11 HU.out HUC.out).mono ?_
              rintro e w12 ⟨rfl, hb⟩
              replace HB9 := Aside0.mk (HB9.out.step hb)
              replace HB6 := Aside0.mk (below_step HB6.out hb)
              replace HN6 := Aside0.mk (Kd.R_below HN6.out hb)
              have hmm := liveL_mem L.out.sum.1 y
              clear hb HU
              by_cases cm : y ∈ liveL s
              · have d1 : decide (y ∈ liveL s) = true := decide_eq_true cm
                have HYM := Aside0.mk (show y ∈ m0 from M0.out.shut x HXM.out y ⟨o, i, HO.out, HC9.out, HFI.out, (by rw [← HFT.out]; exact hq), HYY.out, hmm.1 cm⟩)
                have HNB := Aside0.mk (show nz.length ≤ 17592186060800 by
                  have h1 := HNL.out
                  have h2 := HCO.out
                  have h3 := HCL.out
                  have h4 := HRL.out
                  have h5 := HPS.out.1
                  have h6 : o.2.length = ps.length := by rw [h5]
                  have h7 := HI.out
                  omega)
                clear hmm cm
                go_wp2_with ((with_reducible refine gate_dst (N := 87) rfl ?_); refine ap_int2 rfl rfl (w0 := w5) w5.heap.size y HN6.out rfl rfl HB6.out HB6.out.size HNB.out (fun k hk => Or.inr (Nat.le_trans HB9.out.1 hk)) ?_; intro v9 w13 hV hb9 hg9; replace HB9 := Aside0.mk (HB9.out.grown hg9 (fun k hk => HN6.out.1 k hk)); replace HB6 := Aside0.mk hb9; replace HN6 := Aside0.mk hV; clear hV hb9 hg9; obtain ⟨A9, c9, e9⟩ := Kd.R_slice HN6.out; subst e9)
                go_roundw
                case rel => exact ⟨i + 1, _, nz ++ [y], (by rw [HW2.out]), rfl, HI.out, HB9, HB6, ⟨by have h9 := HN6.out; first | exact h9 | (rw [List.length_append, List.length_singleton] at h9; exact h9)⟩, ⟨NM.out.more HYM.out⟩, ⟨fun i' hi' v hv => by
                  by_cases e9 : i' = i
                  · subst e9
                    obtain ⟨o', h1, _, _, _, h5, _⟩ := hv
                    rw [HO.out] at h1
                    cases h1
                    rw [h5, ← HYY.out]
                    exact List.mem_append_right _ (List.mem_singleton.2 rfl)
                  · exact List.mem_append_left _ (HIN.out i' (by omega) v hv)⟩, ⟨by have := HNL.out; rw [List.length_append, List.length_singleton]; omega⟩⟩
                case measure => exact meas_h HI.out HW2.out
              · have d1 : decide (y ∈ liveL s) = false := decide_eq_false cm
                have HYM := Aside0.mk (show ¬ (s.m y).isSome = true from fun h => cm (hmm.2 h))
                clear hmm cm
                go_wp2_with fail
                go_roundw
                case rel => exact ⟨i + 1, _, nz, (by rw [HW2.out]), rfl, HI.out, HB9, HB6, HN6, NM, ⟨fun i' hi' v hv => by
                  by_cases e9 : i' = i
                  · subst e9
                    obtain ⟨o', h1, _, _, _, h5, h6⟩ := hv
                    rw [HO.out] at h1
                    cases h1
                    rw [h5, ← HYY.out] at h6
                    exact absurd h6 HYM.out
                  · exact HIN.out i' (by omega) v hv⟩, ⟨by have := HNL.out; omega⟩⟩
                case measure => exact meas_h HI.out HW2.out
            | false =>
              go_wp2_with fail
              go_roundw
              case rel => exact ⟨i + 1, _, nz, (by rw [HW2.out]), rfl, HI.out, HB9, HB6, HN6, NM, ⟨fun i' hi' v hv => by
                by_cases e9 : i' = i
                · subst e9
                  obtain ⟨o', h1, _, _, h4, _⟩ := hv
                  rw [HO.out] at h1
                  cases h1
                  rw [← HFT.out, hq] at h4
                  cases h4
                · exact HIN.out i' (by omega) v hv⟩, ⟨by have := HNL.out; omega⟩⟩
              case measure => exact meas_h HI.out HW2.out
          · have c2b : decide ((i : Int) < (ps.length : Int)) = false := decide_eq_false (by omega)
            have c2c : decide (i < ps.length) = false := decide_eq_false c2
            have HIE := Aside0.mk (show i = ps.length by omega)
            clear c2 hi
            go_wp2_with fail
            go_roundw
            case rel => exact ⟨j + 1, _, nz, (by rw [HW.out]), rfl, HJ.out, HB6, ⟨Kd.R_mono HN6.out (fun _ _ => trivial)⟩, ⟨⟨NM.out.sub, NM.out.has, fun y hy v hv => by
              rw [HTK.out] at hy
              rcases List.mem_append.1 hy with hy | hy
              · exact NM.out.shut y hy v hv
              · rw [List.mem_singleton.1 hy] at hv
                obtain ⟨i', hv⟩ := hv.at_
                refine HIN.out i' ?_ v hv
                obtain ⟨o', h1, _, h3, _⟩ := hv
                rw [HO.out] at h1
                cases h1
                rw [← HFL.out] at h3
                have h4 := HPS.out.2.1
                have h5 := HIE.out
                omega⟩⟩, ⟨by have h1 := HNL.out; have h2 := HCO.out; have h3 := HIE.out; have h4 := HPS.out.1; rw [← h4] at h2; omega⟩⟩
            case measure => exact meas_h HJ.out HW.out
    · have c1b : decide ((j : Int) < (ls.length : Int)) = false := decide_eq_false (by omega)
      have c1c : decide (j < ls.length) = false := decide_eq_false c1
      have HSUB := Aside0.mk NM.out.sub
      have HALL := Aside0.mk (show ∀ x ∈ ls, x ∈ nz from fun x hx => Named.all M0.out NM.out (fun y hy => by rw [List.take_of_length_le (by omega)]; exact (LS.out.1 y).2 hy) x ((LS.out.1 x).1 hx))
      clear c1 hj
      obtain ⟨wz, rfl⟩ : ∃ wz, wz = wr := ⟨_, rfl⟩
      have HCN : Aside0 (nz.length ≤ dn ∧ Kd.C (Kd.int .i64) wz Bn nz.length nz) := ⟨by
        obtain ⟨A', c', e9, h8, h9⟩ := Kd.R_reads HN6.out
        injection e9 with e9 _ e8
        subst e9 e8
        exact ⟨h8, h9⟩⟩
      have HNL2 := Aside0.mk (show nz.length ≤ 17592186060800 by have h1 := HNL.out; have h2 := costL_take_le s.m ls j; have h3 := LC.out; have h4 := HRL.out; omega)
      have HMW := Aside0.mk (Kd.C_below HC0.out HB6.out)
      have HWW := Aside0.mk (below_then HB.out HB.out.size (below_then HW5.out HW5.out.size HB6.out))
      clear HN6 HNL NM
      go_wp2_with fail
      go_loopw [92] (fun v92 w2' => ∃ (i : Nat), v92 = .int .i64 (i : Int) ∧ i ≤ nz.length ∧ Aside0 (Below wz.heap.size wz w2')) (fun v92 _ => ((nz.length : Int) - intOf v92).toNat)
      case atStart => exact ⟨0, rfl, Nat.zero_le _, ⟨Below.refl _ _⟩⟩
      case round =>
        obtain ⟨i, rfl, hi, HB7⟩ := hrel
        by_cases c2 : i < nz.length
        · obtain ⟨y, hy⟩ : ∃ y, y = rd nz (i : Int) := ⟨_, rfl⟩
          obtain ⟨ad2, e2, hya⟩ := Kd.at_int (Kd.C_below HCN.out.2 HB7.out) (i : Int) (by omega) (by omega)
          cases e2
          rw [← hy, Int.toNat_natCast] at hya
          have hym : y ∈ ls := (LS.out.1 y).2 (HSUB.out y (by rw [hy]; unfold rd; rw [Int.toNat_natCast, List.getD_eq_getElem?_getD, List.getElem?_eq_getElem c2]; exact List.getElem_mem c2))
          have HYD := Aside0.mk (show decide (y ∈ ls) = true from decide_eq_true hym)
          have c2b : decide ((i : Int) < (nz.length : Int)) = true := decide_eq_true (by omega)
          have c2c : decide (i < nz.length) = true := decide_eq_true c2
          have p5 : (0 ≤ (i : Int)) = True := eq_true (by omega)
          have p6 : ((i : Int) < (nz.length : Int)) = True := eq_true (by omega)
          have HI := Aside0.mk c2
          have HW2 := Aside0.mk (wrap_h c2 (by have := HNL2.out; omega))
          clear hy c2 hym
          go_wp2_with fail
          refine (ct_Contains B0 d0 ls y _ (Kd.C_below HMW.out HB7.out) HD0.out).mono ?_
          rw [HYD.out]
          rintro e w8 ⟨rfl, hb⟩
          replace HB7 := Aside0.mk (below_step HB7.out hb)
          clear hb hya
          go_wp2_with fail
          go_roundw
          case rel => exact ⟨i + 1, (by rw [HW2.out]), HI.out, HB7⟩
          case measure => exact meas_h HI.out HW2.out
        · have c2b : decide ((i : Int) < (nz.length : Int)) = false := decide_eq_false (by omega)
          have c2c : decide (i < nz.length) = false := decide_eq_false c2
          clear c2 hi
          go_wp2_with fail
          go_loopw [103] (fun v103 w2'' => ∃ (i : Nat), v103 = .int .i64 (i : Int) ∧ i ≤ ls.length ∧ Aside0 (Below wz.heap.size wz w2'')) (fun v103 _ => ((ls.length : Int) - intOf v103).toNat)
          case atStart => exact ⟨0, rfl, Nat.zero_le _, HB7⟩
          case round =>
            clear HB7
            obtain ⟨i, rfl, hi, HB7⟩ := hrel
            by_cases c2 : i < ls.length
            · obtain ⟨y, hy⟩ : ∃ y, y = rd ls (i : Int) := ⟨_, rfl⟩
              obtain ⟨ad2, e2, hya⟩ := Kd.at_int (Kd.C_below HMW.out HB7.out) (i : Int) (by omega) (by omega)
              cases e2
              rw [← hy, Int.toNat_natCast] at hya
              have hym : y ∈ nz := HALL.out y (by rw [hy]; unfold rd; rw [Int.toNat_natCast, List.getD_eq_getElem?_getD, List.getElem?_eq_getElem c2]; exact List.getElem_mem c2)
              have HYD := Aside0.mk (show decide (y ∈ nz) = true from decide_eq_true hym)
              have c2b : decide ((i : Int) < (ls.length : Int)) = true := decide_eq_true (by omega)
              have c2c : decide (i < ls.length) = true := decide_eq_true c2
              have p5 : (0 ≤ (i : Int)) = True := eq_true (by omega)
              have p6 : ((i : Int) < (ls.length : Int)) = True := eq_true (by omega)
              have HI := Aside0.mk c2
              have HW2 := Aside0.mk (wrap_h c2 (by have := LS.out.2.2; omega))
              clear hy c2 hym
              go_wp2_with fail
              refine (ct_Contains Bn dn nz y _ (Kd.C_below HCN.out.2 HB7.out) HCN.out.1).mono ?_
              rw [HYD.out]
              rintro e w8 ⟨rfl, hb⟩
              replace HB7 := Aside0.mk (below_step HB7.out hb)
              clear hb hya
              go_wp2_with fail
              go_roundw
              case rel => exact ⟨i + 1, (by rw [HW2.out]), HI.out, HB7⟩
              case measure => exact meas_h HI.out HW2.out
            · have c2b : decide ((i : Int) < (ls.length : Int)) = false := decide_eq_false (by omega)
              have c2c : decide (i < ls.length) = false := decide_eq_false c2
              clear c2 hi
              go_wp2_with fail
              refine (ct_IsSorted B0 d0 ls _ (Kd.C_below HMW.out HB7.out) HD0.out LS.out.2.2 LS.out.2.1).mono ?_
              rintro e w9 ⟨rfl, hb⟩
              have HB8 := Aside0.mk (below_then HWW.out HWW.out.size (below_step HB7.out hb))
              clear hb
              go_wp2_with fail
              go_ret
              exact ⟨rfl, HB8.out⟩
end Go.Proofs.Ytkjagcamikkjkaa.P

end

section
namespace Go.Proofs.Ytkjagcamikkjkaa.P
open Go.RowKit Go.Proofs.YtkjagcamikkjkaaW.PrintWords
def provisolaw14_HeapCome.Pure : Prop := ∀ (a0_0 : List (S32)) (a0_1 : Int) (a0_2 : List (S89)) (l1 : List (Int)), (fun l : List (S32) => l.length ≤ 9223372036854775807 ∧ l.length * 48 ≤ 140737488351232 ∧ ∀ x ∈ l, Ok32 x) a0_0 → (fun n : Int => (Lit.int .i64 n).wf = true) a0_1 → (fun l : List (S89) => l.length ≤ 9223372036854775807 ∧ l.length * 56 ≤ 140737488351232 ∧ ∀ x ∈ l, Ok89 x) a0_2 → (fun l : List (Int) => l.length ≤ 9223372036854775807 ∧ l.length * 8 ≤ 140737488351232 ∧ ∀ x ∈ l, (fun n : Int => (Lit.int .i64 n).wf = true) x) l1 → provisolaw14_HeapCome.Facts a0_0 a0_1 a0_2 l1
end Go.Proofs.Ytkjagcamikkjkaa.P

end

section
namespace Go.Proofs.Ytkjagcamikkjkaa.Pure
open Go.RowKit Go.Proofs.Ytkjagcamikkjkaa.P Go.Proofs.YtkjagcamikkjkaaW.PrintWords
theorem HeapCome : provisolaw14_HeapCome.Pure := fun a0 a1 a2 l1 h0 _ h2 h3 => ⟨h0, ⟨h2.2.1, h2.2.2⟩, ⟨by have := h3.2.1; omega, fun x hx => int_wf (h3.2.2 x hx)⟩⟩
end Go.Proofs.Ytkjagcamikkjkaa.Pure

end

section
namespace Go.Proofs.Ytkjagcamikkjkaa.heapCome
open Go.ChangeShapes Go.WideShapes Go.ChangeAt Go.RowKit Go.Proofs.YtkjagcamikkjkaaW.PrintWords Go.Proofs.Ytkjagcamikkjkaa.Sees Go.Proofs.Ytkjagcamikkjkaa.P
open Go.ChangeMaps (open_string shut_string)
set_option linter.unusedVariables false
set_option linter.unusedSimpArgs false
theorem own : ownKnob Try.prog.godebug = none := by kernel_rfl
theorem laidOut : laidOutB Try.prog = true := by kernel_rfl
set_option maxRecDepth 100000 in
theorem lifted (os : Os) (started : os.Started) (H : Type) (enc : TypeId × Value → H) :
    ReturnsInHanded {} Try.checked os 6 .any (Rows.heapComeSpec.pre6 enc Try.prog Try.f6 Rows.heapComeRow.domain false) (Rows.heapComeSpec.post enc Try.prog Try.f6 false true false false) := by
  refine returnsInHanded_of_change_sized (C := Try.checked) own started (by kernel_rfl) Try.func6
    (ChangeSpec.witness6 (enc := enc) (C := Try.checked) false ⟨#[], #[.agg #[.slice none 0 0, .int .i64 0, .slice none 0 0], .slice none 0 0], []⟩ 8 (by kernel_rfl) (by kernel_rfl) (by kernel_rfl) (by kernel_rfl)) ?_
  intro W base args ds gs before hval0 hW hcnd hsz0 _
  have hsz : (DataW.weightsEach Try.prog (Try.f6.params.toList ++ Rows.heapComeSpec.plain.varTypes Try.prog) (ds ++ gs)).all (· ≤ reachBytes) = true := hsz0
  have hval : ∀ (j : Nat) t v, Try.f6.params[j]? = some t → args[j]? = some v → Value.okWide Try.prog W .any base t v := hval0
  have hW' := hW
  obtain ⟨p, q, hA0, hV, rfl, hfz, hnd⟩ := hW
  have hA : DataW.TrodAll enc Try.prog W 0 (fun _ => true) true Try.f6.params.toList args.toList ds p := hA0
  rw [Try.params6] at hA hval hsz
  obtain ⟨v0, vs0, d0, ds0, p0, q0, hargs, rfl, rfl, h0, r0⟩ := trodAll_cons hA
  obtain ⟨v1, vs1, d1, ds1, p1, q1, rfl, rfl, rfl, h1, r1⟩ := trodAll_cons r0
  obtain ⟨rfl, rfl, rfl⟩ := trodAll_nil r1
  obtain rfl : args = #[v0, v1] := by cases args; simp_all
  obtain ⟨rfl, rfl⟩ := trodVars_none hV
  have k0 := h0
  have lt0 : ∀ x ∈ p0, x.block < W.heap.size := by obtain ⟨m, hm⟩ := k0; exact DataW.trod_lt m _ _ _ hm
  obtain ⟨y0, hy0, oy0⟩ := see_arg (j := 0) (t := 43) (sees_struct (fun y => y) (fun y => y) (fun _ => rfl) Try.underlying43 (by kernel_rfl) (sees_more rfl (by kernel_rfl) (sees_slice (B := 48) Try.underlying33 (by kernel_rfl) (by kernel_rfl) sees32) (sees_more rfl (by kernel_rfl) (sees_int Try.underlying3) (sees_last rfl (by kernel_rfl) (sees_slice (B := 56) Try.underlying41 (by kernel_rfl) (by kernel_rfl) sees89))))) hsz rfl rfl h0
  obtain ⟨cs0, rfl, hcs0⟩ := okWide_struct Try.underlying43 (hval 0 43 v0 rfl rfl)
  obtain ⟨_, _, e0, ⟨AA0_0, CC0_0, rfl, HH0_0, RR0_0⟩, ⟨_, _, rfl, rfl, ⟨AA0_1, CC0_1, rfl, HH0_1, RR0_1⟩⟩⟩ := hy0
  obtain rfl : cs0 = #[.slice AA0_0 (y0.1).length CC0_0, .int .i64 (y0.2.1), .slice AA0_1 (y0.2.2).length CC0_1] := by have e_ := congrArg List.toArray e0; simpa [Value.cells] using e_
  have k1 := h1
  have lt1 : ∀ x ∈ p1, x.block < W.heap.size := by obtain ⟨m, hm⟩ := k1; exact DataW.trod_lt m _ _ _ hm
  obtain ⟨y1, hy1, oy1⟩ := see_arg (j := 1) (t := 37) (sees_slice (B := 8) Try.underlying37 (by kernel_rfl) (by kernel_rfl) (sees_int Try.underlying3)) hsz rfl rfl h1
  obtain ⟨a1, len1, cap1, rfl⟩ := okWide_slice Try.underlying37 (hval 1 37 v1 rfl rfl)
  obtain ⟨rfl, hc1, hr1⟩ := see_slice rfl hy1
  clear hA0 hval0 hsz0 hsz
  have hk := Pure.HeapCome y0.1 y0.2.1 y0.2.2 y1 oy0.1 oy0.2.1 oy0.2.2 oy1
  refine (provisolaw14_HeapCome.calls _ _ y0.1 (y0.2.1) _ _ y0.2.2 _ _ y1 W RR0_0 HH0_0 RR0_1 HH0_1 hr1 hc1 hk).mono ?_
  rintro e W' ⟨rfl, bel0⟩
  have bel : Below W.heap.size W W' := bel0
  exact ⟨_, rfl, _, _, _, [], _, [], hW', trodAll_mk1 (shut_bool Try.underlying4 _), (trodAll_cons_mk (Below.trod laidOut (by kernel_rfl) (of_decide_eq_true (by kernel_rfl)) k0 bel lt0) (trodAll_cons_mk (Below.trod laidOut (by kernel_rfl) (of_decide_eq_true (by kernel_rfl)) k1 bel lt1) trodAll_mk0)), rfl, bel.frame _, fun h => by cases h⟩
theorem over : Rows.heapComeRow.holds Try.pinned (OpenSpec.ofChange Rows.heapComeSpec) :=
  OpenClaim.holds_of_wide 6 Try.f6 rfl rfl rfl rfl rfl rfl rfl ⟨rfl, rfl, rfl, rfl, rfl⟩ rfl rfl rfl rfl rfl (by kernel_rfl) Try.func6 (by kernel_rfl)
    (of_decide_eq_true (by kernel_rfl)) (by unfold Func.isWrapper; first | (rw [if_pos (by decide +kernel)]; kernel_rfl) | (rw [if_neg (by decide +kernel)]; exact ⟨rfl, rfl⟩))
    (fun os started H enc _ => lifted os started H enc)
theorem proved : Rows.HeapComeSaid := over
end Go.Proofs.Ytkjagcamikkjkaa.heapCome
namespace Go.Proofs.Ytkjagcamikkjkaa
theorem heapCome_holds : Rows.HeapComeSaid := heapCome.proved
end Go.Proofs.Ytkjagcamikkjkaa

end

