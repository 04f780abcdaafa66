/- Proved: the law StoreLast holds for every input that the row lets in. No condition of ours. -/
import Derived.Test.YtfakdphkklclgaaBStoreLastd
import Derived.Test.YtfakdphkklclgaaRows
import Derived.ShutString
import Derived.ChangeOld
import Derived.Lib.SmallJoins
section
namespace Go.Proofs.Ytfakdphkklclgaa.P
open Go.RowKit Go.Proofs.YtfakdphkklclgaaW.PrintWords Go.Proofs.YtfakdphkklclgaaW.PrintLast Go.Proofs.YtfakdphkklclgaaW.PrintMore
attribute [local go_sem] max2_int min2_int max_two min_two max_three min_three max_four min_four
set_option linter.unusedVariables false
set_option linter.unusedSimpArgs false
section
open Go.ChangeMaps Go.MapKept
set_option linter.unusedVariables false
set_option maxHeartbeats 12800000 in
set_option maxRecDepth 100000 in
theorem provisolaw21_StoreLast.calls (A0 : Option Addr) (c0 : Nat) (l0 : List S37) (a1 : ByteArray) (A2 : Option Addr) (c2 : Nat) (l2 : List Int) (w : World) (hr0 : Kd.C k37 w A0 l0.length l0) (hc0 : l0.length ≤ c0) (hr2 : Kd.C (Kd.int .u8) w A2 l2.length l2) (hc2 : l2.length ≤ c2) (h : provisolaw21_StoreLast.Facts l0 a1 l2) :
    Calls Try.prog 3 #[.slice A0 l0.length c0, .string a1, .slice A2 l2.length c2] w fun e w' => e = .returned (.bool true) ∧ Below w.heap.size w w' := by
  obtain ⟨⟨hA1, hl2, hb2⟩, h⟩ := h
  have HA1 := Aside0.mk hA1
  have HL2 := Aside0.mk hl2
  have HB22 := Aside0.mk hb2
  have HR2 := Aside0.mk hr2
  have HC2 := Aside0.mk hc2
  clear hA1 hl2 hb2 hr2 hc2
  obtain ⟨⟨KK, nm, hK⟩, hlim, hd⟩ := h
  have HK := Aside0.mk hK
  have HLIM := Aside0.mk hlim
  have HD := Aside0.mk hd
  have HR0 := Aside0.mk hr0
  have HC0 := Aside0.mk hc0
  clear hK hlim hd hr0 hc0
  go_enter Try.func3, Try.ntmps3
  go_wp2_with fail
  refine (New_st w).mono ?_
  rintro e_ w1 ⟨g, rfl, hs, hb⟩
  have HS := Aside0.mk hs
  have HN1 := Aside0.mk (show Rws w [] w1 from ⟨fun _ q => (by simp at q), by simp, hb⟩)
  clear hs hb
  go_wp2_with (first | ((with_reducible refine gate_dst (N := 9) rfl ?_); refine rw_allocS rfl 29 rfl (cs := #[.slice none 0 0, .slice none 0 0]) (by kernel_rfl) HN1.out ?_; intro bx wx hg6 hM hb6; have HMX := Aside0.mk hM; have HBX := Aside0.mk hb6; have HEX := Aside0.mk hg6; clear hg6 hM hb6) | (refine rw_storeS rfl 29 rfl rfl (cs' := #[.slice none 0 0, .slice none 0 0]) rfl [] HMX.out (by kernel_rfl) rfl (by show _ = _; simp [Value.oneCell']) ?_; intro wy hM hk3; have HMY := Aside0.mk hM; have HKY := Aside0.mk hk3; clear hM hk3))
  have H := Aside0.mk (show LSt w bx g ⟨[], []⟩ #[.slice none 0 0, .slice none 0 0] (fun b => w.heap.size ≤ b ∧ b < w1.heap.size) (fun _ => False) wy from ⟨HMY.out, (HS.out.step HBX.out).kept HKY.out (fun k q e => by have := HEX.out; omega), DAt.zero _ _, fun _ q => q.elim, fun q => by have := HEX.out; omega, fun q => q⟩)
  have HI := Aside0.mk (inv_new nm)
  have HZ1 := Aside0.mk (show w1.heap.size ≤ wy.heap.size from Nat.le_trans HBX.out.size HKY.out.1)
  clear HS HN1 HMX HBX HEX HMY HKY
  refine (slices_Clone_byte_byte.calls A2 c2 l2 l2 wy (Kd.C_below HR2.out H.out.rows.below) HC2.out (by unfold slices_Clone_byte_byte.f; rw [if_pos (by have := HL2.out; omega)])).mono ?_
  rintro e_ w2 ⟨v, rfl, hR, hb⟩
  obtain ⟨Ac, cc, ec⟩ := Kd.R_slice hR
  subst ec
  have HRC := Aside0.mk hR
  replace H := Aside0.mk (H.out.step hb)
  have HZ2 := Aside0.mk hb.size
  clear hR hb
  go_wp2_with fail
  refine (Put_st KK nm HK.out.st HI.out.good a1 HA1.out l2 Ac cc (fun k => wy.heap.size ≤ k) (Kd.F_mono (Kd.R_F (Kd.R_bound HRC.out)) (fun k q => q.2.1)) (fun k q1 q2 => by have := HZ1.out; omega) H.out.st).mono ?_
  rintro e_ w3 ⟨v, S1, S2, rfl, q1, q2, q3, q4, q5, q6, q7⟩
  have hB3 := q7 _ w (Nat.le_refl _) H.out.rows.below
  have HM3 := Aside0.mk (H.out.rows.keptF q6 (fun p hp => by rw [List.mem_singleton.1 hp]; exact H.out.nF) hB3)
  have HS3 := Aside0.mk q5
  have HD3 := Aside0.mk (H.out.dt.kept q6 (fun k q => q.elim))
  have HW3 := Aside0.mk (And.intro q1 (And.intro q2 (And.intro q3 q6.1)))
  clear q1 q2 q3 q4 q5 q6 q7 hB3 HRC
  obtain ⟨out, hout⟩ : ∃ out, out = putS nm ⟨[], []⟩ a1 l2 := ⟨_, rfl⟩
  have hinv := inv_put HK.out.st.siz HI.out a1 l2 HB22.out
  rw [← hout] at HS3 hinv ⊢
  have HINV := Aside0.mk hinv
  have HOUT := Aside0.mk hout
  clear hout hinv
  go_wp2_with (first | ((with_reducible refine gate_dst (N := 31) rfl ?_); refine rw_load rfl 29 rfl rfl HM3.out List.mem_cons_self _ Try.underlying29 rfl (by kernel_rfl) ?_))
  refine (Put_d KK nm HK.out.st HI.out.good HD3.out a1 l2 A2 c2 (Kd.C_below HR2.out HM3.out.below) HC2.out).mono ?_
  rintro e_ w4 ⟨y, m, rfl, hy, hm, hb⟩
  rw [← HOUT.out] at hy hm ⊢
  have HY := Aside0.mk hy
  obtain ⟨A15, c15, A16, c16, e15, _⟩ := hy
  subst e15
  have HM4 := Aside0.mk (HM3.out.step hb)
  have HS4 := Aside0.mk (HS3.out.step hb)
  have herr : (out.2.2 != out.2.2) = false := by simp
  clear hm hb
  go_wp2_with (first | (refine rw_storeS rfl 29 rfl rfl (cs' := #[.slice A15 out.1.img.length c15, .slice A16 out.1.L.length c16]) rfl [] HM4.out (by kernel_rfl) rfl (by show _ = _; simp [Value.oneCell']) ?_; intro w5 hM hk3; have HM5 := Aside0.mk hM; have HK5 := Aside0.mk hk3; clear hM hk3))
  have HN := Aside0.mk (H.out.done (Z' := fun k => False ∨ (w3.heap.size ≤ k ∧ k < w4.heap.size)) (F' := fun k => (w.heap.size ≤ k ∧ k < w1.heap.size) ∨ (S2 ≤ k ∧ k < w3.heap.size)) (fun k q => q.elim .inl (fun q => .inr (by have := HW3.out; omega))) (fun k q => q.elim (fun q => q.elim) (fun q => .inr (by have := HW3.out; omega))) (fun k q1 q2 => q1.elim (fun q => q.elim) (fun q1 => q2.elim (fun q2 => by have := HZ1.out; have := HZ2.out; have := HW3.out; omega) (fun q2 => by omega))) HS4.out HY.out HK5.out HM5.out)
  have HKL := Aside0.mk (show lkL out.1.L a1 = lkL (putS nm ⟨[], []⟩ a1 l2).1.L a1 by rw [HOUT.out])
  clear H HI HY HM5 HK5 HS4 HM4 HM3 HS3 HD3 HW3 HZ1 HZ2 herr
  have H := HN
  have HI := HINV
  clear HN HINV
  go_loopw [43] (fun v43 wr => ∃ (i : Nat) (s : Sto) (cs : Array Value) (F Z : Nat → Prop), v43 = .int .i64 (i : Int) ∧ i ≤ l0.length ∧ Aside0 (LSt w bx g s cs F Z wr) ∧ Aside0 (Inv nm s) ∧ Aside0 (lkL s.L a1 = lkL (putS nm ⟨[], []⟩ a1 l2).1.L a1)) (fun v43 _ => ((l0.length : Int) - intOf v43).toNat)
  case atStart => exact ⟨0, _, _, _, _, rfl, Nat.zero_le _, H, HI, HKL⟩
  case round =>
    clear H HI HKL
    obtain ⟨i, s, cs, F, Z, rfl, hi, H, HI, HKL⟩ := hrel
    by_cases c2_ : i < l0.length
    · have c2b : decide ((i : Int) < (l0.length : Int)) = true := decide_eq_true (by omega)
      have c2c : decide (i < l0.length) = true := decide_eq_true c2_
      have p5 : (0 ≤ (i : Int)) = True := eq_true (by omega)
      have p6 : ((i : Int) < (l0.length : Int)) = True := eq_true (by omega)
      have HIL : Aside0 (i < l0.length) := ⟨c2_⟩
      have HRW : Aside0 (wrap64 ((i : Int) + 1) = ((i + 1 : Nat) : Int)) := ⟨by have := HLIM.out; unfold wrap64; omega⟩
      have hbx := H.out.rows.below
      obtain ⟨ad, Ad, cd, e1, hx0, hx1, hx2, hcd, hby⟩ := at_T37 HR0.out (i : Int) (by omega) (by omega)
      cases e1
      replace hx0 := (hbx.cell (World.block_lt_of_cell? w _ hx0)).trans hx0
      replace hx1 := (hbx.cell (World.block_lt_of_cell? w _ hx1)).trans hx1
      replace hx2 := (hbx.cell (World.block_lt_of_cell? w _ hx2)).trans hx2
      have hdo := HD.out i c2_
      have hrd : rd_T37 l0 (i : Int) = l0[i] := by unfold rd_T37; rw [Int.toNat_natCast, List.getD_eq_getElem?_getD, List.getElem?_eq_getElem c2_]; rfl
      simp only [Int.toNat_natCast] at hx0 hx1 hx2
      rw [hrd] at hx0 hx1 hx2 hcd hby
      have HD0 := Aside0.mk hdo
      have HBF := Aside0.mk (Kd.F_below (F_of_C hby) hbx)
      have HCD := Aside0.mk hcd
      obtain ⟨op, hop⟩ : ∃ z, z = l0[i].f0 := ⟨_, rfl⟩
      obtain ⟨x, hxn⟩ : ∃ z, z = l0[i].f1 := ⟨_, rfl⟩
      obtain ⟨b, hbn⟩ : ∃ z, z = l0[i].f2 := ⟨_, rfl⟩
      rw [← hop] at hx0
      rw [← hxn] at hx1
      rw [← hbn] at hx2
      have HOP := Aside0.mk (And.intro hop (And.intro hxn hbn))
      replace HD0 := Aside0.mk (show x.size ≤ maxLen ∧ b.length ≤ 140737488351232 ∧ ∀ z ∈ b, 0 ≤ z ∧ z ≤ 255 by rw [hxn, hbn]; exact HD0.out)
      replace HBF := Aside0.mk (show Kd.F (Kd.int .u8) wr (fun k => k < w.heap.size) Ad b.length b by rw [hbn]; exact HBF.out)
      replace HCD := Aside0.mk (show b.length ≤ cd by rw [hbn]; exact HCD.out)
      obtain ⟨Ax, cx, Ay, cy, ecs, _⟩ := H.out.dt.now
      injection ecs with ecs
      subst ecs
      have HMR := Aside0.mk H.out.rows
      clear hbx hcd hby hdo hrd hop hxn hbn
      by_cases c6_ : x = a1
      · have c6s := c6_.symm
        clear c6_
        subst c6s
        go_wp2_with (first | ((with_reducible refine gate_dst (N := 13) rfl ?_); refine rw_allocS rfl 37 rfl (cs := #[.int .i64 0, .string ⟨#[]⟩, .slice none 0 0]) (by kernel_rfl) HMR.out ?_; intro b6 w2 hg6 hM hb6; have HM2 := Aside0.mk hM; have HB2 := Aside0.mk hb6; have HE6 := Aside0.mk hg6; clear hg6 hM hb6) | (refine rw_storeS rfl 37 rfl rfl (cs' := #[.int .i64 op, .string a1, .slice Ad b.length cd]) rfl [] HM2.out (by kernel_rfl) rfl (by show _ = _; simp [Value.oneCell']) ?_; intro w3 hM hk3; have HM3 := Aside0.mk hM; have HK3 := Aside0.mk hk3; have hc60 := blk_cell (hM.mem List.mem_cons_self) 0; have hc61 := blk_cell (hM.mem List.mem_cons_self) 1; clear hM hk3))
        have HKR := Aside0.mk (show Kept wr w3 (fun _ => False) from ⟨Nat.le_trans HB2.out.size HK3.out.1, fun k hk _ => by
          have h6 := HE6.out
          have h2 := HB2.out.size
          exact (HK3.out.2 k (by omega) (by omega)).trans (HB2.out.block k hk)⟩)
        have HN := Aside0.mk (H.out.kept HKR.out (fun _ _ q => q) HM3.out.below)
        have HIN := HI
        have HKN := HKL
        go_roundw
        case rel => exact ⟨i + 1, _, _, _, _, (by rw [HRW.out]), HIL.out, HN, HIN, HKN⟩
        case measure => rw [HRW.out]; have := HIL.out; show ((l0.length : Int) - ((i + 1 : Nat) : Int)).toNat < ((l0.length : Int) - (i : Int)).toNat; omega
      · have c6c : (x.toList == a1.toList) = false := beq_eq_false_iff_ne.mpr (fun e => c6_ (data_inj (by rw [← Lib.toList_data, ← Lib.toList_data]; exact e)))
        have HNE := Aside0.mk (show a1 ≠ x from fun e => c6_ e.symm)
        by_cases c3_ : op % 2 = 0
        · have hE : wrap64 ((IntKind.u64.wrap op).tmod 2) = 0 := (umod2 op).trans (by omega)
          have HE := Aside0.mk hE
          clear hE
          go_wp2_with (first | ((with_reducible refine gate_dst (N := 13) rfl ?_); refine rw_allocS rfl 37 rfl (cs := #[.int .i64 0, .string ⟨#[]⟩, .slice none 0 0]) (by kernel_rfl) HMR.out ?_; intro b6 w2 hg6 hM hb6; have HM2 := Aside0.mk hM; have HB2 := Aside0.mk hb6; have HE6 := Aside0.mk hg6; clear hg6 hM hb6) | (refine rw_storeS rfl 37 rfl rfl (cs' := #[.int .i64 op, .string x, .slice Ad b.length cd]) rfl [] HM2.out (by kernel_rfl) rfl (by show _ = _; simp [Value.oneCell']) ?_; intro w3 hM hk3; have HM3 := Aside0.mk hM; have HK3 := Aside0.mk hk3; have hc60 := blk_cell (hM.mem List.mem_cons_self) 0; have hc61 := blk_cell (hM.mem List.mem_cons_self) 1; clear hM hk3) | (refine rw_cell rfl 3 rfl (g := b6) (i := 0) rfl (u := .int .i64 (wrap64 ((IntKind.u64.wrap op).tmod 2))) rfl rfl [] HM3.out (by show (0 : Nat) < 3; decide) (by kernel_rfl) ?_; intro w4 hM hk3; rw [HE.out] at hM; have HM4 := Aside0.mk (show Rws w [(b6, 37, #[.int .i64 0, .string x, .slice Ad b.length cd]), (bx, 29, #[.slice Ax s.img.length cx, .slice Ay s.L.length cy])] w4 from hM); have HK4 := Aside0.mk hk3; clear hM hk3) | ((with_reducible refine gate_dst (N := 59) rfl ?_); refine rw_load rfl 29 rfl rfl HM4.out (List.mem_cons_of_mem _ List.mem_cons_self) _ Try.underlying29 rfl (by kernel_rfl) ?_) | ((with_reducible refine gate_dst (N := 60) rfl ?_); refine rw_load rfl 37 rfl rfl HM4.out List.mem_cons_self _ Try.underlying37 rfl (by kernel_rfl) ?_))
          have HKR := Aside0.mk (show Kept wr w4 (fun _ => False) from ⟨Nat.le_trans HB2.out.size (Nat.le_trans HK3.out.1 HK4.out.1), fun k hk _ => by
            have h6 := HE6.out
            have h2 := HB2.out.size
            have h3 := HK3.out.1
            exact (HK4.out.2 k (by omega) (by omega)).trans ((HK3.out.2 k (by omega) (by omega)).trans (HB2.out.block k hk))⟩)
          have H4 := Aside0.mk (H.out.kept HKR.out (fun _ _ q => q) HM4.out.below)
          refine (do_put KK nm HK.out.st HK.out.un HI.out.good x HD0.out.1 b Ad cd HD0.out.2.1 (Kd.F_kept HBF.out HKR.out (fun _ _ q => q)) HCD.out HM4.out.below H4.out.st H4.out.dt H4.out.dis).mono ?_
          rintro e_ w5 ⟨y, m, F', Z', M, rfl, d1, d2, d3, d4, d5, d6, d7, d8, d9⟩
          obtain ⟨A15, c15, A16, c16, e15, _⟩ := d2.now
          subst e15
          have HMW := Aside0.mk (And.intro d3 d7)
          have HDO := Aside0.mk (And.intro d1 (And.intro d2 (And.intro d4 (And.intro d5 d6))))
          have HM5 := Aside0.mk (HM4.out.keptF d8 (fun p hp => by
            rcases List.mem_cons.1 hp with rfl | hp
            · exact fun q => by have := (H4.out.st.lt _ q).2; have := (H.out.st.lt _ q).2; have := HE6.out; simp only at *; omega
            · rw [List.mem_singleton.1 hp]; exact H.out.nF) d9)
          clear d1 d2 d3 d4 d5 d6 d7 d8 d9 hc60 hc61
          go_wp2_with (first | ((with_reducible refine gate_dst (N := 14) rfl ?_); refine rw_allocS rfl 29 rfl (cs := #[.slice none 0 0, .slice none 0 0]) (by kernel_rfl) HM5.out ?_; intro b8 w6 hg6 hM hb6; have HM6 := Aside0.mk hM; have HB6 := Aside0.mk hb6; have HE8 := Aside0.mk hg6; clear hg6 hM hb6) | (refine rw_storeS rfl 29 rfl rfl (cs' := #[.slice A15 (putS nm s x b).1.img.length c15, .slice A16 (putS nm s x b).1.L.length c16]) rfl [] HM6.out (by kernel_rfl) rfl (by show _ = _; simp [Value.oneCell']) ?_; intro w7 hM hk3; have HM7 := Aside0.mk hM; have HK7 := Aside0.mk hk3; clear hM hk3) | ((with_reducible refine gate_dst (N := 67) rfl ?_); refine rw_load rfl 29 rfl rfl HM7.out List.mem_cons_self _ Try.underlying29 rfl (by kernel_rfl) ?_) | (refine rw_storeS rfl 29 rfl rfl (cs' := #[.slice A15 (putS nm s x b).1.img.length c15, .slice A16 (putS nm s x b).1.L.length c16]) rfl [_, _] HM7.out (by kernel_rfl) rfl (by show _ = _; simp [Value.oneCell']) ?_; intro w8 hM hk3; have HM8 := Aside0.mk hM; have HK8 := Aside0.mk hk3; clear hM hk3))
          have hk58 : Kept w5 w8 (fun k => k = bx) := ⟨Nat.le_trans HB6.out.size (Nat.le_trans HK7.out.1 HK8.out.1), fun k hk hn => by
            have h6 := HE8.out
            have h2 := HB6.out.size
            have h3 := HK7.out.1
            exact (HK8.out.2 k (by omega) hn).trans ((HK7.out.2 k (by omega) (by omega)).trans (HB6.out.block k hk))⟩
          have HN := Aside0.mk (H4.out.done HDO.out.2.2.2.1 HDO.out.2.2.2.2 HDO.out.2.2.1 HDO.out.1 HDO.out.2.1 hk58 (HM8.out.single (List.mem_cons_of_mem _ (List.mem_cons_of_mem _ List.mem_cons_self))))
          clear hk58
          have HIN := Aside0.mk (inv_put HK.out.st.siz HI.out x b HD0.out.2.2)
          have HKN := Aside0.mk ((lk_put_ne (nm := nm) b HNE.out).trans HKL.out)
          go_roundw
          case rel => exact ⟨i + 1, _, _, _, _, (by rw [HRW.out]), HIL.out, HN, HIN, HKN⟩
          case measure => rw [HRW.out]; have := HIL.out; show ((l0.length : Int) - ((i + 1 : Nat) : Int)).toNat < ((l0.length : Int) - (i : Int)).toNat; omega
        · have hE : wrap64 ((IntKind.u64.wrap op).tmod 2) = 1 := (umod2 op).trans (by omega)
          have HE := Aside0.mk hE
          clear hE
          go_wp2_with (first | ((with_reducible refine gate_dst (N := 13) rfl ?_); refine rw_allocS rfl 37 rfl (cs := #[.int .i64 0, .string ⟨#[]⟩, .slice none 0 0]) (by kernel_rfl) HMR.out ?_; intro b6 w2 hg6 hM hb6; have HM2 := Aside0.mk hM; have HB2 := Aside0.mk hb6; have HE6 := Aside0.mk hg6; clear hg6 hM hb6) | (refine rw_storeS rfl 37 rfl rfl (cs' := #[.int .i64 op, .string x, .slice Ad b.length cd]) rfl [] HM2.out (by kernel_rfl) rfl (by show _ = _; simp [Value.oneCell']) ?_; intro w3 hM hk3; have HM3 := Aside0.mk hM; have HK3 := Aside0.mk hk3; have hc60 := blk_cell (hM.mem List.mem_cons_self) 0; have hc61 := blk_cell (hM.mem List.mem_cons_self) 1; clear hM hk3) | (refine rw_cell rfl 3 rfl (g := b6) (i := 0) rfl (u := .int .i64 (wrap64 ((IntKind.u64.wrap op).tmod 2))) rfl rfl [] HM3.out (by show (0 : Nat) < 3; decide) (by kernel_rfl) ?_; intro w4 hM hk3; rw [HE.out] at hM; have HM4 := Aside0.mk (show Rws w [(b6, 37, #[.int .i64 1, .string x, .slice Ad b.length cd]), (bx, 29, #[.slice Ax s.img.length cx, .slice Ay s.L.length cy])] w4 from hM); have HK4 := Aside0.mk hk3; clear hM hk3) | ((with_reducible refine gate_dst (N := 59) rfl ?_); refine rw_load rfl 29 rfl rfl HM4.out (List.mem_cons_of_mem _ List.mem_cons_self) _ Try.underlying29 rfl (by kernel_rfl) ?_) | ((with_reducible refine gate_dst (N := 60) rfl ?_); refine rw_load rfl 37 rfl rfl HM4.out List.mem_cons_self _ Try.underlying37 rfl (by kernel_rfl) ?_))
          have HKR := Aside0.mk (show Kept wr w4 (fun _ => False) from ⟨Nat.le_trans HB2.out.size (Nat.le_trans HK3.out.1 HK4.out.1), fun k hk _ => by
            have h6 := HE6.out
            have h2 := HB2.out.size
            have h3 := HK3.out.1
            exact (HK4.out.2 k (by omega) (by omega)).trans ((HK3.out.2 k (by omega) (by omega)).trans (HB2.out.block k hk))⟩)
          have H4 := Aside0.mk (H.out.kept HKR.out (fun _ _ q => q) HM4.out.below)
          refine (do_drop KK nm HK.out.st HK.out.un HI.out.good x HD0.out.1 b Ad cd HD0.out.2.1 (Kd.F_kept HBF.out HKR.out (fun _ _ q => q)) HCD.out HM4.out.below H4.out.st H4.out.dt H4.out.dis).mono ?_
          rintro e_ w5 ⟨y, m, F', Z', M, rfl, d1, d2, d3, d4, d5, d6, d7, d8, d9⟩
          obtain ⟨A15, c15, A16, c16, e15, _⟩ := d2.now
          subst e15
          have HMW := Aside0.mk (And.intro d3 d7)
          have HDO := Aside0.mk (And.intro d1 (And.intro d2 (And.intro d4 (And.intro d5 d6))))
          have HM5 := Aside0.mk (HM4.out.keptF d8 (fun p hp => by
            rcases List.mem_cons.1 hp with rfl | hp
            · exact fun q => by have := (H4.out.st.lt _ q).2; have := (H.out.st.lt _ q).2; have := HE6.out; simp only at *; omega
            · rw [List.mem_singleton.1 hp]; exact H.out.nF) d9)
          clear d1 d2 d3 d4 d5 d6 d7 d8 d9 hc60 hc61
          go_wp2_with (first | ((with_reducible refine gate_dst (N := 14) rfl ?_); refine rw_allocS rfl 29 rfl (cs := #[.slice none 0 0, .slice none 0 0]) (by kernel_rfl) HM5.out ?_; intro b8 w6 hg6 hM hb6; have HM6 := Aside0.mk hM; have HB6 := Aside0.mk hb6; have HE8 := Aside0.mk hg6; clear hg6 hM hb6) | (refine rw_storeS rfl 29 rfl rfl (cs' := #[.slice A15 (dropS nm s x).1.img.length c15, .slice A16 (dropS nm s x).1.L.length c16]) rfl [] HM6.out (by kernel_rfl) rfl (by show _ = _; simp [Value.oneCell']) ?_; intro w7 hM hk3; have HM7 := Aside0.mk hM; have HK7 := Aside0.mk hk3; clear hM hk3) | ((with_reducible refine gate_dst (N := 67) rfl ?_); refine rw_load rfl 29 rfl rfl HM7.out List.mem_cons_self _ Try.underlying29 rfl (by kernel_rfl) ?_) | (refine rw_storeS rfl 29 rfl rfl (cs' := #[.slice A15 (dropS nm s x).1.img.length c15, .slice A16 (dropS nm s x).1.L.length c16]) rfl [_, _] HM7.out (by kernel_rfl) rfl (by show _ = _; simp [Value.oneCell']) ?_; intro w8 hM hk3; have HM8 := Aside0.mk hM; have HK8 := Aside0.mk hk3; clear hM hk3))
          have hk58 : Kept w5 w8 (fun k => k = bx) := ⟨Nat.le_trans HB6.out.size (Nat.le_trans HK7.out.1 HK8.out.1), fun k hk hn => by
            have h6 := HE8.out
            have h2 := HB6.out.size
            have h3 := HK7.out.1
            exact (HK8.out.2 k (by omega) hn).trans ((HK7.out.2 k (by omega) (by omega)).trans (HB6.out.block k hk))⟩
          have HN := Aside0.mk (H4.out.done HDO.out.2.2.2.1 HDO.out.2.2.2.2 HDO.out.2.2.1 HDO.out.1 HDO.out.2.1 hk58 (HM8.out.single (List.mem_cons_of_mem _ (List.mem_cons_of_mem _ List.mem_cons_self))))
          clear hk58
          have HIN := Aside0.mk (inv_drop HK.out.st.siz HI.out x)
          have HKN := Aside0.mk ((lk_drop_ne (nm := nm) HI.out.good.srt HNE.out).trans HKL.out)
          go_roundw
          case rel => exact ⟨i + 1, _, _, _, _, (by rw [HRW.out]), HIL.out, HN, HIN, HKN⟩
          case measure => rw [HRW.out]; have := HIL.out; show ((l0.length : Int) - ((i + 1 : Nat) : Int)).toNat < ((l0.length : Int) - (i : Int)).toNat; omega
    · have c2b : decide ((i : Int) < (l0.length : Int)) = false := decide_eq_false (by omega)
      have c2c : decide (i < l0.length) = false := decide_eq_false c2_
      go_wp2_with fail
      refine (Get_st KK nm HK.out.st HI.out.good a1 HA1.out H.out.st).mono ?_
      rintro e_ w6 ⟨v, rfl, hR, hb⟩
      have HB := Aside0.mk (below_step H.out.rows.below hb)
      clear hb
      by_cases c5_ : out.2.2 = 0
      · have hg := last_ok (nm := nm) (x := a1) (b := l2) (by rw [← HOUT.out]; exact c5_) HKL.out
        rw [hg] at hR ⊢
        simp only at hR ⊢
        obtain ⟨Aa, ca, ea⟩ := Kd.R_slice hR
        subst ea
        have HRa := Aside0.mk hR
        have c5b : (out.2.2 != 0) = false := by simpa using c5_
        clear hR hg c5_
        go_wp2_with fail
        refine (slices_Equal_byte_byte.calls KK Aa ca l2 A2 c2 l2 true w6 (Kd.R_reads' HRa.out).2.2 (Kd.R_reads' HRa.out).2.1 (Kd.C_below HR2.out HB.out) HC2.out (HK.out.st.rd.eq l2 HL2.out)).mono ?_
        rintro e_ w7 ⟨rfl, kq, rfl⟩
        go_wp2_with fail
        go_ret
        exact ⟨rfl, pw_below_drewN HB.out kq⟩
      · have hg := last_bad (nm := nm) (x := a1) (b := l2) (by rw [← HOUT.out]; exact c5_) HKL.out
        obtain ⟨ga, hga⟩ : ∃ q, q = getS nm s a1 := ⟨_, rfl⟩
        rw [← hga] at hR hg ⊢
        obtain ⟨hg2, hg1⟩ := hg
        rw [hg1] at hR
        obtain ⟨Aa, ca, ea⟩ := Kd.R_slice hR
        subst ea
        have c5b : (out.2.2 != 0) = true := by simpa using c5_
        have c7b : (ga.2 != 0) = true := by simpa using hg2
        clear hR hga hg1 hg2 c5_
        go_wp2_with fail
        go_ret
        exact ⟨rfl, HB.out⟩
end
end Go.Proofs.Ytfakdphkklclgaa.P

end

section
namespace Go.Proofs.Ytfakdphkklclgaa.P
open Go.RowKit Go.Proofs.YtfakdphkklclgaaW.PrintWords
def provisolaw21_StoreLast.Pure : Prop := ∀ (l0 : List (S37)) (a1 : ByteArray) (l2 : List (Int)), (fun l : List (S37) => l.length ≤ 9223372036854775807 ∧ l.length * 48 ≤ 140737488351232 ∧ ∀ x ∈ l, Ok37 x) l0 → (fun s : ByteArray => s.size ≤ 140737488351232) a1 → (fun l : List (Int) => l.length ≤ 9223372036854775807 ∧ l.length * 1 ≤ 140737488351232 ∧ ∀ x ∈ l, (fun n : Int => (Lit.int .u8 n).wf = true) x) l2 → provisolaw21_StoreLast.Facts l0 a1 l2
end Go.Proofs.Ytfakdphkklclgaa.P

end

section
namespace Go.Proofs.Ytfakdphkklclgaa.P
open Go.RowKit Go.Proofs.YtfakdphkklclgaaW.PrintWords Go.Proofs.YtfakdphkklclgaaW.PrintLast Go.Proofs.YtfakdphkklclgaaW.PrintMore
set_option linter.unusedVariables false
set_option linter.unusedSimpArgs false
def sgn (i c : Int) : Bool :=
  (decide (97 ≤ c) && decide (c ≤ 122)) || (decide (65 ≤ c) && decide (c ≤ 90)) || (decide (0 < i) && ((decide (48 ≤ c) && decide (c ≤ 57)) || decide (c = 95)))
def tailName (s : ByteArray) : Nat → Bool
  | 0 => true
  | d + 1 => sgn ((s.size : Int) - (d + 1)) (bt s ((s.size : Int) - (d + 1))) && tailName s d
def isNameB (s : ByteArray) : Bool := decide (1 ≤ s.size) && decide (s.size ≤ 24) && tailName s s.size
theorem name_tells (s : ByteArray) (hn : s.size ≤ 140737488351232) (d : Nat) : ∀ (k : Nat) (i : Int), 0 ≤ i → i ≤ s.size → (s.size : Int) - i = d → 3 * d < k → wire_IsName.l0 k s (s.size : Int) i = some (tailName s d) := by
  induction d with
  | zero =>
    intro k i h0 h1 hd hk
    obtain ⟨k, rfl⟩ : ∃ m, k = m + 1 := ⟨k - 1, by omega⟩
    simp only [wire_IsName.l0]; rw [if_neg (by omega)]; rfl
  | succ d ih =>
    intro k i h0 h1 hd hk
    obtain ⟨k, rfl⟩ : ∃ m, k = m + 3 := ⟨k - 3, by omega⟩
    have hlt : i < (s.size : Int) := by omega
    have hi : (s.size : Int) - (d + 1) = i := by omega
    have hw : wrap64 (i + 1) = i + 1 := by unfold wrap64; omega
    have h := ih k (i + 1) (by omega) (by omega) (by omega) (by omega)
    simp only [wire_IsName.l0, wire_IsName.j2, wire_IsName.j3, tailName, hi]
    rw [if_pos hlt, if_pos h0, if_pos hlt, hw]
    have h' : wire_IsName.l0 k s (s.size : Int) (i + 1) = some (tailName s d) := h
    rw [h']
    generalize bt s i = c
    generalize tailName s d = t
    by_cases a1 : 97 ≤ c <;> by_cases a2 : c ≤ 122 <;> by_cases a3 : 65 ≤ c <;> by_cases a4 : c ≤ 90 <;> by_cases a5 : 0 < i <;> by_cases a6 : 48 ≤ c <;> by_cases a7 : c ≤ 57 <;> by_cases a8 : c = 95 <;> (try omega) <;> simp [sgn, a1, a2, a3, a4, a5, a6, a7, a8]
theorem name_100 (s : ByteArray) : wire_IsName.f 100 s = some (isNameB s) := by
  unfold wire_IsName.f isNameB
  by_cases a1 : (s.size : Int) = 0
  · rw [if_pos a1, decide_eq_false (by omega)]
    simp [wire_IsName.j0]
  · rw [if_neg a1, decide_eq_true (by omega : 1 ≤ s.size)]
    by_cases a3 : (s.size : Int) > 24
    · rw [decide_eq_true a3, decide_eq_false (by omega : ¬ s.size ≤ 24)]
      simp [wire_IsName.j0]
    · rw [decide_eq_false a3, decide_eq_true (by omega : s.size ≤ 24)]
      have h1 := name_tells s (by omega) s.size 99 0 (by omega) (by omega) (by omega) (by omega)
      simp only [wire_IsName.j0]
      rw [if_neg (by simp)]
      rw [show wire_IsName.l0 99 s (s.size : Int) 0 = some (tailName s s.size) from h1]
      simp
theorem equal_self (xs : List Int) (hl : xs.length ≤ 9223372036854775807) : ∀ (d i k : Nat), i + d = xs.length → d < k → slices_Equal_byte_byte.l0 k xs xs (xs.length : Int) (i : Int) = some true
  | 0, i, k, hd, hk => by
    obtain ⟨k, rfl⟩ : ∃ m, k = m + 1 := ⟨k - 1, by omega⟩
    simp only [slices_Equal_byte_byte.l0]
    rw [if_neg (by omega)]
  | d + 1, i, k, hd, hk => by
    obtain ⟨k, rfl⟩ : ∃ m, k = m + 1 := ⟨k - 1, by omega⟩
    have hw : wrap64 ((i : Int) + 1) = ((i + 1 : Nat) : Int) := by unfold wrap64; omega
    have ih := equal_self xs hl d (i + 1) k (by omega) (by omega)
    simp only [slices_Equal_byte_byte.l0]
    rw [if_pos (by omega), if_pos (by omega), if_pos (by omega), if_pos (by omega), if_pos trivial, hw]
    exact ih
theorem equal_is (xs : List Int) (hl : xs.length ≤ 9223372036854775807) (k : Nat) (hk : xs.length < k) : slices_Equal_byte_byte.f k xs xs = some true := by
  unfold slices_Equal_byte_byte.f
  rw [if_pos rfl]
  exact equal_self xs hl xs.length 0 k (by omega) hk
end Go.Proofs.Ytfakdphkklclgaa.P


end

section
namespace Go.Proofs.Ytfakdphkklclgaa.Pure
open Go.RowKit Go.Proofs.Ytfakdphkklclgaa.P Go.Proofs.YtfakdphkklclgaaW.PrintWords Go.Proofs.YtfakdphkklclgaaW.PrintLast Go.Proofs.YtfakdphkklclgaaW.PrintMore
set_option linter.unusedSimpArgs false
set_option linter.unusedVariables false
theorem ref_tells (s : ByteArray) (hn : s.size ≤ 140737488351232) (d : Nat) : ∀ (k : Nat) (i : Int), 0 ≤ i → i ≤ s.size → (s.size : Int) - i = d → d < k →
    provisoref01_IsName.l0 k s i = some (tailName s d) := by
  induction d with
  | zero =>
    intro k i h0 h1 hd hk
    obtain ⟨k, rfl⟩ : ∃ m, k = m + 1 := ⟨k - 1, by omega⟩
    simp only [provisoref01_IsName.l0]; rw [if_neg (by omega)]; rfl
  | succ d ih =>
    intro k i h0 h1 hd hk
    obtain ⟨k, rfl⟩ : ∃ m, k = m + 1 := ⟨k - 1, by omega⟩
    have hlt : i < (s.size : Int) := by omega
    have hi : (s.size : Int) - (d + 1) = i := by omega
    have hw : wrap64 (i + 1) = i + 1 := by unfold wrap64; omega
    have h := ih k (i + 1) (by omega) (by omega) (by omega) (by omega)
    simp only [provisoref01_IsName.l0, tailName, hi]
    rw [if_pos hlt, if_pos h0, hw, h]
    generalize bt s i = c
    generalize tailName s d = t
    by_cases a1 : 97 ≤ c <;> by_cases a2 : c ≤ 122 <;> by_cases a3 : 65 ≤ c <;> by_cases a4 : c ≤ 90 <;> by_cases a5 : i = 0 <;> by_cases a6 : c < 48 <;> by_cases a7 : 57 < c <;> by_cases a8 : c = 95 <;> (try omega) <;> simp [sgn, a1, a2, a3, a4, a5, a6, a7, a8] <;> omega
theorem ref_100 (s : ByteArray) : provisoref01_IsName.f 100 s = some (isNameB s) := by
  unfold provisoref01_IsName.f isNameB
  by_cases a1 : (s.size : Int) < 1
  · rw [if_pos a1, decide_eq_false (by omega : ¬ 1 ≤ s.size)]
    simp [provisoref01_IsName.j0]
  · rw [if_neg a1, decide_eq_true (by omega : 1 ≤ s.size)]
    by_cases a3 : (s.size : Int) > 24
    · rw [decide_eq_true a3, decide_eq_false (by omega : ¬ s.size ≤ 24)]
      simp [provisoref01_IsName.j0]
    · rw [decide_eq_false a3, decide_eq_true (by omega : s.size ≤ 24)]
      have h1 := ref_tells s (by omega) s.size 99 0 (by omega) (by omega) (by omega) (by omega)
      simp only [provisoref01_IsName.j0]
      rw [if_neg (by simp), h1]
      simp
theorem name_K (s : ByteArray) (K : Nat) (h : 100 ≤ K) : wire_IsName.f K s = some (isNameB s) := at_rounds (wire_IsName.mono s) h (name_100 s)
theorem ref_K (s : ByteArray) (K : Nat) (h : 100 ≤ K) : provisoref01_IsName.f K s = some (isNameB s) := at_rounds (provisoref01_IsName.mono s) h (ref_100 s)
theorem seg_zero (bs : List Int) (a : Nat) : seg bs a 0 = [] := by
  unfold seg
  rw [Nat.add_zero]
  exact List.drop_of_length_le (by rw [List.length_take]; omega)
theorem seg_succ (bs : List Int) (a j : Nat) (h : a + j < bs.length) : seg bs a (j + 1) = seg bs a j ++ [rd bs ((a + j : Nat) : Int)] := by
  have hr : rd bs ((a + j : Nat) : Int) = bs[a + j] := by
    unfold rd
    rw [Int.toNat_natCast, List.getD_eq_getElem?_getD, List.getElem?_eq_getElem h]
    rfl
  unfold seg
  rw [hr, show a + (j + 1) = a + j + 1 by omega, List.take_succ_eq_append_getElem h, List.drop_append_of_le_length (by rw [List.length_take]; omega)]
theorem rd_in (bs : List Int) (h : ∀ x ∈ bs, 0 ≤ x ∧ x ≤ 255) (a : Nat) (ha : a < bs.length) : 0 ≤ rd bs (a : Int) ∧ rd bs (a : Int) ≤ 255 := by
  have hr : rd bs (a : Int) = bs[a] := by simp [rd, List.getD_eq_getElem?_getD, ha]
  rw [hr]
  exact h _ (List.getElem_mem ha)
theorem numOf_snoc (xs : List Int) (x : Int) : numOf (xs ++ [x]) = numOf xs * 256 + x := by
  unfold numOf
  rw [List.foldl_append]
  rfl
theorem num_loop (bs : List Int) (hby : ∀ x ∈ bs, 0 ≤ x ∧ x ≤ 255) (hl : bs.length ≤ 140737488351232) (a k : Nat) (hk4 : k ≤ 4) (ha : a + k ≤ bs.length) : ∀ (d j K : Nat), j + d = k → 0 ≤ numOf (seg bs a j) → numOf (seg bs a j) < 256 ^ j → provisoref01_Number.l0 (K + d + 1) bs (a : Int) (k : Int) (numOf (seg bs a j)) (j : Int) = some (valR k (seg bs a k), ((a + k : Nat) : Int), 0)
  | 0, j, K, hj, h0, h1 => by
    obtain rfl : j = k := by omega
    have w1 : wrap64 ((a : Int) + (j : Int)) = ((a + j : Nat) : Int) := by unfold wrap64; omega
    simp only [provisoref01_Number.l0]
    rw [if_neg (by omega), w1]
    unfold valR signOf
    by_cases c : j = 4
    · subst c
      rw [if_pos (by rfl), if_pos rfl]
      by_cases c2 : numOf (seg bs a 4) < 2147483648
      · rw [if_neg (by omega), if_pos c2]
      · have h2 : numOf (seg bs a 4) < 4294967296 := h1
        have w2 : wrap64 (numOf (seg bs a 4) - 4294967296) = numOf (seg bs a 4) - 4294967296 := by unfold wrap64; omega
        rw [if_pos (by omega), if_neg c2, w2]
    · rw [if_neg (by omega), if_neg c]
  | d + 1, j, K, hj, h0, h1 => by
    have hlt : a + j < bs.length := by omega
    have hr := rd_in bs hby (a + j) hlt
    have hp : (256 : Int) ^ j ≤ 16777216 := by
      have h3 : j = 0 ∨ j = 1 ∨ j = 2 ∨ j = 3 := by omega
      rcases h3 with rfl | rfl | rfl | rfl <;> decide
    have hs : numOf (seg bs a (j + 1)) = numOf (seg bs a j) * 256 + rd bs ((a + j : Nat) : Int) := by rw [seg_succ bs a j hlt, numOf_snoc]
    have h2 : 0 ≤ numOf (seg bs a (j + 1)) ∧ numOf (seg bs a (j + 1)) < 256 ^ (j + 1) := by rw [hs, Int.pow_succ]; omega
    have ih := num_loop bs hby hl a k hk4 ha d (j + 1) K (by omega) h2.1 h2.2
    have w1 : wrap64 ((a : Int) + (j : Int)) = ((a + j : Nat) : Int) := by unfold wrap64; omega
    have w2 : wrap64 ((j : Int) + 1) = ((j + 1 : Nat) : Int) := by unfold wrap64; omega
    generalize hq : numOf (seg bs a j) = q at h0 h1 hs ⊢
    generalize hz : rd bs ((a + j : Nat) : Int) = z at hr hs
    have w3 : wrap64 (q * 256) = q * 256 := by unfold wrap64; omega
    have w4 : wrap64 z = z := by unfold wrap64; omega
    have w5 : wrap64 (q * 256 + z) = q * 256 + z := by unfold wrap64; omega
    rw [show K + (d + 1) + 1 = (K + d + 1) + 1 by omega]
    unfold provisoref01_Number.l0
    rw [if_pos (by omega), w1, if_pos (by omega), if_pos (by omega), hz, w4, w3, w5, w2, ← hs]
    exact ih
theorem num_is (K k : Nat) (bs : List Int) (a : Nat) (hk : k = 1 ∨ k = 2 ∨ k = 4) (hK : 6 ≤ K) (hby : ∀ x ∈ bs, 0 ≤ x ∧ x ≤ 255) (hl : bs.length ≤ 140737488351232) (ha : a ≤ bs.length) : provisoref01_Number.f K bs (a : Int) (k : Int) = some ((numR k bs a).1, ((numR k bs a).2.1 : Int), (numR k bs a).2.2) := by
  have w1 : wrap64 ((bs.length : Int) - (a : Int)) = (bs.length : Int) - (a : Int) := by unfold wrap64; omega
  unfold provisoref01_Number.f numR
  rw [w1]
  by_cases c : bs.length < a + k
  · rw [if_pos (by omega), if_pos c]
  · rw [if_neg (by omega), if_neg c]
    obtain ⟨m, rfl⟩ : ∃ m, K = m + k + 1 := ⟨K - k - 1, by omega⟩
    have h := num_loop bs hby hl a k (by omega) (by omega) k 0 m (by omega)
    rw [seg_zero] at h
    exact h (by decide) (by decide)
theorem take_loop (bs : List Int) (hl : bs.length ≤ 140737488351232) (a n : Nat) (ha : a + n ≤ bs.length) : ∀ (d j K : Nat), j + d = n → provisoref01_Take.l0 (K + d + 1) bs (a : Int) (n : Int) (seg bs a j) (j : Int) = some (seg bs a n, ((a + n : Nat) : Int), 0)
  | 0, j, K, hj => by
    obtain rfl : j = n := by omega
    have w1 : wrap64 ((a : Int) + (j : Int)) = ((a + j : Nat) : Int) := by unfold wrap64; omega
    simp only [provisoref01_Take.l0]
    rw [if_neg (by omega), w1]
  | d + 1, j, K, hj => by
    have hlt : a + j < bs.length := by omega
    have hs := seg_succ bs a j hlt
    have ih := take_loop bs hl a n ha d (j + 1) K (by omega)
    have w1 : wrap64 ((a : Int) + (j : Int)) = ((a + j : Nat) : Int) := by unfold wrap64; omega
    have w2 : wrap64 ((j : Int) + 1) = ((j + 1 : Nat) : Int) := by unfold wrap64; omega
    have hsl : (seg bs a j).length = j := seg_len bs a j (by omega)
    rw [show K + (d + 1) + 1 = (K + d + 1) + 1 by omega]
    unfold provisoref01_Take.l0
    rw [if_pos (by omega), w1, if_pos (by omega), if_pos (by omega), hsl, if_pos (by omega), w2, ← hs]
    exact ih
theorem take_is (K : Nat) (bs : List Int) (a : Nat) (n : Int) (hK : 140737488355328 ≤ K) (hl : bs.length ≤ 140737488351232) (ha : a ≤ bs.length) : provisoref01_Take.f K bs (a : Int) n = some ((takeR bs a n).1, ((takeR bs a n).2.1 : Int), (takeR bs a n).2.2) := by
  have w1 : wrap64 ((bs.length : Int) - (a : Int)) = (bs.length : Int) - (a : Int) := by unfold wrap64; omega
  unfold provisoref01_Take.f takeR
  by_cases c : n < 0
  · rw [if_pos c, if_pos c]
  · rw [if_neg c, if_neg c, w1]
    by_cases c2 : n > (bs.length : Int) - (a : Int)
    · rw [if_pos (by omega), if_pos c2]
    · rw [if_neg (by omega), if_neg c2]
      obtain ⟨k, rfl⟩ : ∃ k : Nat, n = (k : Int) := ⟨n.toNat, by omega⟩
      rw [Int.toNat_natCast]
      obtain ⟨m, rfl⟩ : ∃ m, K = m + k + 1 := ⟨K - k - 1, by omega⟩
      have h := take_loop bs hl a k (by omega) k 0 m (by omega)
      rw [seg_zero] at h
      exact h
theorem rd_facts (K : Nat) (hK : 140737488355328 ≤ K) : RdFacts K isNameB := ⟨fun k bs a hk hby hl ha => num_is K k bs a hk (by omega) hby hl ha, fun bs a n _ hl ha => take_is K bs a n hK hl ha, fun s => name_K s K (by omega), fun s => ref_K s K (by omega), fun xs hl => equal_is xs (by omega) K (by omega)⟩

theorem isName_siz (x : ByteArray) (h : isNameB x = true) : 1 ≤ x.size ∧ x.size ≤ 24 := by
  unfold isNameB at h
  simp only [Bool.and_eq_true, decide_eq_true_eq] at h
  omega
theorem pos_le (x : ByteArray) (L : List S101) : posL x L ≤ L.length := by unfold posL; exact (List.takeWhile_sublist _).length_le
theorem place_step (x : ByteArray) (k : S101) (l : List S101) (h : lessB k.f0 x = true) : posL x (k :: l) = posL x l + 1 := by
  unfold posL
  rw [List.takeWhile_cons_of_pos (p := fun k : S101 => lessB k.f0 x) h]
  rfl
theorem place_stop (x : ByteArray) (k : S101) (l : List S101) (h : ¬ lessB k.f0 x = true) : posL x (k :: l) = 0 := by
  unfold posL
  rw [List.takeWhile_cons_of_neg (p := fun k : S101 => lessB k.f0 x) h]
  rfl
theorem place_loop (x : ByteArray) : ∀ (d : Nat) (pre L : List S101) (k : Nat), L.length = d → (pre ++ L).length ≤ 1000 → d < k → Srt L → provisoref21_place.l0 k (pre ++ L) x (pre.length : Int) = some (((pre.length + posL x L : Nat) : Int), (lkL L x).isSome) := by
  intro d
  induction d with
  | zero =>
    intro pre L k hd hl hk _
    obtain ⟨k, rfl⟩ : ∃ m, k = m + 1 := ⟨k - 1, by omega⟩
    have e : L = [] := List.length_eq_zero_iff.1 hd
    subst e
    simp only [provisoref21_place.l0]
    rw [if_neg (by simp)]
    simp [posL, lkL]
  | succ d ih =>
    intro pre L k hd hl hk hs
    obtain ⟨k, rfl⟩ : ∃ m, k = m + 1 := ⟨k - 1, by omega⟩
    cases L with
    | nil => cases hd
    | cons a l =>
      have hl' : l.length = d := by simpa using hd
      rw [List.length_append, List.length_cons] at hl
      have hrd : rd_T101 (pre ++ a :: l) (pre.length : Int) = a := by
        unfold rd_T101
        rw [Int.toNat_natCast, List.getD_eq_getElem?_getD, List.getElem?_append_right (Nat.le_refl _), Nat.sub_self]
        rfl
      simp only [provisoref21_place.l0]
      rw [if_pos (by simp; omega), if_pos (by omega), hrd]
      by_cases c : lessB a.f0 x = true
      · rw [if_pos (show Op.bytesLess a.f0.toList x.toList = true from c)]
        have hw : wrap64 ((pre.length : Int) + 1) = ((pre ++ [a]).length : Int) := by
          rw [List.length_append, List.length_singleton]
          unfold wrap64
          omega
        have h := ih (pre ++ [a]) l k hl' (by simp; omega) (by omega) (List.pairwise_cons.1 hs).2
        rw [List.append_assoc, List.singleton_append] at h
        rw [hw, h, place_step x a l c]
        have hne : a.f0 ≠ x := fun e => by rw [e, lessB_irr] at c; cases c
        conv => rhs; unfold lkL
        rw [if_neg hne]
        simp; omega
      · rw [if_neg (show ¬ Op.bytesLess a.f0.toList x.toList = true from c), place_stop x a l c]
        by_cases c2 : a.f0 = x
        · rw [c2]
          conv => rhs; unfold lkL
          rw [if_pos c2]
          simp
        · rw [srt_head hs c c2]
          have : (a.f0.toList == x.toList) = false := beq_eq_false_iff_ne.mpr (fun e => c2 (data_inj (by rw [← Lib.toList_data, ← Lib.toList_data]; exact e)))
          rw [this]
          rfl
theorem place_is (K : Nat) (hK : 2000 ≤ K) (L : List S101) (x : ByteArray) (hl : L.length ≤ 17) (hs : Srt L) : provisoref21_place.f K L x = some ((posL x L : Int), (lkL L x).isSome) := by
  have h := place_loop x L.length [] L K rfl (by simpa using by omega) (by omega) hs
  unfold provisoref21_place.f
  simpa using h
theorem put_take (x : ByteArray) (b : List Int) (L : List S101) : putL x b L = L.take (posL x L) ++ [⟨x, b⟩] ++ (match L.drop (posL x L) with | [] => [] | k :: l => if k.f0 = x then l else k :: l) := by
  induction L with
  | nil => rfl
  | cons k l ih =>
    unfold putL
    by_cases c : lessB k.f0 x = true
    · rw [if_pos c, place_step x k l c, ih]
      simp
    · rw [if_neg c, place_stop x k l c]
      simp only [List.take_zero, List.drop_zero, List.nil_append, List.singleton_append]
      split <;> rfl
theorem cut_take (x : ByteArray) (L : List S101) : cutL x L = L.take (posL x L) ++ (match L.drop (posL x L) with | [] => [] | k :: l => if k.f0 = x then l else k :: l) := by
  induction L with
  | nil => rfl
  | cons k l ih =>
    unfold cutL
    by_cases c : lessB k.f0 x = true
    · rw [if_pos c, place_step x k l c, ih]
      simp
    · rw [if_neg c, place_stop x k l c]
      simp only [List.take_zero, List.drop_zero, List.nil_append]
      try (split <;> rfl)
theorem drop_pos (x : ByteArray) (L : List S101) (hs : Srt L) : (match L.drop (posL x L) with | [] => [] | k :: l => if k.f0 = x then l else k :: l) = if (lkL L x).isSome = true then L.drop (posL x L + 1) else L.drop (posL x L) := by
  induction L with
  | nil => simp [posL, lkL]
  | cons k l ih =>
    by_cases c : lessB k.f0 x = true
    · rw [place_step x k l c]
      have hne : k.f0 ≠ x := fun e => by rw [e, lessB_irr] at c; cases c
      have h := ih (List.pairwise_cons.1 hs).2
      conv => rhs; unfold lkL
      rw [if_neg hne]
      simpa using h
    · rw [place_stop x k l c]
      by_cases c2 : k.f0 = x
      · conv => rhs; unfold lkL
        rw [if_pos c2]
        simp [c2]
      · rw [srt_head hs c c2]
        simp [c2]
theorem there_lt (x : ByteArray) (L : List S101) (h : (lkL L x).isSome = true) (hs : Srt L) : posL x L < L.length := by
  induction L with
  | nil => cases h
  | cons k l ih =>
    by_cases c : lessB k.f0 x = true
    · have hne : k.f0 ≠ x := fun e => by rw [e, lessB_irr] at c; cases c
      unfold lkL at h
      rw [if_neg hne] at h
      rw [place_step x k l c]
      have := ih h (List.pairwise_cons.1 hs).2
      simpa using this
    · rw [place_stop x k l c]
      simp
theorem with_is (K : Nat) (hK : 2000 ≤ K) (L : List S101) (x : ByteArray) (b : List Int) (hl : L.length ≤ 17) (hs : Srt L) : provisoref21_with.f K L x b = some (putL x b L) := by
  have hp := pos_le x L
  have hw : wrap64 ((posL x L : Int) + 1) = ((posL x L + 1 : Nat) : Int) := by unfold wrap64; omega
  unfold provisoref21_with.f
  rw [place_is K hK L x hl hs, put_take x b L, drop_pos x L hs]
  simp only [Option.bind_some, hw, Int.toNat_natCast]
  rw [if_pos (by omega), if_pos (by omega), if_pos (by simp; omega), if_pos (by simp; omega)]
  by_cases c : (lkL L x).isSome = true
  · have := there_lt x L c hs
    rw [if_pos c, if_pos c, if_pos (by omega), if_pos (by omega), if_pos (by simp; omega)]
    simp
  · rw [if_neg c, if_neg c, if_pos (by simp; omega)]
    simp
theorem without_is (K : Nat) (hK : 2000 ≤ K) (L : List S101) (x : ByteArray) (hl : L.length ≤ 17) (hs : Srt L) : provisoref21_without.f K L x = some (cutL x L) := by
  have hp := pos_le x L
  have hw : wrap64 ((posL x L : Int) + 1) = ((posL x L + 1 : Nat) : Int) := by unfold wrap64; omega
  unfold provisoref21_without.f
  rw [place_is K hK L x hl hs, cut_take x L, drop_pos x L hs]
  simp only [Option.bind_some, hw, Int.toNat_natCast]
  rw [if_pos (by omega), if_pos (by omega), if_pos (by simp; omega)]
  by_cases c : (lkL L x).isSome = true
  · have := there_lt x L c hs
    rw [if_pos c, if_pos c, if_pos (by omega), if_pos (by omega), if_pos (by simp; omega)]
    simp
  · rw [if_neg c, if_neg c, if_pos (by simp; omega)]
    simp
theorem eqs_loop (xs : List ByteArray) (hl : xs.length ≤ 1000) : ∀ (d i k : Nat), xs.length - i = d → i ≤ xs.length → d < k → slices_Equal_string_string.l0 k xs xs (xs.length : Int) (i : Int) = some true := by
  intro d
  induction d with
  | zero =>
    intro i k hd hi hk
    obtain ⟨k, rfl⟩ : ∃ m, k = m + 1 := ⟨k - 1, by omega⟩
    simp only [slices_Equal_string_string.l0]
    rw [if_neg (by omega)]
  | succ d ih =>
    intro i k hd hi hk
    obtain ⟨k, rfl⟩ : ∃ m, k = m + 1 := ⟨k - 1, by omega⟩
    have hw : wrap64 ((i : Int) + 1) = ((i + 1 : Nat) : Int) := by unfold wrap64; omega
    simp only [slices_Equal_string_string.l0]
    rw [if_pos (by omega), if_pos (by omega), if_pos (by omega), if_pos (by omega), hw]
    simpa using ih (i + 1) k (by omega) (by omega) (by omega)
theorem eqs_is (K : Nat) (hK : 2000 ≤ K) (xs : List ByteArray) (hl : xs.length ≤ 17) : slices_Equal_string_string.f K xs xs = some true := by
  unfold slices_Equal_string_string.f
  rw [if_pos rfl]
  exact eqs_loop xs (by omega) xs.length 0 K (by omega) (by omega) (by omega)
theorem wr_loop (xs : List S52) (hl : xs.length ≤ 2) (hx : ∀ x ∈ xs, x.f1.length ≤ 2097152) : ∀ (d i k : Nat), xs.length - i = d → i ≤ xs.length → d + 2097160 < k → provisoplain_SameWrites.l0 k xs xs (xs.length : Int) (i : Int) = some true := by
  intro d
  induction d with
  | zero =>
    intro i k hd hi hk
    obtain ⟨k, rfl⟩ : ∃ m, k = m + 1 := ⟨k - 1, by omega⟩
    simp only [provisoplain_SameWrites.l0]
    rw [if_neg (by omega)]
  | succ d ih =>
    intro i k hd hi hk
    obtain ⟨k, rfl⟩ : ∃ m, k = m + 1 := ⟨k - 1, by omega⟩
    have hw : wrap64 ((i : Int) + 1) = ((i + 1 : Nat) : Int) := by unfold wrap64; omega
    have hm : (rd_T52 xs (i : Int)).f1.length ≤ 2097152 := by
      unfold rd_T52
      rw [Int.toNat_natCast, List.getD_eq_getElem?_getD, List.getElem?_eq_getElem (by omega)]
      exact hx _ (List.getElem_mem _)
    simp only [provisoplain_SameWrites.l0]
    rw [if_pos (by omega), if_pos (by omega), if_pos (by omega), if_pos (by omega), equal_is _ (by omega) k (by omega), hw]
    simpa using ih (i + 1) k (by omega) (by omega) (by omega)
theorem wr_is (K : Nat) (hK : 2097200 ≤ K) (xs : List S52) (hl : xs.length ≤ 2) (hx : ∀ x ∈ xs, x.f1.length ≤ 2097152) : provisoplain_SameWrites.f K xs xs = some true := by
  unfold provisoplain_SameWrites.f
  rw [if_pos rfl]
  exact wr_loop xs hl hx xs.length 0 K (by omega) (by omega) (by omega)
theorem st_facts : StFacts 140737488355328 isNameB := ⟨rd_facts _ (Nat.le_refl _), isName_siz, fun L x h1 h2 => place_is _ (by omega) L x h1 h2, fun L x b h1 h2 => with_is _ (by omega) L x b h1 h2, fun L x h1 h2 => without_is _ (by omega) L x h1 h2, fun xs h => eqs_is _ (by omega) xs h, fun ws h1 h2 => wr_is _ (by omega) ws h1 h2⟩
theorem l_facts : LFacts 140737488355328 isNameB := ⟨st_facts, fun l hl => untouched_is l (by omega) _ (by omega)⟩
theorem script_ok {l : List S37} (h : ∀ x ∈ l, Ok37 x) (i : Nat) (hi : i < l.length) : l[i].f1.size ≤ maxLen ∧ l[i].f2.length ≤ 140737488351232 ∧ ∀ z ∈ l[i].f2, 0 ≤ z ∧ z ≤ 255 := by
  have h1 := h _ (List.getElem_mem hi)
  unfold Ok37 at h1
  obtain ⟨_, h2, h3, h4, h5⟩ := h1
  refine ⟨by unfold maxLen; omega, by omega, fun z hz => ?_⟩
  have h6 := h5 z hz
  simp [Lit.wf, IntKind.min, IntKind.max, IntKind.signed, IntKind.bits] at h6
  omega
end Go.Proofs.Ytfakdphkklclgaa.Pure

end

section
namespace Go.Proofs.Ytfakdphkklclgaa.Pure
open Go.RowKit Go.Proofs.Ytfakdphkklclgaa.P Go.Proofs.YtfakdphkklclgaaW.PrintWords Go.Proofs.YtfakdphkklclgaaW.PrintLast Go.Proofs.YtfakdphkklclgaaW.PrintMore
set_option linter.unusedSimpArgs false
set_option linter.unusedVariables false
theorem StoreLast : provisolaw21_StoreLast.Pure := by
  intro l0 a1 l2 h0 h1 h2
  refine ⟨⟨by unfold maxLen; exact Nat.le_trans h1 (by omega), by have := h2.2.1; omega, fun x hx => ?_⟩, ⟨140737488355328, isNameB, l_facts⟩, by have := h0.2.1; omega, fun i hi => script_ok h0.2.2 i hi⟩
  have := h2.2.2 x hx
  simp [Lit.wf, IntKind.min, IntKind.max, IntKind.signed, IntKind.bits] at this
  omega
end Go.Proofs.Ytfakdphkklclgaa.Pure

end

section
namespace Go.Proofs.Ytfakdphkklclgaa.storeLast
open Go.ChangeShapes Go.WideShapes Go.ChangeAt Go.RowKit Go.Proofs.YtfakdphkklclgaaW.PrintWords Go.Proofs.Ytfakdphkklclgaa.Sees Go.Proofs.Ytfakdphkklclgaa.P
open Go.ChangeMaps (open_string shut_string)
set_option linter.unusedVariables false
set_option linter.unusedSimpArgs false
theorem own : ownKnob Try.prog.godebug = none := by kernel_rfl
theorem laidOut : laidOutB Try.prog = true := by kernel_rfl
set_option maxRecDepth 100000 in
theorem lifted (os : Os) (started : os.Started) (H : Type) (enc : TypeId × Value → H) :
    ReturnsInHanded {} Try.checked os 3 .any (Rows.storeLastSpec.pre6 enc Try.prog Try.f3 Rows.storeLastRow.domain false) (Rows.storeLastSpec.post enc Try.prog Try.f3 false true false false) := by
  refine returnsInHanded_of_change_sized (C := Try.checked) own started (by kernel_rfl) Try.func3
    (ChangeSpec.witness6 (enc := enc) (C := Try.checked) false ⟨#[], #[.slice none 0 0, .string ByteArray.empty, .slice none 0 0], []⟩ 8 (by kernel_rfl) (by kernel_rfl) (by kernel_rfl) (by kernel_rfl)) ?_
  intro W base args ds gs before hval0 hW hcnd hsz0 _
  have hsz : (DataW.weightsEach Try.prog (Try.f3.params.toList ++ Rows.storeLastSpec.plain.varTypes Try.prog) (ds ++ gs)).all (· ≤ reachBytes) = true := hsz0
  have hval : ∀ (j : Nat) t v, Try.f3.params[j]? = some t → args[j]? = some v → Value.okWide Try.prog W .any base t v := hval0
  have hW' := hW
  obtain ⟨p, q, hA0, hV, rfl, hfz, hnd⟩ := hW
  have hA : DataW.TrodAll enc Try.prog W 0 (fun _ => true) true Try.f3.params.toList args.toList ds p := hA0
  rw [Try.params3] at hA hval hsz
  obtain ⟨v0, vs0, d0, ds0, p0, q0, hargs, rfl, rfl, h0, r0⟩ := trodAll_cons hA
  obtain ⟨v1, vs1, d1, ds1, p1, q1, rfl, rfl, rfl, h1, r1⟩ := trodAll_cons r0
  obtain ⟨v2, vs2, d2, ds2, p2, q2, rfl, rfl, rfl, h2, r2⟩ := trodAll_cons r1
  obtain ⟨rfl, rfl, rfl⟩ := trodAll_nil r2
  obtain rfl : args = #[v0, v1, v2] := by cases args; simp_all
  obtain ⟨rfl, rfl⟩ := trodVars_none hV
  have k0 := h0
  have lt0 : ∀ x ∈ p0, x.block < W.heap.size := by obtain ⟨m, hm⟩ := k0; exact DataW.trod_lt m _ _ _ hm
  obtain ⟨y0, hy0, oy0⟩ := see_arg (j := 0) (t := 22) (sees_slice (B := 48) Try.underlying22 (by kernel_rfl) (by kernel_rfl) sees37) hsz rfl rfl h0
  obtain ⟨a0, len0, cap0, rfl⟩ := okWide_slice Try.underlying22 (hval 0 22 v0 rfl rfl)
  obtain ⟨rfl, hc0, hr0⟩ := see_slice rfl hy0
  have k1 := h1
  have lt1 : ∀ x ∈ p1, x.block < W.heap.size := by obtain ⟨m, hm⟩ := k1; exact DataW.trod_lt m _ _ _ hm
  obtain ⟨y1, hy1, oy1⟩ := see_arg (j := 1) (t := 9) (sees_string Try.underlying9) hsz rfl rfl h1
  obtain ⟨z1, rfl, rfl, rfl, _⟩ := open_string Try.underlying9 (hval 1 9 v1 rfl rfl) h1
  obtain rfl : z1 = y1 := by have e_ := hy1; simp [Kd.int, Kd.bool, Kd.string, Kd.scalar, Value.cells] at e_; exact e_
  have k2 := h2
  have lt2 : ∀ x ∈ p2, x.block < W.heap.size := by obtain ⟨m, hm⟩ := k2; exact DataW.trod_lt m _ _ _ hm
  obtain ⟨y2, hy2, oy2⟩ := see_arg (j := 2) (t := 23) (sees_slice (B := 1) Try.underlying23 (by kernel_rfl) (by kernel_rfl) (sees_int Try.underlying5)) hsz rfl rfl h2
  obtain ⟨a2, len2, cap2, rfl⟩ := okWide_slice Try.underlying23 (hval 2 23 v2 rfl rfl)
  obtain ⟨rfl, hc2, hr2⟩ := see_slice rfl hy2
  clear hA0 hval0 hsz0 hsz
  have hk := Pure.StoreLast y0 z1 y2 oy0 oy1 oy2
  refine (provisolaw21_StoreLast.calls _ _ y0 z1 _ _ y2 W hr0 hc0 hr2 hc2 hk).mono ?_
  rintro e W' ⟨rfl, bel0⟩
  have bel : Below W.heap.size W W' := bel0
  exact ⟨_, rfl, _, _, _, [], _, [], hW', trodAll_mk1 (shut_bool Try.underlying4 _), (trodAll_cons_mk (Below.trod laidOut (by kernel_rfl) (of_decide_eq_true (by kernel_rfl)) k0 bel lt0) (trodAll_cons_mk (Below.trod laidOut (by kernel_rfl) (of_decide_eq_true (by kernel_rfl)) k1 bel lt1) (trodAll_cons_mk (Below.trod laidOut (by kernel_rfl) (of_decide_eq_true (by kernel_rfl)) k2 bel lt2) trodAll_mk0))), rfl, bel.frame _, fun h => by cases h⟩
theorem over : Rows.storeLastRow.holds Try.pinned (OpenSpec.ofChange Rows.storeLastSpec) :=
  OpenClaim.holds_of_wide 3 Try.f3 rfl rfl rfl rfl rfl rfl rfl ⟨rfl, rfl, rfl, rfl, rfl⟩ rfl rfl rfl rfl rfl (by kernel_rfl) Try.func3 (by kernel_rfl)
    (of_decide_eq_true (by kernel_rfl)) (by unfold Func.isWrapper; first | (rw [if_pos (by decide +kernel)]; kernel_rfl) | (rw [if_neg (by decide +kernel)]; exact ⟨rfl, rfl⟩))
    (fun os started H enc _ => lifted os started H enc)
theorem proved : Rows.StoreLastSaid := over
end Go.Proofs.Ytfakdphkklclgaa.storeLast
namespace Go.Proofs.Ytfakdphkklclgaa
theorem storeLast_holds : Rows.StoreLastSaid := storeLast.proved
end Go.Proofs.Ytfakdphkklclgaa

end

