/- Proved: the law StoreOwn holds for every input that the row lets in. No condition of ours. -/
import Derived.Test.YtfakdphkklclgaaBStoreOwnd
import Derived.Test.YtfakdphkklclgaaRows
import Derived.ShutString
import Derived.ChangeOld
import Derived.Lib.SmallJoins
section
namespace Go.Proofs.Ytfakdphkklclgaa.P
open Go.RowKit Go.Proofs.YtfakdphkklclgaaW.PrintWords Go.Proofs.YtfakdphkklclgaaW.PrintLast Go.Proofs.YtfakdphkklclgaaW.PrintMore
attribute [local go_sem] max2_int min2_int max_two min_two max_three min_three max_four min_four
set_option linter.unusedVariables false
set_option linter.unusedSimpArgs false
section
theorem put_ws (nm : ByteArray → Bool) {s : Sto} (x : ByteArray) (b : List Int) (hi : s.img.length ≤ 1048576) (hb : ∀ z ∈ b, 0 ≤ z ∧ z ≤ 255) : WsOK s (putS nm s x b) := by
  unfold putS
  split
  · exact ⟨Nat.zero_le _, fun x hx => (by cases hx), fun x hx => (by cases hx), .inl ⟨rfl, rfl⟩⟩
  split
  · exact ⟨Nat.zero_le _, fun x hx => (by cases hx), fun x hx => (by cases hx), .inl ⟨rfl, rfl⟩⟩
  split
  · exact ⟨Nat.zero_le _, fun x hx => (by cases hx), fun x hx => (by cases hx), .inl ⟨rfl, rfl⟩⟩
  have hr := rec_rng 1 (by decide) x b hb
  obtain ⟨t, e⟩ := rec_cons 1 x b
  rw [e] at hr ⊢
  exact laid_ws _ _ _ hi hr
end
end Go.Proofs.Ytfakdphkklclgaa.P

end

section
namespace Go.Proofs.Ytfakdphkklclgaa.P
open Go.RowKit Go.Proofs.YtfakdphkklclgaaW.PrintWords Go.Proofs.YtfakdphkklclgaaW.PrintLast Go.Proofs.YtfakdphkklclgaaW.PrintMore
attribute [local go_sem] max2_int min2_int max_two min_two max_three min_three max_four min_four
set_option linter.unusedVariables false
set_option linter.unusedSimpArgs false
section
open Go.ChangeMaps Go.MapKept
set_option linter.unusedVariables false
def provisolaw21_StoreOwn.Facts (l0 : List S37) : Prop := (∃ (K : Nat) (nm : ByteArray → Bool), LFacts K nm) ∧ l0.length ≤ 2932031007403 ∧ ∀ (i : Nat) (hi : i < l0.length), l0[i].f1.size ≤ maxLen ∧ l0[i].f2.length ≤ 140737488351232 ∧ ∀ z ∈ l0[i].f2, 0 ≤ z ∧ z ≤ 255
set_option maxHeartbeats 12800000 in
set_option maxRecDepth 100000 in
theorem provisolaw21_StoreOwn.calls (A0 : Option Addr) (c0 : Nat) (l0 : List S37) (w : World) (hr0 : Kd.C k37 w A0 l0.length l0) (hc0 : l0.length ≤ c0) (h : provisolaw21_StoreOwn.Facts l0) :
    Calls Try.prog 4 #[.slice A0 l0.length c0] w fun e w' => e = .returned (.bool true) ∧ Below w.heap.size w w' := by
  obtain ⟨⟨KK, nm, hK⟩, hlim, hd⟩ := h
  have HK := Aside0.mk hK
  have HLIM := Aside0.mk hlim
  have HD := Aside0.mk hd
  have HR0 := Aside0.mk hr0
  have HC0 := Aside0.mk hc0
  clear hK hlim hd hr0 hc0
  go_enter Try.func4, Try.ntmps4
  go_wp2_with fail
  refine (New_st w).mono ?_
  rintro e_ w1 ⟨g, rfl, hs, hb⟩
  have HS := Aside0.mk hs
  have HN1 := Aside0.mk (show Rws w [] w1 from ⟨fun _ q => (by simp at q), by simp, hb⟩)
  clear hs hb
  go_wp2_with (first | ((with_reducible refine gate_dst (N := 4) rfl ?_); refine rw_allocS rfl 29 rfl (cs := #[.slice none 0 0, .slice none 0 0]) (by kernel_rfl) HN1.out ?_; intro bx wx hg6 hM hb6; have HMX := Aside0.mk hM; have HBX := Aside0.mk hb6; have HEX := Aside0.mk hg6; clear hg6 hM hb6))
  have H := Aside0.mk (new_LSt HS.out HBX.out HMX.out HEX.out)
  have HI := Aside0.mk (inv_new nm)
  have hsh := ShAt.new2 wx w.heap.size HMX.out.below.size
  have hbq := below_alloc (Below.refl wx.heap.size wx) (.cells #[.slice none 0 0, .slice none 0 0] 49 (0, 0))
  obtain ⟨wq, hwq⟩ : ∃ wq, wq = (wx.alloc (.cells #[.slice none 0 0, .slice none 0 0] 49 (0, 0))) := ⟨_, rfl⟩
  rw [← hwq] at hsh hbq ⊢
  have hxl := H.out.bx_lt
  have HO := Aside0.mk (show OSt w bx g wx.heap.size 0 ⟨[], []⟩ #[.slice none 0 0, .slice none 0 0] _ (fun _ => False) (fun b => b = wx.heap.size) wq from ⟨H.out.step hbq, hsh, fun b q r => by have := (H.out.st.lt b r).2; omega, fun _ _ q => q, fun q => by omega, fun _ q => q.elim⟩)
  obtain ⟨sh, hsheq⟩ : ∃ sh, sh = wx.heap.size := ⟨_, rfl⟩
  rw [← hsheq] at HO ⊢
  have HNB := Aside0.mk (show 0 ≤ 2 * 0 + (Sto.mk [] []).img.length from Nat.zero_le _)
  clear HS HN1 hwq hsh hbq hsheq H hxl
  go_loopw [26] (fun v26 wr => ∃ (i : Nat) (s : Sto) (cs : Array Value) (F Z FS : Nat → Prop) (nB : Nat), v26 = .int .i64 (i : Int) ∧ i ≤ l0.length ∧ Aside0 (OSt w bx g sh nB s cs F Z FS wr) ∧ Aside0 (Inv nm s) ∧ Aside0 (nB ≤ 2 * i + s.img.length)) (fun v26 _ => ((l0.length : Int) - intOf v26).toNat)
  case atStart => exact ⟨0, _, _, _, _, _, _, rfl, Nat.zero_le _, HO, HI, HNB⟩
  case round =>
    clear HO HI HMX HBX HEX HNB
    obtain ⟨i, s, cs, F, Z, FS, nB, rfl, hi, HO, HI, HNB⟩ := hrel
    have H := Aside0.mk HO.out.ls
    by_cases c2_ : i < l0.length
    · have c2b : decide ((i : Int) < (l0.length : Int)) = true := decide_eq_true (by omega)
      have c2c : decide (i < l0.length) = true := decide_eq_true c2_
      have p5 : (0 ≤ (i : Int)) = True := eq_true (by omega)
      have p6 : ((i : Int) < (l0.length : Int)) = True := eq_true (by omega)
      have HIL : Aside0 (i < l0.length) := ⟨c2_⟩
      have HRW : Aside0 (wrap64 ((i : Int) + 1) = ((i + 1 : Nat) : Int)) := ⟨by have := HLIM.out; unfold wrap64; omega⟩
      have hbx := H.out.rows.below
      obtain ⟨ad, Ad, cd, e1, hx0, hx1, hx2, hcd, hby⟩ := at_T37 HR0.out (i : Int) (by omega) (by omega)
      cases e1
      replace hx0 := (hbx.cell (World.block_lt_of_cell? w _ hx0)).trans hx0
      replace hx1 := (hbx.cell (World.block_lt_of_cell? w _ hx1)).trans hx1
      replace hx2 := (hbx.cell (World.block_lt_of_cell? w _ hx2)).trans hx2
      have hdo := HD.out i c2_
      have hrd : rd_T37 l0 (i : Int) = l0[i] := by unfold rd_T37; rw [Int.toNat_natCast, List.getD_eq_getElem?_getD, List.getElem?_eq_getElem c2_]; rfl
      simp only [Int.toNat_natCast] at hx0 hx1 hx2
      rw [hrd] at hx0 hx1 hx2 hcd hby
      have HD0 := Aside0.mk hdo
      have HBF := Aside0.mk (Kd.F_below (F_of_C hby) hbx)
      have HCD := Aside0.mk hcd
      obtain ⟨op, hop⟩ : ∃ z, z = l0[i].f0 := ⟨_, rfl⟩
      obtain ⟨x, hxn⟩ : ∃ z, z = l0[i].f1 := ⟨_, rfl⟩
      obtain ⟨b, hbn⟩ : ∃ z, z = l0[i].f2 := ⟨_, rfl⟩
      rw [← hop] at hx0
      rw [← hxn] at hx1
      rw [← hbn] at hx2
      have HOP := Aside0.mk (And.intro hop (And.intro hxn hbn))
      replace HD0 := Aside0.mk (show x.size ≤ maxLen ∧ b.length ≤ 140737488351232 ∧ ∀ z ∈ b, 0 ≤ z ∧ z ≤ 255 by rw [hxn, hbn]; exact HD0.out)
      replace HBF := Aside0.mk (show Kd.F (Kd.int .u8) wr (fun k => k < w.heap.size) Ad b.length b by rw [hbn]; exact HBF.out)
      replace HCD := Aside0.mk (show b.length ≤ cd by rw [hbn]; exact HCD.out)
      obtain ⟨Ax, cx, Ay, cy, ecs, _⟩ := H.out.dt.now
      injection ecs with ecs
      subst ecs
      have HMR := Aside0.mk H.out.rows
      clear hbx hcd hby hdo hrd hop hxn hbn
      go_wp2_with (first | ((with_reducible refine gate_dst (N := 7) rfl ?_); refine rw_allocS rfl 37 rfl (cs := #[.int .i64 0, .string ⟨#[]⟩, .slice none 0 0]) (by kernel_rfl) HMR.out ?_; intro b6 w2 hg6 hM hb6; have HM2 := Aside0.mk hM; have HB2 := Aside0.mk hb6; have HE6 := Aside0.mk hg6; clear hg6 hM hb6) | (refine rw_storeS rfl 37 rfl rfl (cs' := #[.int .i64 op, .string x, .slice Ad b.length cd]) rfl [] HM2.out (by kernel_rfl) rfl (by show _ = _; simp [Value.oneCell']) ?_; intro w3 hM hk3; have HM3 := Aside0.mk hM; have HK3 := Aside0.mk hk3; have hc60 := blk_cell (hM.mem List.mem_cons_self) 0; have hc61 := blk_cell (hM.mem List.mem_cons_self) 1; clear hM hk3))
      have HKR := Aside0.mk (show Kept wr w3 (fun _ => False) from ⟨Nat.le_trans HB2.out.size HK3.out.1, fun k hk _ => by
        have h6 := HE6.out
        have h2 := HB2.out.size
        exact (HK3.out.2 k (by omega) (by omega)).trans (HB2.out.block k hk)⟩)
      have H3 := Aside0.mk (HO.out.kept HKR.out (fun _ _ q => q) HM3.out.below)
      clear hc60 hc61
      have HMD := Aside0.mk (HM3.out.drewN 1)
      (try simp only [Act.put, List.setIfInBounds_toArray, List.set_cons_zero, List.set_cons_succ])
      refine wp_region_held_drew (S := fun w' => Rws w [(b6, 37, #[.int .i64 op, .string x, .slice Ad b.length cd])] w') (by kernel_rfl) ?_ (fun hHeld => ?_)
      · exact Rws.first HMD.out
      have HMD2 := Aside0.mk (show Rws w _ (World.drew _) from HMD.out)
      have HOD := Aside0.mk (show OSt w bx g sh nB s _ F Z FS (World.drew _) from H3.out.step (pw_below_drewN (Below.refl w3.heap.size w3) 1))
      have HBD := Aside0.mk (show Kd.F (Kd.int .u8) (World.drew _) _ _ _ b from Kd.F_drewN (Kd.F_kept HBF.out HKR.out (fun _ _ q => q)) 1)
      have HZD := Aside0.mk (show wr.heap.size ≤ (World.drew _).heap.size from HKR.out.1)
      clear HMD
      generalize World.drew _ = wd at HMD2 HOD HBD HZD hHeld ⊢
      refine take_dst (i := 0) (v := ?_) 31 rfl rfl (by kernel_rfl) (by kernel_rfl) (by kernel_rfl) (fun _ _ _ h => h) (Or.inl ⟨by rfl, ?_⟩) (by assumption) ?_
      rotate_left
      · intro w hSw
        go_simp
        try with_reducible rfl
      (try simp only [Act.put, List.setIfInBounds_toArray, List.set_cons_zero, List.set_cons_succ])
      refine take_dst (i := 1) (v := ?_) 32 rfl rfl (by kernel_rfl) (by kernel_rfl) (by kernel_rfl) (fun _ _ _ h => h) (Or.inl ⟨by rfl, ?_⟩) (by assumption) ?_
      rotate_left
      · intro w hSw
        go_simp
        try with_reducible rfl
      (try simp only [Act.put, List.setIfInBounds_toArray, List.set_cons_zero, List.set_cons_succ])
      refine take_dst (i := 2) (v := ?_) 33 rfl rfl (by kernel_rfl) (by kernel_rfl) (by kernel_rfl) (fun _ _ _ h => h) (Or.inl ⟨by rfl, ?_⟩) (by assumption) ?_
      rotate_left
      · intro w hSw
        have q0 := blk_cell (hSw.mem List.mem_cons_self) 1
        have q1 := blk_cell (hSw.mem List.mem_cons_self) 2
        go_simp
        try with_reducible rfl
      (try simp only [Act.put, List.setIfInBounds_toArray, List.set_cons_zero, List.set_cons_succ])
      refine take_dst (i := 3) (v := ?_) 34 rfl rfl (by kernel_rfl) (by kernel_rfl) (by kernel_rfl) (fun _ _ _ h => h) (Or.inl ⟨by rfl, ?_⟩) (by assumption) ?_
      rotate_left
      · intro w hSw
        go_simp
        try with_reducible rfl
      (try simp only [Act.put, List.setIfInBounds_toArray, List.set_cons_zero, List.set_cons_succ])
      refine take_dst (i := 4) (v := ?_) 35 rfl rfl (by kernel_rfl) (by kernel_rfl) (by kernel_rfl) (fun _ _ _ h => h) (Or.inl ⟨by rfl, ?_⟩) (by assumption) ?_
      rotate_left
      · intro w hSw
        have q0 := blk_cell (hSw.mem List.mem_cons_self) 1
        have q1 := blk_cell (hSw.mem List.mem_cons_self) 2
        go_simp
        try with_reducible rfl
      (try simp only [Act.put, List.setIfInBounds_toArray, List.set_cons_zero, List.set_cons_succ])
      refine wpAnyH_ready (rs := [5]) (by kernel_rfl) (by simp) ?_
      refine AllReadyH.cons rfl (fun K hK => ?_) (AllReadyH.nil)
      go_simp
      refine (slices_Clone_byte_byte.calls Ad cd b b wd (Kd.F_now HBD.out) HCD.out (by unfold slices_Clone_byte_byte.f; rw [if_pos (by have := HD0.out.2.1; omega)])).mono ?_
      rintro e_ we ⟨v, rfl, hR, hb⟩
      obtain ⟨Ac, cc, ec⟩ := Kd.R_slice hR
      subst ec
      have HRC := Aside0.mk hR
      have HME := Aside0.mk (HMD2.out.step hb)
      have HOE := Aside0.mk (HOD.out.step hb)
      have HBE := Aside0.mk (Kd.F_below HBD.out hb)
      have HZE := Aside0.mk hb.size
      clear hR hb
      refine hK.out _ _ (Rws.first HME.out) (fun hHeld => ?_)
      (try simp only [Act.put, List.setIfInBounds_toArray, List.set_cons_zero, List.set_cons_succ])
      clear hK K
      refine wpAnyH_ready (rs := [6]) (by kernel_rfl) (by simp) ?_
      refine AllReadyH.cons rfl (fun K hK => ?_) (AllReadyH.nil)
      go_simp
      refine (Put_st KK nm HK.out.st HI.out.good x HD0.out.1 b Ac cc (fun k => wd.heap.size ≤ k) (Kd.F_mono (Kd.R_F (Kd.R_bound HRC.out)) (fun k q => q.2.1)) (fun k q1 q2 => by have := (HOD.out.ls.st.lt k q2).2; omega) HOE.out.ls.st).mono ?_
      rintro e_ wf ⟨v8, S1, S2, rfl, q1, q2, q3, q4, q5, q6, q7⟩
      have hbf := q7 w.heap.size w (Nat.le_refl _) HOE.out.ls.rows.below
      have HMF := Aside0.mk (HME.out.keptF q6 (fun p hp => by
        rcases List.mem_cons.1 hp with rfl | hp
        · exact fun q => by have := (H.out.st.lt _ q).2; have := HE6.out; simp only at *; omega
        · rw [List.mem_singleton.1 hp]; exact H.out.nF) hbf)
      obtain ⟨out, hout⟩ : ∃ out, out = putS nm s x b := ⟨_, rfl⟩
      have hwr := put_wr nm s x b HI.out.good.img
      have hws := put_ws nm x b HI.out.good.img HD0.out.2.2
      have hinv := inv_put HK.out.st.siz HI.out x b HD0.out.2.2
      have hgrow := put_grow nm s x b
      rw [← hout] at q4 q5 hwr hws hinv hgrow ⊢
      have HGROW := Aside0.mk hgrow
      clear hgrow
      have HSF := Aside0.mk q5
      have HHF := Aside0.mk (HOE.out.sh_.kept q6 (fun b r => HO.out.d1 b r))
      have HDF := Aside0.mk (HOE.out.ls.dt.kept q6 HO.out.ls.dis)
      have HWF := Aside0.mk q4
      have HBF2 := Aside0.mk (Kd.F_kept HBE.out q6 (fun k r q => by have := (H.out.st.lt k q).1; omega))
      have HZF := Aside0.mk (And.intro q1 (And.intro q2 (And.intro q3 q6.1)))
      have HWW := Aside0.mk hwr
      have HWS := Aside0.mk hws
      have HIO := Aside0.mk hinv
      have HOUT := Aside0.mk hout
      clear q1 q2 q3 q4 q5 q6 q7 hbf hwr hws hinv hout
      refine hK.out _ _ (Rws.first HMF.out) (fun hHeld => ?_)
      (try simp only [Act.put, List.setIfInBounds_toArray, List.set_cons_zero, List.set_cons_succ])
      clear hK K
      refine take_dst (i := 7) (v := ?_) 30 rfl rfl (by kernel_rfl) (by kernel_rfl) (by kernel_rfl) (fun _ _ _ h => h) (Or.inl ⟨by rfl, ?_⟩) (by assumption) ?_
      rotate_left
      · intro w hSw
        obtain q1 := hSw
        go_simp
        try with_reducible rfl
      (try simp only [Act.put, List.setIfInBounds_toArray, List.set_cons_zero, List.set_cons_succ])
      refine take_dst (i := 8) (v := ?_) 38 rfl rfl (by kernel_rfl) (by kernel_rfl) (by kernel_rfl) (fun _ _ _ h => h) (Or.inl ⟨by rfl, ?_⟩) (by assumption) ?_
      rotate_left
      · intro w hSw
        obtain q1 := hSw
        go_simp
        try with_reducible rfl
      (try simp only [Act.put, List.setIfInBounds_toArray, List.set_cons_zero, List.set_cons_succ])
      refine take_dst (i := 9) (v := ?_) 39 rfl rfl (by kernel_rfl) (by kernel_rfl) (by kernel_rfl) (fun _ _ _ h => h) (Or.inl ⟨by rfl, ?_⟩) (by assumption) ?_
      rotate_left
      · intro w hSw
        obtain q1 := hSw
        go_simp
        try with_reducible rfl
      (try simp only [Act.put, List.setIfInBounds_toArray, List.set_cons_zero, List.set_cons_succ])
      refine take_dst (i := 10) (v := ?_) 8 rfl rfl (by kernel_rfl) (by kernel_rfl) (by kernel_rfl) (fun _ _ _ h => h) (Or.inl ⟨by rfl, ?_⟩) (by assumption) ?_
      rotate_left
      · intro w hSw
        obtain q1 := hSw
        go_simp
        try with_reducible rfl
      (try simp only [Act.put, List.setIfInBounds_toArray, List.set_cons_zero, List.set_cons_succ])
      refine take_dst (i := 11) (v := ?_) 9 rfl rfl (by kernel_rfl) (by kernel_rfl) (by kernel_rfl) (fun _ _ _ h => h) (Or.inl ⟨by rfl, ?_⟩) (by assumption) ?_
      rotate_left
      · intro w hSw
        obtain q1 := hSw
        go_simp
        try with_reducible rfl
      (try simp only [Act.put, List.setIfInBounds_toArray, List.set_cons_zero, List.set_cons_succ])
      refine wpAnyH_done (by kernel_rfl) ?_ _
      have hc61 := blk_cell (HMF.out.mem List.mem_cons_self) 1
      have hc62 := blk_cell (HMF.out.mem List.mem_cons_self) 2
      go_wp2_with (first | ((with_reducible refine gate_dst (N := 41) rfl ?_); refine rw_load rfl 29 rfl rfl HMF.out (List.mem_cons_of_mem _ List.mem_cons_self) _ Try.underlying29 rfl (by kernel_rfl) ?_))
      refine (Put_d KK nm HK.out.st HI.out.good HDF.out x b Ad cd (Kd.F_now HBF2.out) HCD.out).mono ?_
      rintro e_ wg ⟨y, m, rfl, hy, hm, hb⟩
      rw [← HOUT.out] at hy hm ⊢
      have HY := Aside0.mk hy
      have HWM := Aside0.mk hm
      obtain ⟨A15, c15, A16, c16, e15, _⟩ := hy
      subst e15
      obtain ⟨Am, cm, em, hm1, hm2⟩ := hm
      subst em
      have HMG := Aside0.mk (HMF.out.step hb)
      have HBG := Aside0.mk hb
      obtain ⟨Aw, cw, ew, hw1, hw2⟩ := HWF.out.reads
      subst ew
      have HWC := Aside0.mk (And.intro hw1 hm1)
      have herr : (out.2.2 != out.2.2) = false := by simp
      clear hb hm1 hm2 hw1 hw2 hc61 hc62
      go_wp2_with (first | ((with_reducible refine gate_dst (N := 10) rfl ?_); refine rw_allocS rfl 29 rfl (cs := #[.slice none 0 0, .slice none 0 0]) (by kernel_rfl) HMG.out ?_; intro b8 wh hg6 hM hb6; have HMH := Aside0.mk hM; have HBH := Aside0.mk hb6; have HE8 := Aside0.mk hg6; clear hg6 hM hb6) | (refine rw_storeS rfl 29 rfl rfl (cs' := #[.slice A15 out.1.img.length c15, .slice A16 out.1.L.length c16]) rfl [] HMH.out (by kernel_rfl) rfl (by show _ = _; simp [Value.oneCell']) ?_; intro wi hM hk3; have HMI := Aside0.mk hM; have HKI := Aside0.mk hk3; clear hM hk3))
      have HGI := Aside0.mk (show Kept wg wi (fun _ => False) from ⟨Nat.le_trans HBH.out.size HKI.out.1, fun k hk _ => (HKI.out.2 k (by have := HBH.out.size; omega) (by have := HE8.out; omega)).trans (HBH.out.block k hk)⟩)
      have HFI := Aside0.mk (show Kept wf wi (fun _ => False) from ⟨Nat.le_trans HBG.out.size HGI.out.1, fun k hk _ => (HGI.out.2 k (Nat.lt_of_lt_of_le hk HBG.out.size) (fun q => q)).trans (HBG.out.block k hk)⟩)
      refine (provisoplain_SameWrites.calls KK Aw cw out.2.1 Am cm out.2.1 true wi (HWF.out.kept HFI.out (fun _ _ _ q => q)).now HWC.out.1 (HWM.out.kept HGI.out (fun _ _ q => q)).now HWC.out.2 (HK.out.st.wr _ HWW.out.1 HWW.out.2)).mono ?_
      rintro e_ w' ⟨rfl, kj, rfl⟩
      have HMJ := Aside0.mk (HMI.out.drewN kj)
      have HFJ := Aside0.mk (HFI.out.drewN kj)
      have HGJ := Aside0.mk (HGI.out.drewN kj)
      generalize wi.drewN kj = wj at HMJ HFJ HGJ ⊢
      go_wp2_with (first | ((with_reducible refine gate_dst (N := 59) rfl ?_); refine rw_load rfl 29 rfl rfl HMJ.out List.mem_cons_self _ Try.underlying29 rfl (by kernel_rfl) ?_) | (refine rw_storeS rfl 29 rfl rfl (cs' := #[.slice A15 out.1.img.length c15, .slice A16 out.1.L.length c16]) rfl [_, _] HMJ.out (by kernel_rfl) rfl (by show _ = _; simp [Value.oneCell']) ?_; intro wk hM hk3; have HMK := Aside0.mk hM; have HKK := Aside0.mk hk3; clear hM hk3))
      have hzf := HZF.out
      have hzd := HZD.out
      have hze := HZE.out
      have hbxw := H.out.bx_lt
      have hFJ1 := HFJ.out.1
      have hGJ1 := HGJ.out.1
      have hBG1 := HBG.out.size
      have hKK1 := HKK.out.1
      have hLK := HOE.out.ls.done (F' := fun k => F k ∨ (S2 ≤ k ∧ k < wf.heap.size)) (Z' := fun k => Z k ∨ (wf.heap.size ≤ k ∧ k < wg.heap.size)) (fun k q => q.elim .inl (fun q => .inr (by omega))) (fun k q => q.elim .inl (fun q => .inr (by omega))) (fun k q1 q2 => q1.elim (fun q1 => q2.elim (fun q2 => HO.out.ls.dis k q1 q2) (fun q2 => by have := HO.out.zl k q1; omega)) (fun q1 => q2.elim (fun q2 => by have := (H.out.st.lt k q2).2; omega) (fun q2 => by omega))) (HSF.out.kept HFJ.out (fun _ _ q => q)) (HY.out.kept HGJ.out (fun _ _ q => q)) HKK.out (HMK.out.single (List.mem_cons_of_mem _ (List.mem_cons_of_mem _ List.mem_cons_self)))
      have hSK : ShAt w.heap.size FS sh nB 0 wk := (HHF.out.kept HFJ.out (fun _ _ q => q)).kept HKK.out (fun b q e => HO.out.d3 (e ▸ q))
      have HOK := Aside0.mk (show OSt w bx g sh nB out.1 #[.slice A15 out.1.img.length c15, .slice A16 out.1.L.length c16] (fun k => F k ∨ (S2 ≤ k ∧ k < wf.heap.size)) (fun k => Z k ∨ (wf.heap.size ≤ k ∧ k < wg.heap.size)) FS wk from ⟨hLK, hSK, fun k q r => r.elim (HO.out.d1 k q) (fun r => by have := (HO.out.sh_.lt k q).2; omega), fun k q r => r.elim (HO.out.d2 k q) (fun r => by have := (HO.out.sh_.lt k q).2; omega), HO.out.d3, fun k q => q.elim (fun q => by have := HO.out.zl k q; omega) (fun q => by omega)⟩)
      have HWK := Aside0.mk ((HWF.out.kept HFJ.out (fun _ _ _ q => q)).kept HKK.out (fun k q1 q2 e => by omega))
      have HB6K := Aside0.mk (show b6 < we.heap.size from blk_lt (HME.out.mem List.mem_cons_self))
      have HFSL := Aside0.mk (show (∀ k, FS k → k < wr.heap.size) ∧ wr.heap.size ≤ S1 ∧ S2 ≤ wk.heap.size ∧ b6 = wr.heap.size from ⟨fun k q => (HO.out.sh_.lt k q).2, by omega, by omega, HE6.out⟩)
      clear hzf hzd hze hbxw hFJ1 hGJ1 hBG1 hKK1 hLK hSK herr
      clear HSF HHF HDF HY HWM HMF HMG HMH HMI HMJ HOE HOD HRC HMD2 HME H3
      have HB6W := Aside0.mk (HMK.out.single (List.mem_cons_of_mem _ List.mem_cons_self))
      have HNN0 := Aside0.mk (show nB + 4 ≤ 5864063199990 by have := HNB.out; have := HI.out.good.img; have := HLIM.out; have := HIL.out; omega)
      have HRS := Aside0.mk (rest_start HWK.out (fun b q => by have := HFSL.out.1 b q; have := HFSL.out.2.1; omega))
      have HWB := Aside0.mk (show wk.heap.size ≤ wk.heap.size from Nat.le_refl _)
      have HSS := Aside0.mk HFSL.out.2.2.1
      have hwl := HWW.out.1
      have HWL := Aside0.mk hwl
      have HWE := Aside0.mk HWW.out.2
      have HSW := Aside0.mk (show w.heap.size ≤ S1 by have := HFSL.out.2.1; have := H.out.rows.below.size; omega)
      have HFZ := Aside0.mk (show (∀ k, F k → k < S1) ∧ (∀ k, Z k → k < S1) ∧ bx < S1 ∧ S2 ≤ wf.heap.size from ⟨fun k q => by have := (H.out.st.lt k q).2; have := HFSL.out.2.1; omega, fun k q => by have := HO.out.zl k q; have := HFSL.out.2.1; omega, by have := H.out.bx_lt; have := HFSL.out.2.1; omega, HZF.out.2.2.1⟩)
      clear hwl
      go_loopw [62] (fun v62 wr => ∃ (k : Nat) (FSk : Nat → Prop), v62 = .int .i64 (k : Int) ∧ k ≤ out.2.1.length ∧ Aside0 (OSt w bx g sh (nB + k) out.1 #[.slice A15 out.1.img.length c15, .slice A16 out.1.L.length c16] (fun k => F k ∨ (S2 ≤ k ∧ k < wf.heap.size)) (fun k => Z k ∨ (wf.heap.size ≤ k ∧ k < wg.heap.size)) FSk wr) ∧ Aside0 (Rws w [(b6, 37, #[.int .i64 op, .string x, .slice Ad b.length cd])] wr) ∧ Aside0 (Rest S1 S2 Aw out.2.1 k FSk wr) ∧ Aside0 (wk.heap.size ≤ wr.heap.size)) (fun v62 _ => ((out.2.1.length : Int) - intOf v62).toNat)
      case atStart => exact ⟨0, FS, rfl, Nat.zero_le _, HOK, HB6W, HRS, HWB⟩
      case round =>
        clear HOK HB6W HRS HWB
        obtain ⟨k, FSk, rfl, hkl, HOM, HB6M, HRS, HWB⟩ := hrel
        have hwl := HWL.out
        by_cases c9_ : k < out.2.1.length
        · have c9b : decide ((k : Int) < (out.2.1.length : Int)) = true := decide_eq_true (by omega)
          have c9c : decide (k < out.2.1.length) = true := decide_eq_true c9_
          have p9 : (0 ≤ (k : Int)) = True := eq_true (by omega)
          have p10 : ((k : Int) < (out.2.1.length : Int)) = True := eq_true (by omega)
          obtain ⟨adw, at_, Av, cv, rv, hA, hx0, hx1, hrv, hrl, hnext⟩ := rest_view HRS.out c9_ HWE.out (by have := HSS.out; have := HWB.out; omega)
          subst hA
          have HRV := Aside0.mk hrv
          have HRL := Aside0.mk hrl
          have HNX := Aside0.mk hnext
          have HK9 := Aside0.mk c9_
          have HRW2 : Aside0 (wrap64 ((k : Int) + 1) = ((k + 1 : Nat) : Int)) := ⟨w_one k (by omega)⟩
          clear hrv hrl hnext c9_ hkl hwl
          go_wp2_with (first | ((with_reducible refine gate_dst (N := 14) rfl ?_); refine rw_allocS rfl 52 rfl (cs := #[.int .i64 0, .slice none 0 0]) (by kernel_rfl) HB6M.out ?_; intro b14 wm hg6 hM hb6; have HMM := Aside0.mk hM; have HBM := Aside0.mk hb6; have HE14 := Aside0.mk hg6; clear hg6 hM hb6) | (refine rw_storeS rfl 52 rfl rfl (cs' := #[.int .i64 at_, .slice Av rv.length cv]) rfl [] HMM.out (by kernel_rfl) rfl (by show _ = _; simp [Value.oneCell']) ?_; intro wn hM hk3; have HMN := Aside0.mk hM; have HKN := Aside0.mk hk3; have hc14 := blk_cell (hM.mem List.mem_cons_self) 1; clear hM hk3))
          have hkn : Kept wr wn (fun _ => False) := ⟨Nat.le_trans HBM.out.size HKN.out.1, fun b hb _ => (HKN.out.2 b (by have := HBM.out.size; omega) (by have := HE14.out; omega)).trans (HBM.out.block b hb)⟩
          have hon := HOM.out.kept hkn (fun _ _ q => q) HMN.out.below
          refine (hon.bytes (Kd.R_lower (Kd.R_kept HRV.out hkn (fun _ _ q => q)) HSW.out) (fun b q => ⟨q.2, fun r => ?_, fun r => ?_, fun r => ?_⟩) (by have := HRL.out; omega) (by have := HNN0.out; have := HK9.out; have := HWL.out; omega)).mono ?_
          · have h1 := HFZ.out
            rcases r with r | r
            · have := h1.1 b r; have := q.1.1; omega
            · have := q.1.2; omega
          · have h1 := HFZ.out
            rcases r with r | r
            · have := h1.2.1 b r; have := q.1.1; omega
            · have := q.1.2; omega
          · have h1 := HFZ.out
            have := q.1.1
            omega
          rintro e_ wp ⟨rfl, ho, hkp, hb⟩
          have HOP := Aside0.mk ho
          have HB6P := Aside0.mk (show Rws w [(b6, 37, #[.int .i64 op, .string x, .slice Ad b.length cd])] wp from ⟨fun p hp => by
            rw [List.mem_singleton.1 hp]
            exact ⟨kept_blk hkp (HMN.out.mem (List.mem_cons_of_mem _ List.mem_cons_self)) (show 37 ≠ 49 by decide) (show 37 ≠ 23 by decide), (HB6M.out.lies _ List.mem_cons_self).2⟩, by simp, hb⟩)
          have HRP := Aside0.mk (HNX.out wn wp (fun b => (FSk b ∨ some b = (Value.slice Av rv.length cv).ownBlock ∨ wn.heap.size ≤ b) ∧ b < wp.heap.size) hkn hkp (fun b q => q.1))
          have HWP := Aside0.mk (show wk.heap.size ≤ wp.heap.size from Nat.le_trans HWB.out (Nat.le_trans hkn.1 hkp.1))
          clear ho hkp hb hkn hon hc14 hx0 hx1
          go_wp2_with fail
          go_roundw
          case rel => exact ⟨k + 1, _, (by rw [HRW2.out]), HK9.out, HOP, HB6P, HRP, HWP⟩
          case measure => rw [HRW2.out]; have := HK9.out; show ((out.2.1.length : Int) - ((k + 1 : Nat) : Int)).toNat < ((out.2.1.length : Int) - (k : Int)).toNat; omega
        · have c9b : decide ((k : Int) < (out.2.1.length : Int)) = false := decide_eq_false (by omega)
          have c9c : decide (k < out.2.1.length) = false := decide_eq_false c9_
          have hke : k = out.2.1.length := by omega
          subst hke
          have HNN := Aside0.mk (show nB + out.2.1.length + 2 ≤ 5864063200000 by have := HNN0.out; omega)
          clear hwl c9_ hkl
          go_wp2_with fail
          have HK0 := Aside0.mk (Nat.le_refl 0)
          go_loopw [71] (fun v71 wr => ∃ (k : Nat) (FSq : Nat → Prop), v71 = .int .i64 (k : Int) ∧ k ≤ 2 ∧ Aside0 (OSt w bx g sh ((nB + out.2.1.length) + k) out.1 #[.slice A15 out.1.img.length c15, .slice A16 out.1.L.length c16] (fun k => F k ∨ (S2 ≤ k ∧ k < wf.heap.size)) (fun k => Z k ∨ (wf.heap.size ≤ k ∧ k < wg.heap.size)) FSq wr) ∧ Aside0 (Rws w [(b6, 37, #[.int .i64 op, .string x, .slice Ad b.length cd])] wr)) (fun v71 _ => ((2 : Int) - intOf v71).toNat)
          case atStart => exact ⟨0, _, rfl, by decide, HOM, HB6M⟩
          case round =>
            clear HOM HB6M
            obtain ⟨k, FSq, rfl, hk2, HOM, HB6M⟩ := hrel
            by_cases c8_ : k < 2
            · have c8b : decide ((k : Int) < 2) = true := decide_eq_true (by omega)
              have HK2 := Aside0.mk c8_
              have HRW2 : Aside0 (wrap64 ((k : Int) + 1) = ((k + 1 : Nat) : Int)) := ⟨w_one k (by omega)⟩
              have hc61 := blk_cell (HB6M.out.mem List.mem_cons_self) 1
              clear c8_ hk2
              go_wp2_with fail
              refine (Get_st KK nm HK.out.st HIO.out.good x HD0.out.1 HOM.out.ls.st).mono ?_
              rintro e_ wn ⟨v, rfl, hR, hb⟩
              have hgl := getS_len HIO.out.good x
              have hrow := Kd.R_lower (Kd.R_mono (Kd.R_bound hR) (ok' := fun b => wr.heap.size ≤ b) (fun b q => q.2.1)) (show w.heap.size ≤ wr.heap.size from HOM.out.ls.rows.below.size)
              obtain ⟨Ag, cg, eg⟩ := Kd.R_slice hrow
              subst eg
              have HROW := Aside0.mk hrow
              have HFAR := Aside0.mk (show ∀ b, wr.heap.size ≤ b → ¬ FSq b ∧ ¬ (fun k => F k ∨ (S2 ≤ k ∧ k < wf.heap.size)) b ∧ ¬ (fun k => Z k ∨ (wf.heap.size ≤ k ∧ k < wg.heap.size)) b ∧ b ≠ bx from fun b q => ⟨fun r => by have := (HOM.out.sh_.lt b r).2; omega, fun r => by have := (HOM.out.ls.st.lt b r).2; omega, fun r => by have := HOM.out.zl b r; omega, fun r => by have := HOM.out.ls.bx_lt; omega⟩)
              have HGL := Aside0.mk hgl
              have HON := Aside0.mk (HOM.out.step hb)
              have HB6N := Aside0.mk (HB6M.out.step hb)
              clear hR hb hgl hrow hc61
              go_wp2_with fail
              refine (HON.out.bytes HROW.out HFAR.out (by have := HGL.out; omega) (by have := HNN.out; have := HK2.out; omega)).mono ?_
              rintro e_ wp ⟨rfl, ho, hkp, hb⟩
              have HOP := Aside0.mk ho
              have HB6P := Aside0.mk (show Rws w [(b6, 37, #[.int .i64 op, .string x, .slice Ad b.length cd])] wp from ⟨fun p hp => ⟨kept_blk hkp (HB6N.out.lies p hp).1 (by rw [List.mem_singleton.1 hp]; exact (show 37 ≠ 49 by decide)) (by rw [List.mem_singleton.1 hp]; exact (show 37 ≠ 23 by decide)), (HB6N.out.lies p hp).2⟩, by simp, hb⟩)
              clear ho hkp hb
              go_wp2_with fail
              go_roundw
              case rel => exact ⟨k + 1, _, (by rw [HRW2.out]), HK2.out, HOP, HB6P⟩
              case measure => rw [HRW2.out]; have := HK2.out; show ((2 : Int) - ((k + 1 : Nat) : Int)).toNat < ((2 : Int) - (k : Int)).toNat; omega
            · have c8b : decide ((k : Int) < 2) = false := decide_eq_false (by omega)
              have hk : k = 2 := by omega
              subst hk
              go_wp2_with fail
              go_roundw
              case rel => exact ⟨i + 1, _, _, _, _, _, _, (by rw [HRW.out]), HIL.out, HOM, HIO, ⟨by have := HNB.out; have := HGROW.out; omega⟩⟩
              case measure => rw [HRW.out]; have := HIL.out; show ((l0.length : Int) - ((i + 1 : Nat) : Int)).toNat < ((l0.length : Int) - (i : Int)).toNat; omega
    · have c2b : decide ((i : Int) < (l0.length : Int)) = false := decide_eq_false (by omega)
      have c2c : decide (i < l0.length) = false := decide_eq_false c2_
      obtain ⟨Ax, cx, Ay, cy, ecs, _⟩ := H.out.dt.now
      injection ecs with ecs
      subst ecs
      have HNN := Aside0.mk (show nB + 4 ≤ 5864063200000 by have := HNB.out; have := HI.out.good.img; have := HLIM.out; omega)
      clear H
      go_wp2_with fail
      refine (Image_st HI.out.good.img HO.out.ls.st).mono ?_
      rintro e_ w2 ⟨v, rfl, hR, hb⟩
      obtain ⟨Ai, ci, ei⟩ := Kd.R_slice hR
      subst ei
      have HRA := Aside0.mk (Kd.R_lower (Kd.R_mono (Kd.R_bound hR) (ok' := fun k => wr.heap.size ≤ k) (fun k q => q.2.1)) (show w.heap.size ≤ wr.heap.size from HO.out.ls.rows.below.size))
      have HFR := Aside0.mk (show ∀ k, wr.heap.size ≤ k → ¬ _ ∧ ¬ _ ∧ ¬ _ ∧ k ≠ bx from fun k q => ⟨fun r => by have := (HO.out.sh_.lt k r).2; omega, fun r => by have := (HO.out.ls.st.lt k r).2; omega, fun r => by have := HO.out.zl k r; omega, fun r => by have := HO.out.ls.bx_lt; omega⟩)
      have HOi := Aside0.mk (HO.out.step hb)
      clear hR hb
      go_wp2_with fail
      refine (HOi.out.bytes HRA.out HFR.out (by have := HI.out.good.img; omega) (by have := HNN.out; omega)).mono ?_
      rintro e_ w3 ⟨rfl, ho, _, _⟩
      have HO3 := Aside0.mk ho
      clear ho HRA HFR HOi
      go_wp2_with fail
      refine (Image_st HI.out.good.img HO3.out.ls.st).mono ?_
      rintro e_ w4 ⟨v, rfl, hR, hb⟩
      obtain ⟨Ai, ci, ei⟩ := Kd.R_slice hR
      subst ei
      have HRA := Aside0.mk (Kd.R_lower (Kd.R_mono (Kd.R_bound hR) (ok' := fun k => w3.heap.size ≤ k) (fun k q => q.2.1)) (show w.heap.size ≤ w3.heap.size from HO3.out.ls.rows.below.size))
      have HFR := Aside0.mk (show ∀ k, w3.heap.size ≤ k → ¬ _ ∧ ¬ _ ∧ ¬ _ ∧ k ≠ bx from fun k q => ⟨fun r => by have := (HO3.out.sh_.lt k r).2; omega, fun r => by have := (HO3.out.ls.st.lt k r).2; omega, fun r => by have := HO3.out.zl k r; omega, fun r => by have := HO3.out.ls.bx_lt; omega⟩)
      have HOi := Aside0.mk (HO3.out.step hb)
      clear hR hb
      go_wp2_with fail
      refine (HOi.out.bytes HRA.out HFR.out (by have := HI.out.good.img; omega) (by have := HNN.out; omega)).mono ?_
      rintro e_ w5 ⟨rfl, ho, _, _⟩
      have HO5 := Aside0.mk ho
      clear ho HRA HFR HOi
      go_wp2_with fail
      refine (Names_st HI.out.good.srt HI.out.good.len HO5.out.ls.st).mono ?_
      rintro e_ w6 ⟨vn, rfl, hR, hb⟩
      obtain ⟨An, cn, en⟩ := Kd.R_slice hR
      rw [List.length_map] at en
      subst en
      have HO6 := Aside0.mk (HO5.out.step hb)
      have HR6 := Aside0.mk (show ∃ ys : List ByteArray, Kd.R Kd.string 9 w6 w5.heap.size (fun k => w5.heap.size ≤ k ∧ k < w6.heap.size) (.slice An s.L.length cn) ys from ⟨_, Kd.R_mono (Kd.R_bound hR) (fun k q => ⟨q.2.1, q.2.2.1⟩)⟩)
      have HZ6 := Aside0.mk hb.size
      have HNG := Aside0.mk (show ∀ k, w5.heap.size ≤ k → ¬ _ ∧ ¬ _ ∧ ¬ _ ∧ k ≠ bx from fun k q => ⟨fun r => by have := (HO5.out.sh_.lt k r).2; omega, fun r => by have := (HO5.out.ls.st.lt k r).2; omega, fun r => by have := HO5.out.zl k r; omega, fun r => by have := HO5.out.ls.bx_lt; omega⟩)
      have hl16 := HI.out.good.len
      clear hR hb HO HO3
      go_wp2_with fail
      go_loopw [97] (fun v97 wr => ∃ k : Nat, v97 = .int .i64 (k : Int) ∧ k ≤ s.L.length ∧ Aside0 (OSt w bx g sh (nB + 1 + 1) s _ F Z _ wr) ∧ Aside0 (∃ ys : List ByteArray, Kd.R Kd.string 9 wr w5.heap.size (fun k => w5.heap.size ≤ k ∧ k < w6.heap.size) (.slice An s.L.length cn) ys)) (fun v97 _ => ((s.L.length : Int) - intOf v97).toNat)
      case atStart => exact ⟨0, rfl, Nat.zero_le _, HO6, HR6⟩
      case round =>
        clear HO6 HR6
        obtain ⟨k, rfl, hk, HO6, HR6⟩ := hrel
        by_cases c5_ : k < s.L.length
        · have c5b : decide ((k : Int) < (s.L.length : Int)) = true := decide_eq_true (by omega)
          have c5c : decide (k < s.L.length) = true := decide_eq_true c5_
          have p5 : (0 ≤ (k : Int)) = True := eq_true (by omega)
          have p6 : ((k : Int) < (s.L.length : Int)) = True := eq_true (by omega)
          have HRW2 : Aside0 (wrap64 ((k : Int) + 1) = ((k + 1 : Nat) : Int)) := ⟨w_one k (by omega)⟩
          have HK5 := Aside0.mk c5_
          obtain ⟨ys, hR⟩ := HR6.out
          have hyl := (Kd.R_reads' hR).1
          obtain ⟨gb, cb, eb, _⟩ := Kd.R_form hR (by omega)
          injection eb with eb1 eb2 eb3
          subst eb1
          have hc1 := Kd.R_celln ByteArray.empty hR (k : Int) (by omega) (by omega)
          obtain ⟨hc1, hf1⟩ := hc1
          rw [Int.toNat_natCast] at hc1 hf1
          have HRR := Aside0.mk hR
          have HGB := Aside0.mk (hR.1 gb rfl)
          clear hR hyl eb2 eb3 c5_ HR6
          go_wp2_with fail
          have hrow := Kd.R_putn HRR.out (k : Int) (⟨#[33]⟩ : ByteArray)
          rw [Int.toNat_natCast] at hrow
          have hng := HNG.out gb HGB.out.1
          have ho := HO6.out.kept (S := fun j => j = gb) (kept_at1 (Kept.refl wr (fun j => j = gb)) (p := ⟨gb, k, none⟩) rfl (.string ⟨#[33]⟩)) (fun j q e => by
            subst e
            rcases q with q | q | q | q
            · exact hng.2.1 q
            · exact hng.2.2.1 q
            · exact hng.2.2.2 q
            · exact hng.1 q) (HO6.out.ls.rows.below.setCell (p := ⟨gb, k, none⟩) (show w.heap.size ≤ gb from Nat.le_trans HO5.out.ls.rows.below.size HGB.out.1) _)
          have HON := Aside0.mk ho
          have HRN := Aside0.mk hrow
          clear ho hrow hng
          go_roundw
          case rel => exact ⟨k + 1, (by first | rfl | simp), HK5.out, HON, ⟨_, HRN.out⟩⟩
          case measure => have := HK5.out; show ((s.L.length : Int) - ((k : Int) + 1)).toNat < ((s.L.length : Int) - (k : Int)).toNat; omega
        · have c5b : decide ((k : Int) < (s.L.length : Int)) = false := decide_eq_false (by omega)
          have c5c : decide (k < s.L.length) = false := decide_eq_false c5_
          go_wp2_with fail
          refine (Own_sh w.heap.size _ sh _ 0 wr HO6.out.sh_ (by have := HNN.out; omega) (by omega)).mono ?_
          rintro e_ w8 ⟨rfl, hkp, hbl⟩
          have hb := hbl _ w (Nat.le_refl _) HO6.out.ls.rows.below
          have HL8 := Aside0.mk (HO6.out.ls.kept hkp (fun j q r => by
            rcases q with q | q | q
            · exact HO6.out.d1 j r q
            · exact HO6.out.d2 j r q
            · exact HO6.out.d3 (q ▸ r)) hb)
          have hcx0 := blk_cell (HL8.out.rows.mem List.mem_cons_self) 0
          have hcx1 := blk_cell (HL8.out.rows.mem List.mem_cons_self) 1
          clear hkp hbl hb
          go_wp2_with fail
          refine (alike_st KK nm HK.out.st HI.out.good HL8.out.st HL8.out.dt).mono ?_
          rintro e_ w9 ⟨rfl, hb⟩
          have HB := Aside0.mk (below_step HL8.out.rows.below hb)
          clear hb hcx0 hcx1
          go_wp2_with fail
          go_ret
          exact ⟨rfl, HB.out⟩
end
end Go.Proofs.Ytfakdphkklclgaa.P

end

section
namespace Go.Proofs.Ytfakdphkklclgaa.P
open Go.RowKit Go.Proofs.YtfakdphkklclgaaW.PrintWords
def provisolaw21_StoreOwn.Pure : Prop := ∀ (l0 : List (S37)), (fun l : List (S37) => l.length ≤ 9223372036854775807 ∧ l.length * 48 ≤ 140737488351232 ∧ ∀ x ∈ l, Ok37 x) l0 → provisolaw21_StoreOwn.Facts l0
end Go.Proofs.Ytfakdphkklclgaa.P

end

section
namespace Go.Proofs.Ytfakdphkklclgaa.P
open Go.RowKit Go.Proofs.YtfakdphkklclgaaW.PrintWords Go.Proofs.YtfakdphkklclgaaW.PrintLast Go.Proofs.YtfakdphkklclgaaW.PrintMore
set_option linter.unusedVariables false
set_option linter.unusedSimpArgs false
def sgn (i c : Int) : Bool :=
  (decide (97 ≤ c) && decide (c ≤ 122)) || (decide (65 ≤ c) && decide (c ≤ 90)) || (decide (0 < i) && ((decide (48 ≤ c) && decide (c ≤ 57)) || decide (c = 95)))
def tailName (s : ByteArray) : Nat → Bool
  | 0 => true
  | d + 1 => sgn ((s.size : Int) - (d + 1)) (bt s ((s.size : Int) - (d + 1))) && tailName s d
def isNameB (s : ByteArray) : Bool := decide (1 ≤ s.size) && decide (s.size ≤ 24) && tailName s s.size
theorem name_tells (s : ByteArray) (hn : s.size ≤ 140737488351232) (d : Nat) : ∀ (k : Nat) (i : Int), 0 ≤ i → i ≤ s.size → (s.size : Int) - i = d → 3 * d < k → wire_IsName.l0 k s (s.size : Int) i = some (tailName s d) := by
  induction d with
  | zero =>
    intro k i h0 h1 hd hk
    obtain ⟨k, rfl⟩ : ∃ m, k = m + 1 := ⟨k - 1, by omega⟩
    simp only [wire_IsName.l0]; rw [if_neg (by omega)]; rfl
  | succ d ih =>
    intro k i h0 h1 hd hk
    obtain ⟨k, rfl⟩ : ∃ m, k = m + 3 := ⟨k - 3, by omega⟩
    have hlt : i < (s.size : Int) := by omega
    have hi : (s.size : Int) - (d + 1) = i := by omega
    have hw : wrap64 (i + 1) = i + 1 := by unfold wrap64; omega
    have h := ih k (i + 1) (by omega) (by omega) (by omega) (by omega)
    simp only [wire_IsName.l0, wire_IsName.j2, wire_IsName.j3, tailName, hi]
    rw [if_pos hlt, if_pos h0, if_pos hlt, hw]
    have h' : wire_IsName.l0 k s (s.size : Int) (i + 1) = some (tailName s d) := h
    rw [h']
    generalize bt s i = c
    generalize tailName s d = t
    by_cases a1 : 97 ≤ c <;> by_cases a2 : c ≤ 122 <;> by_cases a3 : 65 ≤ c <;> by_cases a4 : c ≤ 90 <;> by_cases a5 : 0 < i <;> by_cases a6 : 48 ≤ c <;> by_cases a7 : c ≤ 57 <;> by_cases a8 : c = 95 <;> (try omega) <;> simp [sgn, a1, a2, a3, a4, a5, a6, a7, a8]
theorem name_100 (s : ByteArray) : wire_IsName.f 100 s = some (isNameB s) := by
  unfold wire_IsName.f isNameB
  by_cases a1 : (s.size : Int) = 0
  · rw [if_pos a1, decide_eq_false (by omega)]
    simp [wire_IsName.j0]
  · rw [if_neg a1, decide_eq_true (by omega : 1 ≤ s.size)]
    by_cases a3 : (s.size : Int) > 24
    · rw [decide_eq_true a3, decide_eq_false (by omega : ¬ s.size ≤ 24)]
      simp [wire_IsName.j0]
    · rw [decide_eq_false a3, decide_eq_true (by omega : s.size ≤ 24)]
      have h1 := name_tells s (by omega) s.size 99 0 (by omega) (by omega) (by omega) (by omega)
      simp only [wire_IsName.j0]
      rw [if_neg (by simp)]
      rw [show wire_IsName.l0 99 s (s.size : Int) 0 = some (tailName s s.size) from h1]
      simp
theorem equal_self (xs : List Int) (hl : xs.length ≤ 9223372036854775807) : ∀ (d i k : Nat), i + d = xs.length → d < k → slices_Equal_byte_byte.l0 k xs xs (xs.length : Int) (i : Int) = some true
  | 0, i, k, hd, hk => by
    obtain ⟨k, rfl⟩ : ∃ m, k = m + 1 := ⟨k - 1, by omega⟩
    simp only [slices_Equal_byte_byte.l0]
    rw [if_neg (by omega)]
  | d + 1, i, k, hd, hk => by
    obtain ⟨k, rfl⟩ : ∃ m, k = m + 1 := ⟨k - 1, by omega⟩
    have hw : wrap64 ((i : Int) + 1) = ((i + 1 : Nat) : Int) := by unfold wrap64; omega
    have ih := equal_self xs hl d (i + 1) k (by omega) (by omega)
    simp only [slices_Equal_byte_byte.l0]
    rw [if_pos (by omega), if_pos (by omega), if_pos (by omega), if_pos (by omega), if_pos trivial, hw]
    exact ih
theorem equal_is (xs : List Int) (hl : xs.length ≤ 9223372036854775807) (k : Nat) (hk : xs.length < k) : slices_Equal_byte_byte.f k xs xs = some true := by
  unfold slices_Equal_byte_byte.f
  rw [if_pos rfl]
  exact equal_self xs hl xs.length 0 k (by omega) hk
end Go.Proofs.Ytfakdphkklclgaa.P


end

section
namespace Go.Proofs.Ytfakdphkklclgaa.Pure
open Go.RowKit Go.Proofs.Ytfakdphkklclgaa.P Go.Proofs.YtfakdphkklclgaaW.PrintWords Go.Proofs.YtfakdphkklclgaaW.PrintLast Go.Proofs.YtfakdphkklclgaaW.PrintMore
set_option linter.unusedSimpArgs false
set_option linter.unusedVariables false
theorem ref_tells (s : ByteArray) (hn : s.size ≤ 140737488351232) (d : Nat) : ∀ (k : Nat) (i : Int), 0 ≤ i → i ≤ s.size → (s.size : Int) - i = d → d < k →
    provisoref01_IsName.l0 k s i = some (tailName s d) := by
  induction d with
  | zero =>
    intro k i h0 h1 hd hk
    obtain ⟨k, rfl⟩ : ∃ m, k = m + 1 := ⟨k - 1, by omega⟩
    simp only [provisoref01_IsName.l0]; rw [if_neg (by omega)]; rfl
  | succ d ih =>
    intro k i h0 h1 hd hk
    obtain ⟨k, rfl⟩ : ∃ m, k = m + 1 := ⟨k - 1, by omega⟩
    have hlt : i < (s.size : Int) := by omega
    have hi : (s.size : Int) - (d + 1) = i := by omega
    have hw : wrap64 (i + 1) = i + 1 := by unfold wrap64; omega
    have h := ih k (i + 1) (by omega) (by omega) (by omega) (by omega)
    simp only [provisoref01_IsName.l0, tailName, hi]
    rw [if_pos hlt, if_pos h0, hw, h]
    generalize bt s i = c
    generalize tailName s d = t
    by_cases a1 : 97 ≤ c <;> by_cases a2 : c ≤ 122 <;> by_cases a3 : 65 ≤ c <;> by_cases a4 : c ≤ 90 <;> by_cases a5 : i = 0 <;> by_cases a6 : c < 48 <;> by_cases a7 : 57 < c <;> by_cases a8 : c = 95 <;> (try omega) <;> simp [sgn, a1, a2, a3, a4, a5, a6, a7, a8] <;> omega
theorem ref_100 (s : ByteArray) : provisoref01_IsName.f 100 s = some (isNameB s) := by
  unfold provisoref01_IsName.f isNameB
  by_cases a1 : (s.size : Int) < 1
  · rw [if_pos a1, decide_eq_false (by omega : ¬ 1 ≤ s.size)]
    simp [provisoref01_IsName.j0]
  · rw [if_neg a1, decide_eq_true (by omega : 1 ≤ s.size)]
    by_cases a3 : (s.size : Int) > 24
    · rw [decide_eq_true a3, decide_eq_false (by omega : ¬ s.size ≤ 24)]
      simp [provisoref01_IsName.j0]
    · rw [decide_eq_false a3, decide_eq_true (by omega : s.size ≤ 24)]
      have h1 := ref_tells s (by omega) s.size 99 0 (by omega) (by omega) (by omega) (by omega)
      simp only [provisoref01_IsName.j0]
      rw [if_neg (by simp), h1]
      simp
theorem name_K (s : ByteArray) (K : Nat) (h : 100 ≤ K) : wire_IsName.f K s = some (isNameB s) := at_rounds (wire_IsName.mono s) h (name_100 s)
theorem ref_K (s : ByteArray) (K : Nat) (h : 100 ≤ K) : provisoref01_IsName.f K s = some (isNameB s) := at_rounds (provisoref01_IsName.mono s) h (ref_100 s)
theorem seg_zero (bs : List Int) (a : Nat) : seg bs a 0 = [] := by
  unfold seg
  rw [Nat.add_zero]
  exact List.drop_of_length_le (by rw [List.length_take]; omega)
theorem seg_succ (bs : List Int) (a j : Nat) (h : a + j < bs.length) : seg bs a (j + 1) = seg bs a j ++ [rd bs ((a + j : Nat) : Int)] := by
  have hr : rd bs ((a + j : Nat) : Int) = bs[a + j] := by
    unfold rd
    rw [Int.toNat_natCast, List.getD_eq_getElem?_getD, List.getElem?_eq_getElem h]
    rfl
  unfold seg
  rw [hr, show a + (j + 1) = a + j + 1 by omega, List.take_succ_eq_append_getElem h, List.drop_append_of_le_length (by rw [List.length_take]; omega)]
theorem rd_in (bs : List Int) (h : ∀ x ∈ bs, 0 ≤ x ∧ x ≤ 255) (a : Nat) (ha : a < bs.length) : 0 ≤ rd bs (a : Int) ∧ rd bs (a : Int) ≤ 255 := by
  have hr : rd bs (a : Int) = bs[a] := by simp [rd, List.getD_eq_getElem?_getD, ha]
  rw [hr]
  exact h _ (List.getElem_mem ha)
theorem numOf_snoc (xs : List Int) (x : Int) : numOf (xs ++ [x]) = numOf xs * 256 + x := by
  unfold numOf
  rw [List.foldl_append]
  rfl
theorem num_loop (bs : List Int) (hby : ∀ x ∈ bs, 0 ≤ x ∧ x ≤ 255) (hl : bs.length ≤ 140737488351232) (a k : Nat) (hk4 : k ≤ 4) (ha : a + k ≤ bs.length) : ∀ (d j K : Nat), j + d = k → 0 ≤ numOf (seg bs a j) → numOf (seg bs a j) < 256 ^ j → provisoref01_Number.l0 (K + d + 1) bs (a : Int) (k : Int) (numOf (seg bs a j)) (j : Int) = some (valR k (seg bs a k), ((a + k : Nat) : Int), 0)
  | 0, j, K, hj, h0, h1 => by
    obtain rfl : j = k := by omega
    have w1 : wrap64 ((a : Int) + (j : Int)) = ((a + j : Nat) : Int) := by unfold wrap64; omega
    simp only [provisoref01_Number.l0]
    rw [if_neg (by omega), w1]
    unfold valR signOf
    by_cases c : j = 4
    · subst c
      rw [if_pos (by rfl), if_pos rfl]
      by_cases c2 : numOf (seg bs a 4) < 2147483648
      · rw [if_neg (by omega), if_pos c2]
      · have h2 : numOf (seg bs a 4) < 4294967296 := h1
        have w2 : wrap64 (numOf (seg bs a 4) - 4294967296) = numOf (seg bs a 4) - 4294967296 := by unfold wrap64; omega
        rw [if_pos (by omega), if_neg c2, w2]
    · rw [if_neg (by omega), if_neg c]
  | d + 1, j, K, hj, h0, h1 => by
    have hlt : a + j < bs.length := by omega
    have hr := rd_in bs hby (a + j) hlt
    have hp : (256 : Int) ^ j ≤ 16777216 := by
      have h3 : j = 0 ∨ j = 1 ∨ j = 2 ∨ j = 3 := by omega
      rcases h3 with rfl | rfl | rfl | rfl <;> decide
    have hs : numOf (seg bs a (j + 1)) = numOf (seg bs a j) * 256 + rd bs ((a + j : Nat) : Int) := by rw [seg_succ bs a j hlt, numOf_snoc]
    have h2 : 0 ≤ numOf (seg bs a (j + 1)) ∧ numOf (seg bs a (j + 1)) < 256 ^ (j + 1) := by rw [hs, Int.pow_succ]; omega
    have ih := num_loop bs hby hl a k hk4 ha d (j + 1) K (by omega) h2.1 h2.2
    have w1 : wrap64 ((a : Int) + (j : Int)) = ((a + j : Nat) : Int) := by unfold wrap64; omega
    have w2 : wrap64 ((j : Int) + 1) = ((j + 1 : Nat) : Int) := by unfold wrap64; omega
    generalize hq : numOf (seg bs a j) = q at h0 h1 hs ⊢
    generalize hz : rd bs ((a + j : Nat) : Int) = z at hr hs
    have w3 : wrap64 (q * 256) = q * 256 := by unfold wrap64; omega
    have w4 : wrap64 z = z := by unfold wrap64; omega
    have w5 : wrap64 (q * 256 + z) = q * 256 + z := by unfold wrap64; omega
    rw [show K + (d + 1) + 1 = (K + d + 1) + 1 by omega]
    unfold provisoref01_Number.l0
    rw [if_pos (by omega), w1, if_pos (by omega), if_pos (by omega), hz, w4, w3, w5, w2, ← hs]
    exact ih
theorem num_is (K k : Nat) (bs : List Int) (a : Nat) (hk : k = 1 ∨ k = 2 ∨ k = 4) (hK : 6 ≤ K) (hby : ∀ x ∈ bs, 0 ≤ x ∧ x ≤ 255) (hl : bs.length ≤ 140737488351232) (ha : a ≤ bs.length) : provisoref01_Number.f K bs (a : Int) (k : Int) = some ((numR k bs a).1, ((numR k bs a).2.1 : Int), (numR k bs a).2.2) := by
  have w1 : wrap64 ((bs.length : Int) - (a : Int)) = (bs.length : Int) - (a : Int) := by unfold wrap64; omega
  unfold provisoref01_Number.f numR
  rw [w1]
  by_cases c : bs.length < a + k
  · rw [if_pos (by omega), if_pos c]
  · rw [if_neg (by omega), if_neg c]
    obtain ⟨m, rfl⟩ : ∃ m, K = m + k + 1 := ⟨K - k - 1, by omega⟩
    have h := num_loop bs hby hl a k (by omega) (by omega) k 0 m (by omega)
    rw [seg_zero] at h
    exact h (by decide) (by decide)
theorem take_loop (bs : List Int) (hl : bs.length ≤ 140737488351232) (a n : Nat) (ha : a + n ≤ bs.length) : ∀ (d j K : Nat), j + d = n → provisoref01_Take.l0 (K + d + 1) bs (a : Int) (n : Int) (seg bs a j) (j : Int) = some (seg bs a n, ((a + n : Nat) : Int), 0)
  | 0, j, K, hj => by
    obtain rfl : j = n := by omega
    have w1 : wrap64 ((a : Int) + (j : Int)) = ((a + j : Nat) : Int) := by unfold wrap64; omega
    simp only [provisoref01_Take.l0]
    rw [if_neg (by omega), w1]
  | d + 1, j, K, hj => by
    have hlt : a + j < bs.length := by omega
    have hs := seg_succ bs a j hlt
    have ih := take_loop bs hl a n ha d (j + 1) K (by omega)
    have w1 : wrap64 ((a : Int) + (j : Int)) = ((a + j : Nat) : Int) := by unfold wrap64; omega
    have w2 : wrap64 ((j : Int) + 1) = ((j + 1 : Nat) : Int) := by unfold wrap64; omega
    have hsl : (seg bs a j).length = j := seg_len bs a j (by omega)
    rw [show K + (d + 1) + 1 = (K + d + 1) + 1 by omega]
    unfold provisoref01_Take.l0
    rw [if_pos (by omega), w1, if_pos (by omega), if_pos (by omega), hsl, if_pos (by omega), w2, ← hs]
    exact ih
theorem take_is (K : Nat) (bs : List Int) (a : Nat) (n : Int) (hK : 140737488355328 ≤ K) (hl : bs.length ≤ 140737488351232) (ha : a ≤ bs.length) : provisoref01_Take.f K bs (a : Int) n = some ((takeR bs a n).1, ((takeR bs a n).2.1 : Int), (takeR bs a n).2.2) := by
  have w1 : wrap64 ((bs.length : Int) - (a : Int)) = (bs.length : Int) - (a : Int) := by unfold wrap64; omega
  unfold provisoref01_Take.f takeR
  by_cases c : n < 0
  · rw [if_pos c, if_pos c]
  · rw [if_neg c, if_neg c, w1]
    by_cases c2 : n > (bs.length : Int) - (a : Int)
    · rw [if_pos (by omega), if_pos c2]
    · rw [if_neg (by omega), if_neg c2]
      obtain ⟨k, rfl⟩ : ∃ k : Nat, n = (k : Int) := ⟨n.toNat, by omega⟩
      rw [Int.toNat_natCast]
      obtain ⟨m, rfl⟩ : ∃ m, K = m + k + 1 := ⟨K - k - 1, by omega⟩
      have h := take_loop bs hl a k (by omega) k 0 m (by omega)
      rw [seg_zero] at h
      exact h
theorem rd_facts (K : Nat) (hK : 140737488355328 ≤ K) : RdFacts K isNameB := ⟨fun k bs a hk hby hl ha => num_is K k bs a hk (by omega) hby hl ha, fun bs a n _ hl ha => take_is K bs a n hK hl ha, fun s => name_K s K (by omega), fun s => ref_K s K (by omega), fun xs hl => equal_is xs (by omega) K (by omega)⟩

theorem isName_siz (x : ByteArray) (h : isNameB x = true) : 1 ≤ x.size ∧ x.size ≤ 24 := by
  unfold isNameB at h
  simp only [Bool.and_eq_true, decide_eq_true_eq] at h
  omega
theorem pos_le (x : ByteArray) (L : List S101) : posL x L ≤ L.length := by unfold posL; exact (List.takeWhile_sublist _).length_le
theorem place_step (x : ByteArray) (k : S101) (l : List S101) (h : lessB k.f0 x = true) : posL x (k :: l) = posL x l + 1 := by
  unfold posL
  rw [List.takeWhile_cons_of_pos (p := fun k : S101 => lessB k.f0 x) h]
  rfl
theorem place_stop (x : ByteArray) (k : S101) (l : List S101) (h : ¬ lessB k.f0 x = true) : posL x (k :: l) = 0 := by
  unfold posL
  rw [List.takeWhile_cons_of_neg (p := fun k : S101 => lessB k.f0 x) h]
  rfl
theorem place_loop (x : ByteArray) : ∀ (d : Nat) (pre L : List S101) (k : Nat), L.length = d → (pre ++ L).length ≤ 1000 → d < k → Srt L → provisoref21_place.l0 k (pre ++ L) x (pre.length : Int) = some (((pre.length + posL x L : Nat) : Int), (lkL L x).isSome) := by
  intro d
  induction d with
  | zero =>
    intro pre L k hd hl hk _
    obtain ⟨k, rfl⟩ : ∃ m, k = m + 1 := ⟨k - 1, by omega⟩
    have e : L = [] := List.length_eq_zero_iff.1 hd
    subst e
    simp only [provisoref21_place.l0]
    rw [if_neg (by simp)]
    simp [posL, lkL]
  | succ d ih =>
    intro pre L k hd hl hk hs
    obtain ⟨k, rfl⟩ : ∃ m, k = m + 1 := ⟨k - 1, by omega⟩
    cases L with
    | nil => cases hd
    | cons a l =>
      have hl' : l.length = d := by simpa using hd
      rw [List.length_append, List.length_cons] at hl
      have hrd : rd_T101 (pre ++ a :: l) (pre.length : Int) = a := by
        unfold rd_T101
        rw [Int.toNat_natCast, List.getD_eq_getElem?_getD, List.getElem?_append_right (Nat.le_refl _), Nat.sub_self]
        rfl
      simp only [provisoref21_place.l0]
      rw [if_pos (by simp; omega), if_pos (by omega), hrd]
      by_cases c : lessB a.f0 x = true
      · rw [if_pos (show Op.bytesLess a.f0.toList x.toList = true from c)]
        have hw : wrap64 ((pre.length : Int) + 1) = ((pre ++ [a]).length : Int) := by
          rw [List.length_append, List.length_singleton]
          unfold wrap64
          omega
        have h := ih (pre ++ [a]) l k hl' (by simp; omega) (by omega) (List.pairwise_cons.1 hs).2
        rw [List.append_assoc, List.singleton_append] at h
        rw [hw, h, place_step x a l c]
        have hne : a.f0 ≠ x := fun e => by rw [e, lessB_irr] at c; cases c
        conv => rhs; unfold lkL
        rw [if_neg hne]
        simp; omega
      · rw [if_neg (show ¬ Op.bytesLess a.f0.toList x.toList = true from c), place_stop x a l c]
        by_cases c2 : a.f0 = x
        · rw [c2]
          conv => rhs; unfold lkL
          rw [if_pos c2]
          simp
        · rw [srt_head hs c c2]
          have : (a.f0.toList == x.toList) = false := beq_eq_false_iff_ne.mpr (fun e => c2 (data_inj (by rw [← Lib.toList_data, ← Lib.toList_data]; exact e)))
          rw [this]
          rfl
theorem place_is (K : Nat) (hK : 2000 ≤ K) (L : List S101) (x : ByteArray) (hl : L.length ≤ 17) (hs : Srt L) : provisoref21_place.f K L x = some ((posL x L : Int), (lkL L x).isSome) := by
  have h := place_loop x L.length [] L K rfl (by simpa using by omega) (by omega) hs
  unfold provisoref21_place.f
  simpa using h
theorem put_take (x : ByteArray) (b : List Int) (L : List S101) : putL x b L = L.take (posL x L) ++ [⟨x, b⟩] ++ (match L.drop (posL x L) with | [] => [] | k :: l => if k.f0 = x then l else k :: l) := by
  induction L with
  | nil => rfl
  | cons k l ih =>
    unfold putL
    by_cases c : lessB k.f0 x = true
    · rw [if_pos c, place_step x k l c, ih]
      simp
    · rw [if_neg c, place_stop x k l c]
      simp only [List.take_zero, List.drop_zero, List.nil_append, List.singleton_append]
      split <;> rfl
theorem cut_take (x : ByteArray) (L : List S101) : cutL x L = L.take (posL x L) ++ (match L.drop (posL x L) with | [] => [] | k :: l => if k.f0 = x then l else k :: l) := by
  induction L with
  | nil => rfl
  | cons k l ih =>
    unfold cutL
    by_cases c : lessB k.f0 x = true
    · rw [if_pos c, place_step x k l c, ih]
      simp
    · rw [if_neg c, place_stop x k l c]
      simp only [List.take_zero, List.drop_zero, List.nil_append]
      try (split <;> rfl)
theorem drop_pos (x : ByteArray) (L : List S101) (hs : Srt L) : (match L.drop (posL x L) with | [] => [] | k :: l => if k.f0 = x then l else k :: l) = if (lkL L x).isSome = true then L.drop (posL x L + 1) else L.drop (posL x L) := by
  induction L with
  | nil => simp [posL, lkL]
  | cons k l ih =>
    by_cases c : lessB k.f0 x = true
    · rw [place_step x k l c]
      have hne : k.f0 ≠ x := fun e => by rw [e, lessB_irr] at c; cases c
      have h := ih (List.pairwise_cons.1 hs).2
      conv => rhs; unfold lkL
      rw [if_neg hne]
      simpa using h
    · rw [place_stop x k l c]
      by_cases c2 : k.f0 = x
      · conv => rhs; unfold lkL
        rw [if_pos c2]
        simp [c2]
      · rw [srt_head hs c c2]
        simp [c2]
theorem there_lt (x : ByteArray) (L : List S101) (h : (lkL L x).isSome = true) (hs : Srt L) : posL x L < L.length := by
  induction L with
  | nil => cases h
  | cons k l ih =>
    by_cases c : lessB k.f0 x = true
    · have hne : k.f0 ≠ x := fun e => by rw [e, lessB_irr] at c; cases c
      unfold lkL at h
      rw [if_neg hne] at h
      rw [place_step x k l c]
      have := ih h (List.pairwise_cons.1 hs).2
      simpa using this
    · rw [place_stop x k l c]
      simp
theorem with_is (K : Nat) (hK : 2000 ≤ K) (L : List S101) (x : ByteArray) (b : List Int) (hl : L.length ≤ 17) (hs : Srt L) : provisoref21_with.f K L x b = some (putL x b L) := by
  have hp := pos_le x L
  have hw : wrap64 ((posL x L : Int) + 1) = ((posL x L + 1 : Nat) : Int) := by unfold wrap64; omega
  unfold provisoref21_with.f
  rw [place_is K hK L x hl hs, put_take x b L, drop_pos x L hs]
  simp only [Option.bind_some, hw, Int.toNat_natCast]
  rw [if_pos (by omega), if_pos (by omega), if_pos (by simp; omega), if_pos (by simp; omega)]
  by_cases c : (lkL L x).isSome = true
  · have := there_lt x L c hs
    rw [if_pos c, if_pos c, if_pos (by omega), if_pos (by omega), if_pos (by simp; omega)]
    simp
  · rw [if_neg c, if_neg c, if_pos (by simp; omega)]
    simp
theorem without_is (K : Nat) (hK : 2000 ≤ K) (L : List S101) (x : ByteArray) (hl : L.length ≤ 17) (hs : Srt L) : provisoref21_without.f K L x = some (cutL x L) := by
  have hp := pos_le x L
  have hw : wrap64 ((posL x L : Int) + 1) = ((posL x L + 1 : Nat) : Int) := by unfold wrap64; omega
  unfold provisoref21_without.f
  rw [place_is K hK L x hl hs, cut_take x L, drop_pos x L hs]
  simp only [Option.bind_some, hw, Int.toNat_natCast]
  rw [if_pos (by omega), if_pos (by omega), if_pos (by simp; omega)]
  by_cases c : (lkL L x).isSome = true
  · have := there_lt x L c hs
    rw [if_pos c, if_pos c, if_pos (by omega), if_pos (by omega), if_pos (by simp; omega)]
    simp
  · rw [if_neg c, if_neg c, if_pos (by simp; omega)]
    simp
theorem eqs_loop (xs : List ByteArray) (hl : xs.length ≤ 1000) : ∀ (d i k : Nat), xs.length - i = d → i ≤ xs.length → d < k → slices_Equal_string_string.l0 k xs xs (xs.length : Int) (i : Int) = some true := by
  intro d
  induction d with
  | zero =>
    intro i k hd hi hk
    obtain ⟨k, rfl⟩ : ∃ m, k = m + 1 := ⟨k - 1, by omega⟩
    simp only [slices_Equal_string_string.l0]
    rw [if_neg (by omega)]
  | succ d ih =>
    intro i k hd hi hk
    obtain ⟨k, rfl⟩ : ∃ m, k = m + 1 := ⟨k - 1, by omega⟩
    have hw : wrap64 ((i : Int) + 1) = ((i + 1 : Nat) : Int) := by unfold wrap64; omega
    simp only [slices_Equal_string_string.l0]
    rw [if_pos (by omega), if_pos (by omega), if_pos (by omega), if_pos (by omega), hw]
    simpa using ih (i + 1) k (by omega) (by omega) (by omega)
theorem eqs_is (K : Nat) (hK : 2000 ≤ K) (xs : List ByteArray) (hl : xs.length ≤ 17) : slices_Equal_string_string.f K xs xs = some true := by
  unfold slices_Equal_string_string.f
  rw [if_pos rfl]
  exact eqs_loop xs (by omega) xs.length 0 K (by omega) (by omega) (by omega)
theorem wr_loop (xs : List S52) (hl : xs.length ≤ 2) (hx : ∀ x ∈ xs, x.f1.length ≤ 2097152) : ∀ (d i k : Nat), xs.length - i = d → i ≤ xs.length → d + 2097160 < k → provisoplain_SameWrites.l0 k xs xs (xs.length : Int) (i : Int) = some true := by
  intro d
  induction d with
  | zero =>
    intro i k hd hi hk
    obtain ⟨k, rfl⟩ : ∃ m, k = m + 1 := ⟨k - 1, by omega⟩
    simp only [provisoplain_SameWrites.l0]
    rw [if_neg (by omega)]
  | succ d ih =>
    intro i k hd hi hk
    obtain ⟨k, rfl⟩ : ∃ m, k = m + 1 := ⟨k - 1, by omega⟩
    have hw : wrap64 ((i : Int) + 1) = ((i + 1 : Nat) : Int) := by unfold wrap64; omega
    have hm : (rd_T52 xs (i : Int)).f1.length ≤ 2097152 := by
      unfold rd_T52
      rw [Int.toNat_natCast, List.getD_eq_getElem?_getD, List.getElem?_eq_getElem (by omega)]
      exact hx _ (List.getElem_mem _)
    simp only [provisoplain_SameWrites.l0]
    rw [if_pos (by omega), if_pos (by omega), if_pos (by omega), if_pos (by omega), equal_is _ (by omega) k (by omega), hw]
    simpa using ih (i + 1) k (by omega) (by omega) (by omega)
theorem wr_is (K : Nat) (hK : 2097200 ≤ K) (xs : List S52) (hl : xs.length ≤ 2) (hx : ∀ x ∈ xs, x.f1.length ≤ 2097152) : provisoplain_SameWrites.f K xs xs = some true := by
  unfold provisoplain_SameWrites.f
  rw [if_pos rfl]
  exact wr_loop xs hl hx xs.length 0 K (by omega) (by omega) (by omega)
theorem st_facts : StFacts 140737488355328 isNameB := ⟨rd_facts _ (Nat.le_refl _), isName_siz, fun L x h1 h2 => place_is _ (by omega) L x h1 h2, fun L x b h1 h2 => with_is _ (by omega) L x b h1 h2, fun L x h1 h2 => without_is _ (by omega) L x h1 h2, fun xs h => eqs_is _ (by omega) xs h, fun ws h1 h2 => wr_is _ (by omega) ws h1 h2⟩
theorem l_facts : LFacts 140737488355328 isNameB := ⟨st_facts, fun l hl => untouched_is l (by omega) _ (by omega)⟩
theorem script_ok {l : List S37} (h : ∀ x ∈ l, Ok37 x) (i : Nat) (hi : i < l.length) : l[i].f1.size ≤ maxLen ∧ l[i].f2.length ≤ 140737488351232 ∧ ∀ z ∈ l[i].f2, 0 ≤ z ∧ z ≤ 255 := by
  have h1 := h _ (List.getElem_mem hi)
  unfold Ok37 at h1
  obtain ⟨_, h2, h3, h4, h5⟩ := h1
  refine ⟨by unfold maxLen; omega, by omega, fun z hz => ?_⟩
  have h6 := h5 z hz
  simp [Lit.wf, IntKind.min, IntKind.max, IntKind.signed, IntKind.bits] at h6
  omega
end Go.Proofs.Ytfakdphkklclgaa.Pure

end

section
namespace Go.Proofs.Ytfakdphkklclgaa.Pure
open Go.RowKit Go.Proofs.Ytfakdphkklclgaa.P Go.Proofs.YtfakdphkklclgaaW.PrintWords Go.Proofs.YtfakdphkklclgaaW.PrintLast Go.Proofs.YtfakdphkklclgaaW.PrintMore
set_option linter.unusedSimpArgs false
set_option linter.unusedVariables false
theorem StoreOwn : provisolaw21_StoreOwn.Pure := by
  intro l0 h0
  exact ⟨⟨140737488355328, isNameB, l_facts⟩, by have := h0.2.1; omega, fun i hi => script_ok h0.2.2 i hi⟩
end Go.Proofs.Ytfakdphkklclgaa.Pure

end

section
namespace Go.Proofs.Ytfakdphkklclgaa.storeOwn
open Go.ChangeShapes Go.WideShapes Go.ChangeAt Go.RowKit Go.Proofs.YtfakdphkklclgaaW.PrintWords Go.Proofs.Ytfakdphkklclgaa.Sees Go.Proofs.Ytfakdphkklclgaa.P
open Go.ChangeMaps (open_string shut_string)
set_option linter.unusedVariables false
set_option linter.unusedSimpArgs false
theorem own : ownKnob Try.prog.godebug = none := by kernel_rfl
theorem laidOut : laidOutB Try.prog = true := by kernel_rfl
set_option maxRecDepth 100000 in
theorem lifted (os : Os) (started : os.Started) (H : Type) (enc : TypeId × Value → H) :
    ReturnsInHanded {} Try.checked os 4 .any (Rows.storeOwnSpec.pre6 enc Try.prog Try.f4 Rows.storeOwnRow.domain false) (Rows.storeOwnSpec.post enc Try.prog Try.f4 false true false false) := by
  refine returnsInHanded_of_change_sized (C := Try.checked) own started (by kernel_rfl) Try.func4
    (ChangeSpec.witness6 (enc := enc) (C := Try.checked) false ⟨#[], #[.slice none 0 0], []⟩ 8 (by kernel_rfl) (by kernel_rfl) (by kernel_rfl) (by kernel_rfl)) ?_
  intro W base args ds gs before hval0 hW hcnd hsz0 _
  have hsz : (DataW.weightsEach Try.prog (Try.f4.params.toList ++ Rows.storeOwnSpec.plain.varTypes Try.prog) (ds ++ gs)).all (· ≤ reachBytes) = true := hsz0
  have hval : ∀ (j : Nat) t v, Try.f4.params[j]? = some t → args[j]? = some v → Value.okWide Try.prog W .any base t v := hval0
  have hW' := hW
  obtain ⟨p, q, hA0, hV, rfl, hfz, hnd⟩ := hW
  have hA : DataW.TrodAll enc Try.prog W 0 (fun _ => true) true Try.f4.params.toList args.toList ds p := hA0
  rw [Try.params4] at hA hval hsz
  obtain ⟨v0, vs0, d0, ds0, p0, q0, hargs, rfl, rfl, h0, r0⟩ := trodAll_cons hA
  obtain ⟨rfl, rfl, rfl⟩ := trodAll_nil r0
  obtain rfl : args = #[v0] := by cases args; simp_all
  obtain ⟨rfl, rfl⟩ := trodVars_none hV
  have k0 := h0
  have lt0 : ∀ x ∈ p0, x.block < W.heap.size := by obtain ⟨m, hm⟩ := k0; exact DataW.trod_lt m _ _ _ hm
  obtain ⟨y0, hy0, oy0⟩ := see_arg (j := 0) (t := 22) (sees_slice (B := 48) Try.underlying22 (by kernel_rfl) (by kernel_rfl) sees37) hsz rfl rfl h0
  obtain ⟨a0, len0, cap0, rfl⟩ := okWide_slice Try.underlying22 (hval 0 22 v0 rfl rfl)
  obtain ⟨rfl, hc0, hr0⟩ := see_slice rfl hy0
  clear hA0 hval0 hsz0 hsz
  have hk := Pure.StoreOwn y0 oy0
  refine (provisolaw21_StoreOwn.calls _ _ y0 W hr0 hc0 hk).mono ?_
  rintro e W' ⟨rfl, bel0⟩
  have bel : Below W.heap.size W W' := bel0
  exact ⟨_, rfl, _, _, _, [], _, [], hW', trodAll_mk1 (shut_bool Try.underlying4 _), (trodAll_cons_mk (Below.trod laidOut (by kernel_rfl) (of_decide_eq_true (by kernel_rfl)) k0 bel lt0) trodAll_mk0), rfl, bel.frame _, fun h => by cases h⟩
theorem over : Rows.storeOwnRow.holds Try.pinned (OpenSpec.ofChange Rows.storeOwnSpec) :=
  OpenClaim.holds_of_wide 4 Try.f4 rfl rfl rfl rfl rfl rfl rfl ⟨rfl, rfl, rfl, rfl, rfl⟩ rfl rfl rfl rfl rfl (by kernel_rfl) Try.func4 (by kernel_rfl)
    (of_decide_eq_true (by kernel_rfl)) (by unfold Func.isWrapper; first | (rw [if_pos (by decide +kernel)]; kernel_rfl) | (rw [if_neg (by decide +kernel)]; exact ⟨rfl, rfl⟩))
    (fun os started H enc _ => lifted os started H enc)
theorem proved : Rows.StoreOwnSaid := over
end Go.Proofs.Ytfakdphkklclgaa.storeOwn
namespace Go.Proofs.Ytfakdphkklclgaa
theorem storeOwn_holds : Rows.StoreOwnSaid := storeOwn.proved
end Go.Proofs.Ytfakdphkklclgaa

end

