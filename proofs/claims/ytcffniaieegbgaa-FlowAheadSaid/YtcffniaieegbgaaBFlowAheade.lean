/- Proved: the law FlowAhead holds for every input that the row lets in. No condition of ours. -/
import Derived.Test.YtcffniaieegbgaaBFlowAheadd
section
namespace Go.Proofs.Ytcffniaieegbgaa.P
open Go.RowKit Go.Proofs.YtcffniaieegbgaaW.PrintWords Go.Proofs.YtcffniaieegbgaaW.PrintLast Go.Proofs.YtcffniaieegbgaaW.PrintMore
attribute [local go_sem] max2_int min2_int max_two min_two max_three min_three max_four min_four   -- for this text's walks alone
set_option linter.unusedVariables false
set_option linter.unusedSimpArgs false

set_option maxHeartbeats 3200000 in
set_option maxRecDepth 100000 in
theorem flow_Order.calls (k : Nat) (A0 : Option Addr) (c0 : Nat) (l0 : List S35) (r : List Int) (w : World) (hr0 : Kd.C k35 w A0 l0.length l0) (hc0 : l0.length ≤ c0) (h : flow_Order.f k l0 = some r) :
    Calls Try.prog 14 #[.slice A0 l0.length c0] w fun e w' => ∃ v0_ : Value, e = .returned (v0_) ∧ Kd.R (Kd.int .i64) 3 w' w.heap.size (fun _ => True) v0_ r ∧ Below w.heap.size w w' := by
  have hcf := callFunc_ord Try.func45 (by kernel_rfl) (by kernel_rfl)
  have hmf : ∀ (fn : Fn) (first cap : Array Value) (w : World), (Instr.makeFunc fn first cap).run Try.prog w = .ok (.func fn first cap) w := fun _ _ _ _ => rfl
  unfold flow_Order.f at h
  by_cases hc : l0.length < 4398046511104 ∧ bsOk l0 = true
  case neg => rw [if_neg hc] at h; cases h
  rw [if_pos hc] at h
  obtain ⟨hlen, hok⟩ := hc
  cases hs : startL k l0 with
  | none => rw [hs] at h; cases h
  | some s =>
  rw [hs, Option.bind_some] at h
  cases hv : slices_Reverse_int_int.f k s.2 with
  | none => rw [hv] at h; cases h
  | some rv =>
  rw [hv, Option.bind_some] at h
  by_cases hrl : rv.length ≤ 4398046511104
  case neg => rw [if_neg hrl] at h; cases h
  rw [if_pos hrl] at h
  have HS := Aside0.mk hs
  have HV := Aside0.mk hv
  have HRL := Aside0.mk hrl
  have HRES := Aside0.mk (Option.some.inj h).symm
  have HR := Aside0.mk hr0
  have HOK := Aside0.mk hok
  have HLEN := Aside0.mk hlen
  have HM := Aside0.mk (Rws.nil w)
  clear h hs hv hr0 hc0 hok hrl hlen
  go_enter Try.func14, Try.ntmps14
  go_wp2_with (first | ((with_reducible refine gate_dst (N := 1) rfl ?_); refine rw_box1 rfl 29 rfl (v := .slice A0 l0.length c0) rfl rfl HM.out ?_; intro bl w_ hM; replace HM := Aside0.mk hM; clear hM) | ((with_reducible refine gate_dst (N := 12) rfl ?_); refine mp_make rfl rfl HM.out ?_; intro B w_ hM; replace HM := Aside0.mk hM; clear hM) | ((with_reducible refine gate_dst (N := 3) rfl ?_); refine mp_alloc1 rfl 68 rfl (z := .map none) (by kernel_rfl) rfl HM.out ?_; intro bm w_ hM hb9; clear hb9; replace HM := Aside0.mk hM; clear hM) | ((with_reducible refine gate_store (t := 68) (p := 3) rfl ?_); refine mp_cell rfl 68 rfl rfl (u := .map (some B)) rfl rfl HM.out (by kernel_rfl) ?_; intro w_ hM hk9; clear hk9; have f_l := blk_cell (hM.rows.mem (g := bl) (t := 29) (cs := #[.slice A0 l0.length c0]) (by simp)) 0; simp only [List.getElem?_toArray, List.getElem?_cons_zero] at f_l; replace HM := Aside0.mk hM; clear hM))
  clear f_l
  go_loopw [15] (fun v15 wr => ∃ (i : Nat), v15 = .int .i64 (i : Int) ∧ i ≤ l0.length ∧ Aside0 (Mp w B i (firstB (l0.take i) 0) [(bm, 68, #[.map (some B)]), (bl, 29, #[.slice A0 l0.length c0])] wr)) (fun v15 _ => ((l0.length : Int) - intOf v15).toNat)
  case atStart => exact ⟨0, rfl, Nat.zero_le _, HM⟩
  case round =>
    rename_i wr
    clear HM
    obtain ⟨i, rfl, hi, HM⟩ := hrel
    have hl64 : l0.length ≤ 9223372036854775807 := by have := HLEN.out; omega
    by_cases c1 : i < l0.length
    · obtain ⟨x, hx⟩ : ∃ x, x = rd_T35 l0 (i : Int) := ⟨_, rfl⟩
      obtain ⟨ad, A2, c2, e1, h0, h1, h2, _, hn⟩ := at_T35 (Kd.C_below HR.out HM.out.below) (i : Int) (by omega) (by omega)
      cases e1
      rw [← hx, Int.toNat_natCast] at h0 h1 h2
      have HX := Aside0.mk hx
      have HI := Aside0.mk c1
      have HW := Aside0.mk (wrap_ord c1 hl64)
      have c1b : decide ((i : Int) < (l0.length : Int)) = true := decide_eq_true (by omega)
      have c1c : decide (i < l0.length) = true := decide_eq_true c1
      have p5 : (0 ≤ (i : Int)) = True := eq_true (by omega)
      have p6 : ((i : Int) < (l0.length : Int)) = True := eq_true (by omega)
      have HK := Aside0.mk (show I64 x.f0 by rw [hx]; exact (bsOk_at HOK.out c1).1)
      have hs : l0.take (i + 1) = l0.take i ++ [x] := by rw [take_snoc c1 z35, hx]; unfold rd_T35; rw [Int.toNat_natCast]
      have HS := Aside0.mk hs
      have HLT := Aside0.mk (show (l0.take i).length = i by rw [List.length_take]; omega)
      clear hx hs hl64 c1 hn
      cases hg : firstB (l0.take i) 0 x.f0 with
      | none =>
        have HG := Aside0.mk hg
        have HGS := Aside0.mk (show (firstB (l0.take i) 0 x.f0).isSome = false by rw [hg]; rfl)
        clear hg
        go_wp2_with (first | ((with_reducible refine gate_dst (N := 5) rfl ?_); refine mp_alloc rfl 35 rfl (cs := #[.int .i64 0, .int .i64 0, .slice none 0 0]) (by kernel_rfl) HM.out ?_; intro b w_ hM; replace HM := Aside0.mk hM; clear hM) | (refine mp_store rfl 35 rfl rfl (cs' := #[.int .i64 x.f0, .int .i64 x.f1, .slice A2 x.f2.length c2]) rfl HM.out (by kernel_rfl) rfl (by show _ = _; kernel_rfl) ?_; intro w_ hM; clear h0 h1 h2; have f0 := blk_cell (hM.rows.mem List.mem_cons_self) 0; have f_m := blk_cell (hM.rows.mem (g := bm) (t := 68) (cs := #[.map (some B)]) (by simp)) 0; simp only [List.getElem?_toArray, List.getElem?_cons_zero] at f0 f_m; replace HM := Aside0.mk hM; clear hM) | ((with_reducible refine gate_dst (N := 24) rfl ?_); refine im_look_ok rfl rfl rfl HM.out.own rfl HK.out ?_; rw [HGS.out]) | (refine mp_map rfl rfl rfl HM.out (by have := HI.out; have := HLEN.out; simp only [maxLen]; omega) rfl rfl HK.out (by have := HI.out; have := HLEN.out; constructor <;> omega) ?_; intro w_ hM; replace HM := Aside0.mk hM; clear hM))
        go_roundw
        case rel => exact ⟨i + 1, by have e9 := HW.out; first | (rw [e9]; done) | (simp; done), HI.out, ⟨by rw [HS.out, firstB_step_none HG.out, HLT.out]; exact HM.out.drop1⟩⟩
        case measure => exact meas_ord HI.out HW.out
      | some v =>
        have HGS := Aside0.mk (show (firstB (l0.take i) 0 x.f0).isSome = true by rw [hg]; rfl)
        clear hg
        go_wp2_with (first | ((with_reducible refine gate_dst (N := 5) rfl ?_); refine mp_alloc rfl 35 rfl (cs := #[.int .i64 0, .int .i64 0, .slice none 0 0]) (by kernel_rfl) HM.out ?_; intro b w_ hM; replace HM := Aside0.mk hM; clear hM) | (refine mp_store rfl 35 rfl rfl (cs' := #[.int .i64 x.f0, .int .i64 x.f1, .slice A2 x.f2.length c2]) rfl HM.out (by kernel_rfl) rfl (by show _ = _; kernel_rfl) ?_; intro w_ hM; clear h0 h1 h2; have f0 := blk_cell (hM.rows.mem List.mem_cons_self) 0; have f_m := blk_cell (hM.rows.mem (g := bm) (t := 68) (cs := #[.map (some B)]) (by simp)) 0; simp only [List.getElem?_toArray, List.getElem?_cons_zero] at f0 f_m; replace HM := Aside0.mk hM; clear hM) | ((with_reducible refine gate_dst (N := 24) rfl ?_); refine im_look_ok rfl rfl rfl HM.out.own rfl HK.out ?_; rw [HGS.out]) | (refine mp_map rfl rfl rfl HM.out (by have := HI.out; have := HLEN.out; simp only [maxLen]; omega) rfl rfl HK.out (by have := HI.out; have := HLEN.out; constructor <;> omega) ?_; intro w_ hM; replace HM := Aside0.mk hM; clear hM))
        clear f0
        go_roundw
        case rel => exact ⟨i + 1, by have e9 := HW.out; first | (rw [e9]; done) | (simp; done), HI.out, ⟨by rw [HS.out, firstB_step_some HGS.out]; exact HM.out.drop1.more⟩⟩
        case measure => exact meas_ord HI.out HW.out
    · have c1b : decide ((i : Int) < (l0.length : Int)) = false := decide_eq_false (by omega)
      have c1c : decide (i < l0.length) = false := decide_eq_false c1
      replace HM : Aside0 (Mp w B l0.length (firstB l0 0) [(bm, 68, #[.map (some B)]), (bl, 29, #[.slice A0 l0.length c0])] wr) := ⟨by have := HM.out; rw [show i = l0.length by omega, List.take_length] at this; exact this⟩
      have f_l := blk_cell (HM.out.rows.mem (g := bl) (t := 29) (cs := #[.slice A0 l0.length c0]) (by simp)) 0
      simp only [List.getElem?_toArray, List.getElem?_cons_zero] at f_l
      clear c1 hi hl64
      have g1 : 0 ≤ (l0.length : Int) := by omega
      have g2 : (l0.length : Int).toNat * 8 ≤ 281474976710656 := by have := HLEN.out; omega
      have G1 := Aside0.mk g1
      have G2 := Aside0.mk g2
      clear g1 g2
      by_cases hz : 0 < l0.length
      · have z1 : decide ((l0.length : Int) > 0) = true := decide_eq_true (by omega)
        have z2 : decide ((0 : Int) < (l0.length : Int)) = true := decide_eq_true (by omega)
        have z3 : decide (0 < l0.length) = true := decide_eq_true hz
        have HZ := Aside0.mk hz
        clear hz
        go_wp2_with (first | ((with_reducible refine gate_dst (N := 36) rfl ?_); refine Kd.R_make (Kd.int .i64) _ 3 rfl (N := 36) rfl 27 _ _ rfl (l0.length : Int) rfl rfl Try.underlying27 (.int .i64 0) 8 (by kernel_rfl) rfl (by decide) (by omega) 0 (ok := fun _ => True) (okp := fun _ => True) rfl (fun _ hk => hk) trivial G1.out G2.out (Below.refl _ _) (Nat.le_refl _) ?_; intro v36 w7 ho8 hb hg_ hnew_; rw [Int.toNat_natCast] at ho8; obtain ⟨gA, hgA, _⟩ := hnew_; obtain ⟨cg, e36⟩ := int_form ho8 hgA; rw [List.length_replicate] at e36; subst e36; have HG : Aside0 (Kd.R (Kd.int .i64) 3 w7 w.heap.size (fun k => k = gA) (.slice (some ⟨gA, 0, none⟩) l0.length cg) (List.replicate l0.length 0)) := ⟨Kd.R_mono (int_narrow (Kd.R_lower ho8 HM.out.below.size)) (fun k hk => by simpa [Value.ownBlock] using hk.symm)⟩; replace HM := Aside0.mk (HM.out.step hb); clear ho8 hb hg_ hgA f_l) | ((with_reducible refine gate_dst (N := 8) rfl ?_); refine mp_alloc1 rfl 27 rfl (z := .slice none 0 0) (by kernel_rfl) rfl HM.out ?_; intro bg w_ hM hb9; replace HG := Aside0.mk (Kd.R_below HG.out hb9); clear hb9; replace HM := Aside0.mk hM; clear hM) | ((with_reducible refine gate_store (t := 27) (p := 8) rfl ?_); refine mp_cell rfl 27 rfl rfl (u := .slice (some ⟨gA, 0, none⟩) l0.length cg) rfl rfl HM.out (by kernel_rfl) ?_; intro w_ hM hk9; replace HG := Aside0.mk (Kd.R_mono (Kd.R_step (Kd.R_types HG.out (HM.out.rows.mem List.mem_cons_self) (by intro q hq; simp [Kd.int, Kd.scalar] at hq; rw [hq]; show (_ : Nat) ≠ _; decide)) (fun j hj hlt => hk9.2 j hlt hj.2)) (fun _ h => h.1) : Kd.R (Kd.int .i64) 3 w_ w.heap.size (fun k => k = gA) (.slice (some ⟨gA, 0, none⟩) l0.length cg) (List.replicate l0.length 0)); clear hk9; replace HM := Aside0.mk hM; clear hM) | ((with_reducible refine gate_dst (N := 9) rfl ?_); refine mp_alloc1 rfl 27 rfl (z := .slice none 0 0) (by kernel_rfl) rfl HM.out ?_; intro bf w_ hM hb9; replace HG := Aside0.mk (Kd.R_below HG.out hb9); clear hb9; replace HM := Aside0.mk hM; clear hM) | ((with_reducible refine gate_dst (N := 10) rfl ?_); refine mp_alloc1 rfl 70 rfl (z := .nilFunc) (by kernel_rfl) rfl HM.out ?_; intro bi w_ hM hb9; replace HG := Aside0.mk (Kd.R_below HG.out hb9); clear hb9; replace HM := Aside0.mk hM; clear hM) | ((with_reducible refine gate_store (t := 70) (p := 10) rfl ?_); refine mp_cell rfl 70 rfl rfl (u := .func (.func 45) #[] #[.pointer (some ⟨bg, 0, none⟩), .pointer (some ⟨bl, 0, none⟩), .pointer (some ⟨bm, 0, none⟩), .pointer (some ⟨bi, 0, none⟩), .pointer (some ⟨bf, 0, none⟩)]) rfl rfl HM.out (by kernel_rfl) ?_; intro w_ hM hk9; replace HG := Aside0.mk (Kd.R_mono (Kd.R_step (Kd.R_types HG.out (HM.out.rows.mem List.mem_cons_self) (by intro q hq; simp [Kd.int, Kd.scalar] at hq; rw [hq]; show (_ : Nat) ≠ _; decide)) (fun j hj hlt => hk9.2 j hlt hj.2)) (fun _ h => h.1) : Kd.R (Kd.int .i64) 3 w_ w.heap.size (fun k => k = gA) (.slice (some ⟨gA, 0, none⟩) l0.length cg) (List.replicate l0.length 0)); clear hk9; have f_l := blk_cell (hM.rows.mem (g := bl) (t := 29) (cs := #[.slice A0 l0.length c0]) (by simp)) 0; have f_i := blk_cell (hM.rows.mem List.mem_cons_self) 0; have f_e := blk_cell (hM.rows.mem (g := bf) (t := 27) (cs := #[.slice none 0 0]) (by simp)) 0; simp only [List.getElem?_toArray, List.getElem?_cons_zero] at f_l f_i f_e; replace HM := Aside0.mk hM; clear hM))
        have HO : Aside0 (OrdS w A0 c0 l0 bl bm bg bi bf B gA cg _ (List.replicate l0.length 0) [] (.slice none 0 0) (.slice none 0 0) _) := ⟨⟨⟨HM.out.own, HM.out.rows.swap, HM.out.base⟩, HG.out, Kd.R_nil _ _ _ _ _, HR.out⟩⟩
        have hs := HS.out
        unfold startL at hs
        rw [if_neg (by have := HZ.out; omega)] at hs
        have hcall := into_calls w A0 c0 l0 bl bm bg bi bf B gA cg HOK.out HLEN.out k 0 (List.replicate l0.length 0) [] s.1 s.2 _ _ HZ.out HO.out hs
        refine hcall.mono ?_
        rintro e w7 ⟨rfl, v7, ho7⟩
        have HO := Aside0.mk ho7
        clear hs hcall ho7 HM HG z1 z2 z3 f_i f_e f_l
        obtain ⟨A7, c7, e7⟩ := Kd.R_slice HO.out.left
        subst e7
        have f_f := HO.out.at_f
        go_wp2_with fail
        clear f_f
        refine (slices_Reverse_int_int.calls k (fun k9 => (.slice A7 s.2.length c7 : Value).ownBlock = some k9) (.slice A7 s.2.length c7) s.2 rv w _ HO.out.below (int_narrow HO.out.left) HV.out).mono ?_
        rintro e w8 ⟨rfl, hr8, hb8, hk8⟩
        have HO2 := Aside0.mk (HO.out.turned hr8 hb8 hk8)
        clear hr8 hb8 hk8 HO
        have f_l := HO2.out.at_l
        go_wp2_with fail
        clear f_l
        go_loopw [47] (fun v47 wr => ∃ (i : Nat) (vj : Value), v47 = .int .i64 (i : Int) ∧ i ≤ l0.length ∧ Aside0 (OrdS w A0 c0 l0 bl bm bg bi bf B gA cg (.func (.func 45) #[] #[.pointer (some ⟨bg, 0, none⟩), .pointer (some ⟨bl, 0, none⟩), .pointer (some ⟨bm, 0, none⟩), .pointer (some ⟨bi, 0, none⟩), .pointer (some ⟨bf, 0, none⟩)]) s.1 (rv ++ restL s.1 i) vj vj wr)) (fun v47 _ => ((l0.length : Int) - intOf v47).toNat)
        case atStart => exact ⟨0, _, rfl, Nat.zero_le _, ⟨by rw [restL, List.append_nil]; exact HO2.out⟩⟩
        case round =>
          rename_i wr
          clear HO2
          obtain ⟨i, vj, rfl, hi, HO⟩ := hrel
          obtain ⟨A8, c8, e8⟩ := Kd.R_slice HO.out.left
          subst e8
          have hl64 : l0.length ≤ 9223372036854775807 := by have := HLEN.out; omega
          by_cases c1 : i < l0.length
          · have HI := Aside0.mk c1
            have HW := Aside0.mk (wrap_ord c1 hl64)
            have c1b : decide ((i : Int) < (l0.length : Int)) = true := decide_eq_true (by omega)
            have c1c : decide (i < l0.length) = true := decide_eq_true c1
            have p5 : (0 ≤ (i : Int)) = True := eq_true (by omega)
            have p6 : ((i : Int) < (l0.length : Int)) = True := eq_true (by omega)
            have f_g := HO.out.at_g
            have f_n := HO.out.at_n c1
            obtain ⟨z, hz⟩ : ∃ z, z = s.1.getD i 0 := ⟨_, rfl⟩
            rw [← hz] at f_n
            have HLT := Aside0.mk (show (rv ++ restL s.1 i).length < 17592186044416 by have := restL_len s.1 i; have := HRL.out; have := HLEN.out; rw [List.length_append]; omega)
            by_cases h0 : z = 0
            · have hst : rv ++ restL s.1 (i + 1) = (rv ++ restL s.1 i) ++ [(i : Int)] := by rw [restL, if_pos (by rw [← hz]; exact h0), List.append_assoc]
              have HST := Aside0.mk hst
              have c2b : (z == 0) = true := by rw [h0]; rfl
              have f_ := HO.out.at_f
              obtain ⟨lf9, hlf⟩ : ∃ lf9, lf9 = rv ++ restL s.1 i := ⟨_, rfl⟩
              rw [← hlf] at HO HLT HST f_
              have HLF := Aside0.mk hlf
              clear h0 hz hst hlf hl64 c1
              go_wp2_with (first | ((with_reducible refine gate_dst (N := 57) rfl ?_); refine Kd.R_lit (Kd.int .i64) _ 3 ?hg (N := 57) ?hd (xs := ([(i : Int)] : List Int)) (inner := [.int .i64 (i : Int)]) (ok := fun _ => True) (okp := fun _ => True) ?hr ?hp (fun _ hk => hk) trivial HO.out.below HO.out.below.size (by simp) ?_; (case hd => rfl); (case hg => rfl); (case hr => first | (go_simp; done) | (go_simp; rfl)); (case hp => exact (Reps.one (show Kd.M (Kd.int .i64) _ _ _ (i : Int) [.int .i64 (i : Int)] from rfl) (Reps.none _ _))); intro v57 w3 ho1 hb1 hg1 _; have hbn := below_noneO hg1; obtain ⟨A3, c3', e3'⟩ := Kd.R_slice ho1; subst e3'; have HL1 := Aside0.mk (Kd.R_reads' ho1).2.2; replace HO := Aside0.mk (HO.out.step hbn); clear ho1 hb1 hg1 hbn f_ ) | (at_builtin; refine ord_app rfl rfl (i : Int) HO.out rfl rfl HL1.out HLT.out ?_; intro v5 w4 ho; replace HO := Aside0.mk ho; clear ho; obtain ⟨A5, c5, e5⟩ := Kd.R_slice HO.out.left; subst e5) | ((with_reducible refine gate_store (t := 27) (p := 9) rfl ?_); refine ord_put rfl rfl HO.out rfl rfl ?_; intro w6 ho; replace HO := Aside0.mk ho; clear ho))
              go_roundw
              case rel => exact ⟨i + 1, _, by have e9 := HW.out; first | (rw [e9]; done) | (simp; done), HI.out, ⟨by rw [HST.out]; exact HO.out⟩⟩
              case measure => exact meas_ord HI.out HW.out
            · have HST := Aside0.mk (show rv ++ restL s.1 (i + 1) = rv ++ restL s.1 i by rw [restL, if_neg (by rw [← hz]; exact h0)])
              have c2b : (z == 0) = false := by rw [beq_eq_false_iff_ne]; exact h0
              clear h0 hz hl64 c1
              go_wp2_with fail
              go_roundw
              case rel => exact ⟨i + 1, _, by have e9 := HW.out; first | (rw [e9]; done) | (simp; done), HI.out, ⟨by rw [HST.out]; exact HO.out⟩⟩
              case measure => exact meas_ord HI.out HW.out
          · have c1b : decide ((i : Int) < (l0.length : Int)) = false := decide_eq_false (by omega)
            have c1c : decide (i < l0.length) = false := decide_eq_false c1
            have HE := Aside0.mk (show i = l0.length by omega)
            have hr9 := HRES.out
            obtain ⟨lf9, hlf⟩ : ∃ lf9, lf9 = rv ++ restL s.1 i := ⟨_, rfl⟩
            rw [← hlf] at HO
            rw [← HE.out, ← hlf] at hr9
            have HR9 := Aside0.mk hr9
            have f_ := HO.out.at_f
            clear hr9 hlf
            clear c1 hi hl64
            go_wp2_with fail
            go_ret
            exact ⟨_, rfl, by rw [HR9.out]; exact Kd.R_mono HO.out.left (fun _ _ => trivial), HO.out.below⟩
      · have z1 : decide ((l0.length : Int) > 0) = false := decide_eq_false (by omega)
        have z2 : decide ((0 : Int) < (l0.length : Int)) = false := decide_eq_false (by omega)
        have z3 : decide (0 < l0.length) = false := decide_eq_false hz
        have HZ := Aside0.mk (show l0.length = 0 by omega)
        clear hz
        go_wp2_with (first | ((with_reducible refine gate_dst (N := 36) rfl ?_); refine Kd.R_make (Kd.int .i64) _ 3 rfl (N := 36) rfl 27 _ _ rfl (l0.length : Int) rfl rfl Try.underlying27 (.int .i64 0) 8 (by kernel_rfl) rfl (by decide) (by omega) 0 (ok := fun _ => True) (okp := fun _ => True) rfl (fun _ hk => hk) trivial G1.out G2.out (Below.refl _ _) (Nat.le_refl _) ?_; intro v36 w7 ho8 hb hg_ hnew_; rw [Int.toNat_natCast] at ho8; obtain ⟨gA, hgA, _⟩ := hnew_; obtain ⟨cg, e36⟩ := int_form ho8 hgA; rw [List.length_replicate] at e36; subst e36; have HG : Aside0 (Kd.R (Kd.int .i64) 3 w7 w.heap.size (fun k => k = gA) (.slice (some ⟨gA, 0, none⟩) l0.length cg) (List.replicate l0.length 0)) := ⟨Kd.R_mono (int_narrow (Kd.R_lower ho8 HM.out.below.size)) (fun k hk => by simpa [Value.ownBlock] using hk.symm)⟩; replace HM := Aside0.mk (HM.out.step hb); clear ho8 hb hg_ hgA f_l) | ((with_reducible refine gate_dst (N := 8) rfl ?_); refine mp_alloc1 rfl 27 rfl (z := .slice none 0 0) (by kernel_rfl) rfl HM.out ?_; intro bg w_ hM hb9; replace HG := Aside0.mk (Kd.R_below HG.out hb9); clear hb9; replace HM := Aside0.mk hM; clear hM) | ((with_reducible refine gate_store (t := 27) (p := 8) rfl ?_); refine mp_cell rfl 27 rfl rfl (u := .slice (some ⟨gA, 0, none⟩) l0.length cg) rfl rfl HM.out (by kernel_rfl) ?_; intro w_ hM hk9; replace HG := Aside0.mk (Kd.R_mono (Kd.R_step (Kd.R_types HG.out (HM.out.rows.mem List.mem_cons_self) (by intro q hq; simp [Kd.int, Kd.scalar] at hq; rw [hq]; show (_ : Nat) ≠ _; decide)) (fun j hj hlt => hk9.2 j hlt hj.2)) (fun _ h => h.1) : Kd.R (Kd.int .i64) 3 w_ w.heap.size (fun k => k = gA) (.slice (some ⟨gA, 0, none⟩) l0.length cg) (List.replicate l0.length 0)); clear hk9; replace HM := Aside0.mk hM; clear hM) | ((with_reducible refine gate_dst (N := 9) rfl ?_); refine mp_alloc1 rfl 27 rfl (z := .slice none 0 0) (by kernel_rfl) rfl HM.out ?_; intro bf w_ hM hb9; replace HG := Aside0.mk (Kd.R_below HG.out hb9); clear hb9; replace HM := Aside0.mk hM; clear hM) | ((with_reducible refine gate_dst (N := 10) rfl ?_); refine mp_alloc1 rfl 70 rfl (z := .nilFunc) (by kernel_rfl) rfl HM.out ?_; intro bi w_ hM hb9; replace HG := Aside0.mk (Kd.R_below HG.out hb9); clear hb9; replace HM := Aside0.mk hM; clear hM) | ((with_reducible refine gate_store (t := 70) (p := 10) rfl ?_); refine mp_cell rfl 70 rfl rfl (u := .func (.func 45) #[] #[.pointer (some ⟨bg, 0, none⟩), .pointer (some ⟨bl, 0, none⟩), .pointer (some ⟨bm, 0, none⟩), .pointer (some ⟨bi, 0, none⟩), .pointer (some ⟨bf, 0, none⟩)]) rfl rfl HM.out (by kernel_rfl) ?_; intro w_ hM hk9; replace HG := Aside0.mk (Kd.R_mono (Kd.R_step (Kd.R_types HG.out (HM.out.rows.mem List.mem_cons_self) (by intro q hq; simp [Kd.int, Kd.scalar] at hq; rw [hq]; show (_ : Nat) ≠ _; decide)) (fun j hj hlt => hk9.2 j hlt hj.2)) (fun _ h => h.1) : Kd.R (Kd.int .i64) 3 w_ w.heap.size (fun k => k = gA) (.slice (some ⟨gA, 0, none⟩) l0.length cg) (List.replicate l0.length 0)); clear hk9; have f_l := blk_cell (hM.rows.mem (g := bl) (t := 29) (cs := #[.slice A0 l0.length c0]) (by simp)) 0; have f_i := blk_cell (hM.rows.mem List.mem_cons_self) 0; have f_e := blk_cell (hM.rows.mem (g := bf) (t := 27) (cs := #[.slice none 0 0]) (by simp)) 0; simp only [List.getElem?_toArray, List.getElem?_cons_zero] at f_l f_i f_e; replace HM := Aside0.mk hM; clear hM))
        have hs := HS.out
        unfold startL at hs
        rw [if_pos HZ.out] at hs
        have hs := Option.some.inj hs
        subst hs
        have HO : Aside0 (OrdS w A0 c0 l0 bl bm bg bi bf B gA cg _ ([] : List Int) ([] : List Int) (.slice none 0 0) (.slice none 0 0) _) := ⟨⟨⟨HM.out.own, HM.out.rows.swap, HM.out.base⟩, by have h9 := HG.out; rw [show List.replicate l0.length (0 : Int) = [] by rw [HZ.out]; rfl] at h9; exact h9, Kd.R_nil _ _ _ _ _, HR.out⟩⟩
        clear HM HG z1 z2 z3 f_i f_e f_l
        refine (slices_Reverse_int_int.calls k (fun k9 => (.slice none 0 0 : Value).ownBlock = some k9) (.slice none 0 0) ([] : List Int) rv w _ HO.out.below (int_narrow HO.out.left) HV.out).mono ?_
        rintro e w8 ⟨rfl, hr8, hb8, hk8⟩
        have HO2 := Aside0.mk (HO.out.turned hr8 hb8 hk8)
        clear hr8 hb8 hk8 HO
        have f_l := HO2.out.at_l
        go_wp2_with fail
        clear f_l
        go_loopw [47] (fun v47 wr => ∃ (i : Nat) (vj : Value), v47 = .int .i64 (i : Int) ∧ i ≤ l0.length ∧ Aside0 (OrdS w A0 c0 l0 bl bm bg bi bf B gA cg (.func (.func 45) #[] #[.pointer (some ⟨bg, 0, none⟩), .pointer (some ⟨bl, 0, none⟩), .pointer (some ⟨bm, 0, none⟩), .pointer (some ⟨bi, 0, none⟩), .pointer (some ⟨bf, 0, none⟩)]) ([] : List Int) (rv ++ restL ([] : List Int) i) vj vj wr)) (fun v47 _ => ((l0.length : Int) - intOf v47).toNat)
        case atStart => exact ⟨0, _, rfl, Nat.zero_le _, ⟨by rw [restL, List.append_nil]; exact HO2.out⟩⟩
        case round =>
          rename_i wr
          clear HO2
          obtain ⟨i, vj, rfl, hi, HO⟩ := hrel
          obtain ⟨A8, c8, e8⟩ := Kd.R_slice HO.out.left
          subst e8
          have hl64 : l0.length ≤ 9223372036854775807 := by have := HLEN.out; omega
          by_cases c1 : i < l0.length
          · have HI := Aside0.mk c1
            have HW := Aside0.mk (wrap_ord c1 hl64)
            have c1b : decide ((i : Int) < (l0.length : Int)) = true := decide_eq_true (by omega)
            have c1c : decide (i < l0.length) = true := decide_eq_true c1
            have p5 : (0 ≤ (i : Int)) = True := eq_true (by omega)
            have p6 : ((i : Int) < (l0.length : Int)) = True := eq_true (by omega)
            have f_g := HO.out.at_g
            have f_n := HO.out.at_n c1
            obtain ⟨z, hz⟩ : ∃ z, z = ([] : List Int).getD i 0 := ⟨_, rfl⟩
            rw [← hz] at f_n
            have HLT := Aside0.mk (show (rv ++ restL ([] : List Int) i).length < 17592186044416 by have := restL_len ([] : List Int) i; have := HRL.out; have := HLEN.out; rw [List.length_append]; omega)
            by_cases h0 : z = 0
            · have hst : rv ++ restL ([] : List Int) (i + 1) = (rv ++ restL ([] : List Int) i) ++ [(i : Int)] := by rw [restL, if_pos (by rw [← hz]; exact h0), List.append_assoc]
              have HST := Aside0.mk hst
              have c2b : (z == 0) = true := by rw [h0]; rfl
              have f_ := HO.out.at_f
              obtain ⟨lf9, hlf⟩ : ∃ lf9, lf9 = rv ++ restL ([] : List Int) i := ⟨_, rfl⟩
              rw [← hlf] at HO HLT HST f_
              have HLF := Aside0.mk hlf
              clear h0 hz hst hlf hl64 c1
              go_wp2_with (first | ((with_reducible refine gate_dst (N := 57) rfl ?_); refine Kd.R_lit (Kd.int .i64) _ 3 ?hg (N := 57) ?hd (xs := ([(i : Int)] : List Int)) (inner := [.int .i64 (i : Int)]) (ok := fun _ => True) (okp := fun _ => True) ?hr ?hp (fun _ hk => hk) trivial HO.out.below HO.out.below.size (by simp) ?_; (case hd => rfl); (case hg => rfl); (case hr => first | (go_simp; done) | (go_simp; rfl)); (case hp => exact (Reps.one (show Kd.M (Kd.int .i64) _ _ _ (i : Int) [.int .i64 (i : Int)] from rfl) (Reps.none _ _))); intro v57 w3 ho1 hb1 hg1 _; have hbn := below_noneO hg1; obtain ⟨A3, c3', e3'⟩ := Kd.R_slice ho1; subst e3'; have HL1 := Aside0.mk (Kd.R_reads' ho1).2.2; replace HO := Aside0.mk (HO.out.step hbn); clear ho1 hb1 hg1 hbn f_ ) | (at_builtin; refine ord_app rfl rfl (i : Int) HO.out rfl rfl HL1.out HLT.out ?_; intro v5 w4 ho; replace HO := Aside0.mk ho; clear ho; obtain ⟨A5, c5, e5⟩ := Kd.R_slice HO.out.left; subst e5) | ((with_reducible refine gate_store (t := 27) (p := 9) rfl ?_); refine ord_put rfl rfl HO.out rfl rfl ?_; intro w6 ho; replace HO := Aside0.mk ho; clear ho))
              go_roundw
              case rel => exact ⟨i + 1, _, by have e9 := HW.out; first | (rw [e9]; done) | (simp; done), HI.out, ⟨by rw [HST.out]; exact HO.out⟩⟩
              case measure => exact meas_ord HI.out HW.out
            · have HST := Aside0.mk (show rv ++ restL ([] : List Int) (i + 1) = rv ++ restL ([] : List Int) i by rw [restL, if_neg (by rw [← hz]; exact h0)])
              have c2b : (z == 0) = false := by rw [beq_eq_false_iff_ne]; exact h0
              clear h0 hz hl64 c1
              go_wp2_with fail
              go_roundw
              case rel => exact ⟨i + 1, _, by have e9 := HW.out; first | (rw [e9]; done) | (simp; done), HI.out, ⟨by rw [HST.out]; exact HO.out⟩⟩
              case measure => exact meas_ord HI.out HW.out
          · have c1b : decide ((i : Int) < (l0.length : Int)) = false := decide_eq_false (by omega)
            have c1c : decide (i < l0.length) = false := decide_eq_false c1
            have HE := Aside0.mk (show i = l0.length by omega)
            have hr9 := HRES.out
            obtain ⟨lf9, hlf⟩ : ∃ lf9, lf9 = rv ++ restL ([] : List Int) i := ⟨_, rfl⟩
            rw [← hlf] at HO
            rw [← HE.out, ← hlf] at hr9
            have HR9 := Aside0.mk hr9
            have f_ := HO.out.at_f
            clear hr9 hlf
            clear c1 hi hl64
            go_wp2_with fail
            go_ret
            exact ⟨_, rfl, by rw [HR9.out]; exact Kd.R_mono HO.out.left (fun _ _ => trivial), HO.out.below⟩

def provisoref05_Place.l0 : Nat → Int → List (S46) → Int → Int → Option (Int)
  | 0, _, _, _, _ => none
  | k + 1, x1, x7, x8, x9 => if x9 < x8 then (if 0 ≤ x9 then (if x9 < (x7.length : Int) then (if ((rd_T46 x7 x9).f0) = x1 then (some x9) else (provisoref05_Place.l0 k x1 x7 x8 (wrap64 (x9 + 1)))) else (none)) else (none)) else (some (-1))
def provisoref05_Place.f (k : Nat) (l0 : List (S46)) (a1 : Int) : Option (Int) := provisoref05_Place.l0 k a1 l0 (l0.length : Int) 0
set_option maxHeartbeats 8000000 in
set_option maxRecDepth 100000 in
theorem provisoref05_Place.calls (k : Nat) (A0 : Option Addr) (c0 : Nat) (l0 : List (S46)) (a1 : Int) (r : Int) (w : World) (hr0 : Kd.C k46 w A0 l0.length l0) (hc0 : l0.length ≤ c0) (h : provisoref05_Place.f k l0 a1 = some r) :
    Calls Try.prog 49 #[.slice A0 l0.length c0, .int .i64 a1] w fun e w' => e = .returned (.int .i64 r) ∧ Below w.heap.size w w' := by
  have hu46 := Try.underlying46
  have HR0 := Aside0.mk hr0
  have HC0 := Aside0.mk hc0
  clear hr0 hc0
  have HB := Aside0.mk (Below.refl w.heap.size w)
  have H : (provisoref05_Place.l0 k a1 l0 (l0.length : Int) 0) = some r := h
  clear h
  have H' := Aside0.mk H
  clear H
  go_enter Try.func49, Try.ntmps49
  go_wp2
  go_loopg [9] k (fun kq v9 w' => ∃ (x9_1 : Int), v9 = .int .i64 x9_1 ∧ Aside0 (provisoref05_Place.l0 kq a1 l0 (l0.length : Int) x9_1 = some r) ∧ Aside0 (kq ≤ k) ∧ Aside0 (Below w.heap.size w w'))
  case atStart => exact ⟨(0), (by first | rfl | (simp; done) | (simp [*]; done)), H', ⟨Nat.le_refl _⟩, ⟨by repeat (first | (with_reducible first | exact HB.out | apply below_alloc | apply pw_below_drewN | apply below_drew1) | exact HB.out)⟩⟩
  case round =>
    clear H'
    try clear p2
    obtain ⟨x9_1, rfl, HA, HK1, HB⟩ := hrel
    cases gk with
    | zero => exact absurd HA.out (by simp [provisoref05_Place.l0])
    | succ k1 =>
      have H := HA.out
      clear HA
      simp only [provisoref05_Place.l0] at H
      by_cases c3 : x9_1 < (l0.length : Int)
      · rw [if_pos c3] at H
        have c3b0 : decide (x9_1 < (l0.length : Int)) = true := decide_eq_true c3
        clear c3
        by_cases c4 : 0 ≤ x9_1
        · rw [if_pos c4] at H
          have c4b0 : decide (0 ≤ x9_1) = true := decide_eq_true c4
          clear c4
          by_cases c5 : x9_1 < (l0.length : Int)
          · rw [if_pos c5] at H
            have c5b0 : decide (x9_1 < (l0.length : Int)) = true := decide_eq_true c5
            clear c5
            by_cases c6 : ((rd_T46 l0 x9_1).f0) = a1
            · rw [if_pos c6] at H
              have c6b0 : (((rd_T46 l0 x9_1).f0) == a1) = true := beq_iff_eq.mpr c6
              have c6b1 : (((rd_T46 l0 x9_1).f0) != a1) = false := bne_eq_false_iff_eq.mpr c6
              clear c6
              obtain rfl := Option.some.inj H
              have p170 : 0 ≤ (x9_1 : Int) := of_decide_eq_true (by first | (with_reducible assumption) | assumption)
              have q170 : x9_1 < (l0.length : Int) := of_decide_eq_true (by first | (with_reducible assumption) | assumption)
              obtain ⟨ad170, e170, hx170_0, hx170_1, hx170_2, hx170_3⟩ := at_T46 HR0.out x9_1 p170 q170
              cases e170
              replace hx170_0 := (HB.out.cell (World.block_lt_of_cell? w _ hx170_0)).trans hx170_0
              replace hx170_1 := (HB.out.cell (World.block_lt_of_cell? w _ hx170_1)).trans hx170_1
              replace hx170_2 := (HB.out.cell (World.block_lt_of_cell? w _ hx170_2)).trans hx170_2
              replace hx170_3 := (HB.out.cell (World.block_lt_of_cell? w _ hx170_3)).trans hx170_3
              replace p170 := eq_true p170
              replace q170 := eq_true q170
              go_wp2_with (first | ((with_reducible refine gate_dst (N := 6) rfl ?_); refine box_event ?hg (N := 6) ?hd (cs := #[.int .i64 0, .int .u8 0, .int .i64 0, .int .i64 0]) (t := 46) ?hr ?_; (case hd => rfl); (case hg => rfl); (case hr => first | (go_simp; done) | (go_simp; rfl)); intro gb171 hg w7 hbox hb; have n0_ := Aside0.mk (below_step (by repeat (first | (with_reducible first | exact HB.out | apply below_alloc | apply pw_below_drewN | apply below_drew1) | exact HB.out)) hb); have n1_ := Aside0.mk (hbox); have n2_ := Aside0.mk ((by rw [hg]; exact (below_size (by repeat (first | (with_reducible first | exact HB.out | apply below_alloc | apply pw_below_drewN | apply below_drew1) | exact HB.out))) : w.heap.size ≤ gb171)); have n3_ := Aside0.mk ((by rw [hg]; exact (below_size (by repeat (first | (with_reducible first | exact HB.out | apply below_alloc | apply pw_below_drewN | apply below_drew1) | exact HB.out))) : w.heap.size ≤ gb171)); clear HB; have HB := n0_; have BK171 := n1_; have GW171 := n2_; have GE171 := n3_; clear n0_ n1_ n2_ n3_; clear hb hbox hg; have hcz8_0 : w7.cell? ⟨gb171, 0, none⟩ = some (.int .i64 0) := (blk_cell BK171.out 0).trans rfl; have hcz8_1 : w7.cell? ⟨gb171, 1, none⟩ = some (.int .u8 0) := (blk_cell BK171.out 1).trans rfl; have hcz8_2 : w7.cell? ⟨gb171, 2, none⟩ = some (.int .i64 0) := (blk_cell BK171.out 2).trans rfl; have hcz8_3 : w7.cell? ⟨gb171, 3, none⟩ = some (.int .i64 0) := (blk_cell BK171.out 3).trans rfl; have hfz8_0 := blk_frozen BK171.out 0; have hfz8_1 := blk_frozen BK171.out 1; have hfz8_2 := blk_frozen BK171.out 2; have hfz8_3 := blk_frozen BK171.out 3))
              go_ret
              exact ⟨by first | rfl | (simp [errW_none, errW_some] <;> rfl) | (simp [*, errW_none, errW_some] <;> rfl), by repeat (first | (with_reducible first | exact HB.out | apply below_alloc | apply pw_below_drewN | apply below_drew1 | refine below_set ?_ GE171.out) | exact HB.out)⟩
            · rw [if_neg c6] at H
              have c6b0 : (((rd_T46 l0 x9_1).f0) == a1) = false := beq_eq_false_iff_ne.mpr c6
              have c6b1 : (((rd_T46 l0 x9_1).f0) != a1) = true := bne_iff_ne.mpr c6
              have H' := Aside0.mk H
              clear H
              have p170 : 0 ≤ (x9_1 : Int) := of_decide_eq_true (by first | (with_reducible assumption) | assumption)
              have q170 : x9_1 < (l0.length : Int) := of_decide_eq_true (by first | (with_reducible assumption) | assumption)
              obtain ⟨ad170, e170, hx170_0, hx170_1, hx170_2, hx170_3⟩ := at_T46 HR0.out x9_1 p170 q170
              cases e170
              replace hx170_0 := (HB.out.cell (World.block_lt_of_cell? w _ hx170_0)).trans hx170_0
              replace hx170_1 := (HB.out.cell (World.block_lt_of_cell? w _ hx170_1)).trans hx170_1
              replace hx170_2 := (HB.out.cell (World.block_lt_of_cell? w _ hx170_2)).trans hx170_2
              replace hx170_3 := (HB.out.cell (World.block_lt_of_cell? w _ hx170_3)).trans hx170_3
              replace p170 := eq_true p170
              replace q170 := eq_true q170
              go_wp2_with (first | ((with_reducible refine gate_dst (N := 6) rfl ?_); refine box_event ?hg (N := 6) ?hd (cs := #[.int .i64 0, .int .u8 0, .int .i64 0, .int .i64 0]) (t := 46) ?hr ?_; (case hd => rfl); (case hg => rfl); (case hr => first | (go_simp; done) | (go_simp; rfl)); intro gb171 hg w9 hbox hb; have n0_ := Aside0.mk (below_step (by repeat (first | (with_reducible first | exact HB.out | apply below_alloc | apply pw_below_drewN | apply below_drew1) | exact HB.out)) hb); have n1_ := Aside0.mk (hbox); have n2_ := Aside0.mk ((by rw [hg]; exact (below_size (by repeat (first | (with_reducible first | exact HB.out | apply below_alloc | apply pw_below_drewN | apply below_drew1) | exact HB.out))) : w.heap.size ≤ gb171)); have n3_ := Aside0.mk ((by rw [hg]; exact (below_size (by repeat (first | (with_reducible first | exact HB.out | apply below_alloc | apply pw_below_drewN | apply below_drew1) | exact HB.out))) : w.heap.size ≤ gb171)); clear HB; have HB := n0_; have BK171 := n1_; have GW171 := n2_; have GE171 := n3_; clear n0_ n1_ n2_ n3_; clear hb hbox hg; have hcz10_0 : w9.cell? ⟨gb171, 0, none⟩ = some (.int .i64 0) := (blk_cell BK171.out 0).trans rfl; have hcz10_1 : w9.cell? ⟨gb171, 1, none⟩ = some (.int .u8 0) := (blk_cell BK171.out 1).trans rfl; have hcz10_2 : w9.cell? ⟨gb171, 2, none⟩ = some (.int .i64 0) := (blk_cell BK171.out 2).trans rfl; have hcz10_3 : w9.cell? ⟨gb171, 3, none⟩ = some (.int .i64 0) := (blk_cell BK171.out 3).trans rfl; have hfz10_0 := blk_frozen BK171.out 0; have hfz10_1 := blk_frozen BK171.out 1; have hfz10_2 := blk_frozen BK171.out 2; have hfz10_3 := blk_frozen BK171.out 3))
              go_roundg k1
              case measure => have := HK1.out; omega
              case rel => exact ⟨(wrap64 (x9_1 + 1)), (by first | rfl | (simp; done) | (simp [*]; done)), H', ⟨by have := HK1.out; omega⟩, ⟨by repeat (first | (with_reducible first | exact HB.out | apply below_alloc | apply pw_below_drewN | apply below_drew1 | refine below_set ?_ GE171.out) | exact HB.out)⟩⟩
          · rw [if_neg c5] at H
            exact absurd H (by simp)
        · rw [if_neg c4] at H
          exact absurd H (by simp)
      · rw [if_neg c3] at H
        have c3b0 : decide (x9_1 < (l0.length : Int)) = false := decide_eq_false c3
        clear c3
        obtain rfl := Option.some.inj H
        go_wp2
        go_ret
        exact ⟨by first | rfl | (simp [errW_none, errW_some] <;> rfl) | (simp [*, errW_none, errW_some] <;> rfl), by repeat (first | (with_reducible first | exact HB.out | apply below_alloc | apply pw_below_drewN | apply below_drew1) | exact HB.out)⟩

end Go.Proofs.Ytcffniaieegbgaa.P

end

section
namespace Go.Proofs.Ytcffniaieegbgaa.P
open Go.RowKit Go.Proofs.YtcffniaieegbgaaW.PrintWords Go.Proofs.YtcffniaieegbgaaW.PrintLast Go.Proofs.YtcffniaieegbgaaW.PrintMore
attribute [local go_sem] max2_int min2_int max_two min_two max_three min_three max_four min_four   -- for this text's walks alone
set_option linter.unusedVariables false
set_option linter.unusedSimpArgs false

def slices_Index_int_int.l0 : Nat → List Int → Int → Int → Int → Option (Int)
  | 0, _, _, _, _ => none
  | k + 1, x0, x1, x7, x8 => if x8 < x7 then (if 0 ≤ x8 then (if x8 < (x0.length : Int) then (if x1 = (rd x0 x8) then (some x8) else (slices_Index_int_int.l0 k x0 x1 x7 (wrap64 (x8 + 1)))) else (none)) else (none)) else (some (-1))
def slices_Index_int_int.f (k : Nat) (l0 : List Int) (a1 : Int) : Option (Int) := slices_Index_int_int.l0 k l0 a1 (l0.length : Int) 0
set_option maxHeartbeats 8000000 in
set_option maxRecDepth 100000 in
theorem slices_Index_int_int.calls (k : Nat) (A0 : Option Addr) (c0 : Nat) (l0 : List Int) (a1 : Int) (r : Int) (w : World) (hr0 : Kd.C (Kd.int .i64) w A0 l0.length l0) (hc0 : l0.length ≤ c0) (h : slices_Index_int_int.f k l0 a1 = some r) :
    Calls Try.prog 16 #[.slice A0 l0.length c0, .int .i64 a1] w fun e w' => e = .returned (.int .i64 r) ∧ Drawn0 w w' := by
  have HR0 := Aside0.mk hr0
  have HC0 := Aside0.mk hc0
  clear hr0 hc0
  have H : (slices_Index_int_int.l0 k l0 a1 (l0.length : Int) 0) = some r := h
  clear h
  have H' := Aside0.mk H
  clear H
  go_enter Try.func16, Try.ntmps16
  go_wp2
  go_loopg [8] k (fun kq v8 w' => ∃ (x8_1 : Int), v8 = .int .i64 x8_1 ∧ Aside0 (slices_Index_int_int.l0 kq l0 a1 (l0.length : Int) x8_1 = some r) ∧ Aside0 (kq ≤ k) ∧ Drawn0 w w')
  case atStart => exact ⟨(0), (by first | rfl | (simp; done) | (simp [*]; done)), H', ⟨Nat.le_refl _⟩, by repeat (first | exact Drawn0.refl _ | apply Drawn0.step)⟩
  case round =>
    clear H'
    try clear c1
    try clear p2
    obtain ⟨x8_1, rfl, HA, HK1, ⟨m1, rfl⟩⟩ := hrel
    cases gk with
    | zero => exact absurd HA.out (by simp [slices_Index_int_int.l0])
    | succ k1 =>
      have H := HA.out
      clear HA
      simp only [slices_Index_int_int.l0] at H
      by_cases c3 : x8_1 < (l0.length : Int)
      · rw [if_pos c3] at H
        have c3b0 : decide (x8_1 < (l0.length : Int)) = true := decide_eq_true c3
        clear c3
        by_cases c4 : 0 ≤ x8_1
        · rw [if_pos c4] at H
          have c4b0 : decide (0 ≤ x8_1) = true := decide_eq_true c4
          clear c4
          by_cases c5 : x8_1 < (l0.length : Int)
          · rw [if_pos c5] at H
            have c5b0 : decide (x8_1 < (l0.length : Int)) = true := decide_eq_true c5
            clear c5
            by_cases c6 : a1 = (rd l0 x8_1)
            · rw [if_pos c6] at H
              have c6b0 : (a1 == (rd l0 x8_1)) = true := beq_iff_eq.mpr c6
              have c6b1 : (a1 != (rd l0 x8_1)) = false := bne_eq_false_iff_eq.mpr c6
              clear c6
              obtain rfl := Option.some.inj H
              have p172 : 0 ≤ (x8_1 : Int) := of_decide_eq_true (by first | (with_reducible assumption) | assumption)
              have q172 : x8_1 < (l0.length : Int) := of_decide_eq_true (by first | (with_reducible assumption) | assumption)
              obtain ⟨ad172, e172, hx172_0⟩ := Kd.at_int HR0.out x8_1 p172 q172
              cases e172
              replace p172 := eq_true p172
              replace q172 := eq_true q172
              go_wp2
              go_ret
              exact ⟨by first | rfl | (simp; done) | (simp [*]; done), by repeat (first | exact Drawn0.refl _ | apply Drawn0.step)⟩
            · rw [if_neg c6] at H
              have c6b0 : (a1 == (rd l0 x8_1)) = false := beq_eq_false_iff_ne.mpr c6
              have c6b1 : (a1 != (rd l0 x8_1)) = true := bne_iff_ne.mpr c6
              have H' := Aside0.mk H
              clear H
              have p172 : 0 ≤ (x8_1 : Int) := of_decide_eq_true (by first | (with_reducible assumption) | assumption)
              have q172 : x8_1 < (l0.length : Int) := of_decide_eq_true (by first | (with_reducible assumption) | assumption)
              obtain ⟨ad172, e172, hx172_0⟩ := Kd.at_int HR0.out x8_1 p172 q172
              cases e172
              replace p172 := eq_true p172
              replace q172 := eq_true q172
              go_wp2
              go_roundg k1
              case measure => have := HK1.out; omega
              case rel => exact ⟨(wrap64 (x8_1 + 1)), (by first | rfl | (simp; done) | (simp [*]; done)), H', ⟨by have := HK1.out; omega⟩, by repeat (first | exact Drawn0.refl _ | apply Drawn0.step)⟩
          · rw [if_neg c5] at H
            exact absurd H (by simp)
        · rw [if_neg c4] at H
          exact absurd H (by simp)
      · rw [if_neg c3] at H
        have c3b0 : decide (x8_1 < (l0.length : Int)) = false := decide_eq_false c3
        clear c3
        obtain rfl := Option.some.inj H
        go_wp2
        go_ret
        exact ⟨by first | rfl | (simp; done) | (simp [*]; done), by repeat (first | exact Drawn0.refl _ | apply Drawn0.step)⟩

def provisolaw05_from.l0 : Nat → Int → List (S35) → Int → Int → Option (Int)
  | 0, _, _, _, _ => none
  | k + 1, x1, x7, x8, x9 => if x9 < x8 then (if 0 ≤ x9 then (if x9 < (x7.length : Int) then (if ((rd_T35 x7 x9).f0) = x1 then (some x9) else (provisolaw05_from.l0 k x1 x7 x8 (wrap64 (x9 + 1)))) else (none)) else (none)) else (some (-1))
def provisolaw05_from.f (k : Nat) (l0 : List (S35)) (a1 : Int) : Option (Int) := provisolaw05_from.l0 k a1 l0 (l0.length : Int) 0
set_option maxHeartbeats 8000000 in
set_option maxRecDepth 100000 in
theorem provisolaw05_from.calls (k : Nat) (A0 : Option Addr) (c0 : Nat) (l0 : List (S35)) (a1 : Int) (r : Int) (w : World) (hr0 : Kd.C k35 w A0 l0.length l0) (hc0 : l0.length ≤ c0) (h : provisolaw05_from.f k l0 a1 = some r) :
    Calls Try.prog 19 #[.slice A0 l0.length c0, .int .i64 a1] w fun e w' => e = .returned (.int .i64 r) ∧ Below w.heap.size w w' := by
  have hu35 := Try.underlying35
  have HR0 := Aside0.mk hr0
  have HC0 := Aside0.mk hc0
  clear hr0 hc0
  have HB := Aside0.mk (Below.refl w.heap.size w)
  have H : (provisolaw05_from.l0 k a1 l0 (l0.length : Int) 0) = some r := h
  clear h
  have H' := Aside0.mk H
  clear H
  go_enter Try.func19, Try.ntmps19
  go_wp2
  go_loopg [9] k (fun kq v9 w' => ∃ (x9_1 : Int), v9 = .int .i64 x9_1 ∧ Aside0 (provisolaw05_from.l0 kq a1 l0 (l0.length : Int) x9_1 = some r) ∧ Aside0 (kq ≤ k) ∧ Aside0 (Below w.heap.size w w'))
  case atStart => exact ⟨(0), (by first | rfl | (simp; done) | (simp [*]; done)), H', ⟨Nat.le_refl _⟩, ⟨by repeat (first | (with_reducible first | exact HB.out | apply below_alloc | apply pw_below_drewN | apply below_drew1) | exact HB.out)⟩⟩
  case round =>
    clear H'
    try clear c1
    try clear p2
    obtain ⟨x9_1, rfl, HA, HK1, HB⟩ := hrel
    cases gk with
    | zero => exact absurd HA.out (by simp [provisolaw05_from.l0])
    | succ k1 =>
      have H := HA.out
      clear HA
      simp only [provisolaw05_from.l0] at H
      by_cases c3 : x9_1 < (l0.length : Int)
      · rw [if_pos c3] at H
        have c3b0 : decide (x9_1 < (l0.length : Int)) = true := decide_eq_true c3
        clear c3
        by_cases c4 : 0 ≤ x9_1
        · rw [if_pos c4] at H
          have c4b0 : decide (0 ≤ x9_1) = true := decide_eq_true c4
          clear c4
          by_cases c5 : x9_1 < (l0.length : Int)
          · rw [if_pos c5] at H
            have c5b0 : decide (x9_1 < (l0.length : Int)) = true := decide_eq_true c5
            clear c5
            by_cases c6 : ((rd_T35 l0 x9_1).f0) = a1
            · rw [if_pos c6] at H
              have c6b0 : (((rd_T35 l0 x9_1).f0) == a1) = true := beq_iff_eq.mpr c6
              have c6b1 : (((rd_T35 l0 x9_1).f0) != a1) = false := bne_eq_false_iff_eq.mpr c6
              clear c6
              obtain rfl := Option.some.inj H
              have p173 : 0 ≤ (x9_1 : Int) := of_decide_eq_true (by first | (with_reducible assumption) | assumption)
              have q173 : x9_1 < (l0.length : Int) := of_decide_eq_true (by first | (with_reducible assumption) | assumption)
              obtain ⟨ad173, A173_2, c173_2, e173, hx173_0, hx173_1, hx173_2, hl173_2, hi173_2⟩ := at_T35 HR0.out x9_1 p173 q173
              cases e173
              replace hx173_0 := (HB.out.cell (World.block_lt_of_cell? w _ hx173_0)).trans hx173_0
              replace hx173_1 := (HB.out.cell (World.block_lt_of_cell? w _ hx173_1)).trans hx173_1
              replace hx173_2 := (HB.out.cell (World.block_lt_of_cell? w _ hx173_2)).trans hx173_2
              have HR173_2 := Aside0.mk hi173_2
              have HC173_2 := Aside0.mk hl173_2
              clear hi173_2 hl173_2
              replace p173 := eq_true p173
              replace q173 := eq_true q173
              go_wp2_with (first | ((with_reducible refine gate_dst (N := 6) rfl ?_); refine box_event ?hg (N := 6) ?hd (cs := #[.int .i64 0, .int .i64 0, .slice none 0 0]) (t := 35) ?hr ?_; (case hd => rfl); (case hg => rfl); (case hr => first | (go_simp; done) | (go_simp; rfl)); intro gb174 hg w7 hbox hb; have n0_ := Aside0.mk (below_step (by repeat (first | (with_reducible first | exact HB.out | apply below_alloc | apply pw_below_drewN | apply below_drew1) | exact HB.out)) hb); have n1_ := Aside0.mk (hbox); have n2_ := Aside0.mk ((by rw [hg]; exact (below_size (by repeat (first | (with_reducible first | exact HB.out | apply below_alloc | apply pw_below_drewN | apply below_drew1) | exact HB.out))) : w.heap.size ≤ gb174)); have n3_ := Aside0.mk ((by rw [hg]; exact (below_size (by repeat (first | (with_reducible first | exact HB.out | apply below_alloc | apply pw_below_drewN | apply below_drew1) | exact HB.out))) : w.heap.size ≤ gb174)); clear HB; have HB := n0_; have BK174 := n1_; have GW174 := n2_; have GE174 := n3_; clear n0_ n1_ n2_ n3_; clear hb hbox hg; have hcz8_0 : w7.cell? ⟨gb174, 0, none⟩ = some (.int .i64 0) := (blk_cell BK174.out 0).trans rfl; have hcz8_1 : w7.cell? ⟨gb174, 1, none⟩ = some (.int .i64 0) := (blk_cell BK174.out 1).trans rfl; have hcz8_2 : w7.cell? ⟨gb174, 2, none⟩ = some (.slice none 0 0) := (blk_cell BK174.out 2).trans rfl; have hfz8_0 := blk_frozen BK174.out 0; have hfz8_1 := blk_frozen BK174.out 1; have hfz8_2 := blk_frozen BK174.out 2))
              go_ret
              exact ⟨by first | rfl | (simp [errW_none, errW_some] <;> rfl) | (simp [*, errW_none, errW_some] <;> rfl), by repeat (first | (with_reducible first | exact HB.out | apply below_alloc | apply pw_below_drewN | apply below_drew1 | refine below_set ?_ GE174.out) | exact HB.out)⟩
            · rw [if_neg c6] at H
              have c6b0 : (((rd_T35 l0 x9_1).f0) == a1) = false := beq_eq_false_iff_ne.mpr c6
              have c6b1 : (((rd_T35 l0 x9_1).f0) != a1) = true := bne_iff_ne.mpr c6
              have H' := Aside0.mk H
              clear H
              have p173 : 0 ≤ (x9_1 : Int) := of_decide_eq_true (by first | (with_reducible assumption) | assumption)
              have q173 : x9_1 < (l0.length : Int) := of_decide_eq_true (by first | (with_reducible assumption) | assumption)
              obtain ⟨ad173, A173_2, c173_2, e173, hx173_0, hx173_1, hx173_2, hl173_2, hi173_2⟩ := at_T35 HR0.out x9_1 p173 q173
              cases e173
              replace hx173_0 := (HB.out.cell (World.block_lt_of_cell? w _ hx173_0)).trans hx173_0
              replace hx173_1 := (HB.out.cell (World.block_lt_of_cell? w _ hx173_1)).trans hx173_1
              replace hx173_2 := (HB.out.cell (World.block_lt_of_cell? w _ hx173_2)).trans hx173_2
              have HR173_2 := Aside0.mk hi173_2
              have HC173_2 := Aside0.mk hl173_2
              clear hi173_2 hl173_2
              replace p173 := eq_true p173
              replace q173 := eq_true q173
              go_wp2_with (first | ((with_reducible refine gate_dst (N := 6) rfl ?_); refine box_event ?hg (N := 6) ?hd (cs := #[.int .i64 0, .int .i64 0, .slice none 0 0]) (t := 35) ?hr ?_; (case hd => rfl); (case hg => rfl); (case hr => first | (go_simp; done) | (go_simp; rfl)); intro gb174 hg w9 hbox hb; have n0_ := Aside0.mk (below_step (by repeat (first | (with_reducible first | exact HB.out | apply below_alloc | apply pw_below_drewN | apply below_drew1) | exact HB.out)) hb); have n1_ := Aside0.mk (hbox); have n2_ := Aside0.mk ((by rw [hg]; exact (below_size (by repeat (first | (with_reducible first | exact HB.out | apply below_alloc | apply pw_below_drewN | apply below_drew1) | exact HB.out))) : w.heap.size ≤ gb174)); have n3_ := Aside0.mk ((by rw [hg]; exact (below_size (by repeat (first | (with_reducible first | exact HB.out | apply below_alloc | apply pw_below_drewN | apply below_drew1) | exact HB.out))) : w.heap.size ≤ gb174)); clear HB; have HB := n0_; have BK174 := n1_; have GW174 := n2_; have GE174 := n3_; clear n0_ n1_ n2_ n3_; clear hb hbox hg; have hcz10_0 : w9.cell? ⟨gb174, 0, none⟩ = some (.int .i64 0) := (blk_cell BK174.out 0).trans rfl; have hcz10_1 : w9.cell? ⟨gb174, 1, none⟩ = some (.int .i64 0) := (blk_cell BK174.out 1).trans rfl; have hcz10_2 : w9.cell? ⟨gb174, 2, none⟩ = some (.slice none 0 0) := (blk_cell BK174.out 2).trans rfl; have hfz10_0 := blk_frozen BK174.out 0; have hfz10_1 := blk_frozen BK174.out 1; have hfz10_2 := blk_frozen BK174.out 2))
              go_roundg k1
              case measure => have := HK1.out; omega
              case rel => exact ⟨(wrap64 (x9_1 + 1)), (by first | rfl | (simp; done) | (simp [*]; done)), H', ⟨by have := HK1.out; omega⟩, ⟨by repeat (first | (with_reducible first | exact HB.out | apply below_alloc | apply pw_below_drewN | apply below_drew1 | refine below_set ?_ GE174.out) | exact HB.out)⟩⟩
          · rw [if_neg c5] at H
            exact absurd H (by simp)
        · rw [if_neg c4] at H
          exact absurd H (by simp)
      · rw [if_neg c3] at H
        have c3b0 : decide (x9_1 < (l0.length : Int)) = false := decide_eq_false c3
        clear c3
        obtain rfl := Option.some.inj H
        go_wp2
        go_ret
        exact ⟨by first | rfl | (simp [errW_none, errW_some] <;> rfl) | (simp [*, errW_none, errW_some] <;> rfl), by repeat (first | (with_reducible first | exact HB.out | apply below_alloc | apply pw_below_drewN | apply below_drew1) | exact HB.out)⟩

mutual
def provisolaw05_ring.l0 : Nat → List (S35) → Int → Int → Option (Bool)
  | 0, _, _, _ => none
  | k + 1, x0, x11, x12 => if x12 < x11 then (if 0 ≤ (x0.length : Int) then (if ((x0.length : Int) : Int).toNat ≤ 281474976710656 then (provisolaw05_ring.l1 k x0 x12 (List.replicate ((x0.length : Int) : Int).toNat false) (([x12] : List Int)) x11 x12) else (none)) else (none)) else (some false)
def provisolaw05_ring.l1 : Nat → List (S35) → Int → List Bool → List Int → Int → Int → Option (Bool)
  | 0, _, _, _, _, _, _ => none
  | k + 1, x0, x3, x4, x5, x11, x12 => if (x5.length : Int) > 0 then (if 0 < (x5.length : Int) then (if 1 ≤ (x5.length : Int) then (if 0 ≤ (rd x5 0) then (if (rd x5 0) < (x0.length : Int) then (provisolaw05_ring.l2 k x0 x3 x4 (x5.drop (1 : Int).toNat) x11 x12 ((rd_T35 x0 (rd x5 0)).f2) (((rd_T35 x0 (rd x5 0)).f2).length : Int) 0) else (none)) else (none)) else (none)) else (none)) else (if 0 ≤ x3 then (if x3 < (x4.length : Int) then (if rdOf false x4 x3 = true then (some true) else (provisolaw05_ring.l0 k x0 x11 (wrap64 (x12 + 1)))) else (none)) else (none))
def provisolaw05_ring.l2 : Nat → List (S35) → Int → List Bool → List Int → Int → Int → List Int → Int → Int → Option (Bool)
  | 0, _, _, _, _, _, _, _, _, _ => none
  | k + 1, x0, x3, x4, x5, x11, x12, x32, x33, x34 => if x34 < x33 then (if 0 ≤ x34 then (if x34 < (x32.length : Int) then ((provisolaw05_from.f k x0 (rd x32 x34)).bind fun t188 => (if t188 ≥ 0 then (if 0 ≤ t188 then (if t188 < (x4.length : Int) then (if rdOf false x4 t188 = true then (provisolaw05_ring.l2 k x0 x3 x4 x5 x11 x12 x32 x33 (wrap64 (x34 + 1))) else (if x5.length < 17592186044416 then (provisolaw05_ring.l2 k x0 x3 (x4.set (t188 : Int).toNat true) (x5 ++ [t188]) x11 x12 x32 x33 (wrap64 (x34 + 1))) else (none))) else (none)) else (none)) else (provisolaw05_ring.l2 k x0 x3 x4 x5 x11 x12 x32 x33 (wrap64 (x34 + 1))))) else (none)) else (none)) else (provisolaw05_ring.l1 k x0 x3 x4 x5 x11 x12)
end
def provisolaw05_ring.f (k : Nat) (l0 : List (S35)) : Option (Bool) := provisolaw05_ring.l0 k l0 (l0.length : Int) 0
set_option maxHeartbeats 8000000 in
set_option maxRecDepth 100000 in
theorem provisolaw05_ring.calls (k : Nat) (A0 : Option Addr) (c0 : Nat) (l0 : List (S35)) (r : Bool) (w : World) (hr0 : Kd.C k35 w A0 l0.length l0) (hc0 : l0.length ≤ c0) (h : provisolaw05_ring.f k l0 = some r) :
    Calls Try.prog 17 #[.slice A0 l0.length c0] w fun e w' => e = .returned (.bool r) ∧ Below w.heap.size w w' := by
  have HR0 := Aside0.mk hr0
  have HC0 := Aside0.mk hc0
  clear hr0 hc0
  have HB := Aside0.mk (Below.refl w.heap.size w)
  have H : (provisolaw05_ring.l0 k l0 (l0.length : Int) 0) = some r := h
  clear h
  have H' := Aside0.mk H
  clear H
  go_enter Try.func17, Try.ntmps17
  go_wp2
  go_loopg [12] k (fun kq v12 w' => ∃ (x12_1 : Int), v12 = .int .i64 x12_1 ∧ Aside0 (provisolaw05_ring.l0 kq l0 (l0.length : Int) x12_1 = some r) ∧ Aside0 (kq ≤ k) ∧ Aside0 (Below w.heap.size w w'))
  case atStart => exact ⟨(0), (by first | rfl | (simp; done) | (simp [*]; done)), H', ⟨Nat.le_refl _⟩, ⟨by repeat (first | (with_reducible first | exact HB.out | apply below_alloc | apply pw_below_drewN | apply below_drew1) | exact HB.out)⟩⟩
  case round =>
    clear H'
    try clear c1
    obtain ⟨x12_1, rfl, HA, HK1, HB⟩ := hrel
    cases gk with
    | zero => exact absurd HA.out (by simp [provisolaw05_ring.l0])
    | succ k1 =>
      have H := HA.out
      clear HA
      simp only [provisolaw05_ring.l0] at H
      by_cases c2 : x12_1 < (l0.length : Int)
      · rw [if_pos c2] at H
        have c2b0 : decide (x12_1 < (l0.length : Int)) = true := decide_eq_true c2
        clear c2
        by_cases c3 : 0 ≤ (l0.length : Int)
        · rw [if_pos c3] at H
          have c3b0 := eq_true c3
          have c3b1 : decide (0 ≤ (l0.length : Int)) = true := decide_eq_true c3
          clear c3
          by_cases c4 : ((l0.length : Int) : Int).toNat ≤ 281474976710656
          · rw [if_pos c4] at H
            have c4b0 := eq_true c4
            have c4b1 : decide (((l0.length : Int) : Int).toNat ≤ 281474976710656) = true := decide_eq_true c4
            clear c4
            obtain ⟨y175, hy175⟩ : ∃ y_ : List Bool, y_ = (List.replicate ((l0.length : Int) : Int).toNat false) := ⟨_, rfl⟩
            replace H : (provisolaw05_ring.l1 k1 l0 x12_1 y175 (([x12_1] : List Int)) (l0.length : Int) x12_1) = some r := by first | (rw [hy175]; with_reducible exact H) | (have H2_ := (Option.bind_some _ _).symm.trans H; rw [hy175]; with_reducible exact H2_) | (have H2_ := (Option.bind_some _ _).symm.trans H; with_reducible exact H2_) | with_reducible exact H | (rw [hy175]; exact H) | exact H
            have Ny175 := Aside0.mk hy175
            clear hy175
            obtain ⟨y178, hy178⟩ : ∃ y_ : List Int, y_ = (([x12_1] : List Int)) := ⟨_, rfl⟩
            replace H : (provisolaw05_ring.l1 k1 l0 x12_1 y175 y178 (l0.length : Int) x12_1) = some r := by first | (rw [hy178]; with_reducible exact H) | (have H2_ := (Option.bind_some _ _).symm.trans H; rw [hy178]; with_reducible exact H2_) | (have H2_ := (Option.bind_some _ _).symm.trans H; with_reducible exact H2_) | with_reducible exact H | (rw [hy178]; exact H) | exact H
            have Ny178 := Aside0.mk hy178
            clear hy178
            have H' := Aside0.mk H
            clear H
            go_wp2_with (first | ((with_reducible refine gate_dst (N := 17) rfl ?_); refine Kd.R_make Kd.bool _ 4 rfl (N := 17) rfl 71 _ _ rfl (l0.length : Int) rfl rfl Try.underlying71 (.bool false) 1 info4 rfl (by decide) (by omega) false (ok := fun _ => True) (okp := fun _ => True) rfl (fun _ hk => hk) trivial (of_decide_eq_true (by first | (with_reducible assumption) | assumption)) (Nat.le_trans (Nat.mul_le_mul_right _ (of_decide_eq_true (by first | (with_reducible assumption) | assumption) : (l0.length : Int).toNat ≤ 281474976710656)) (by omega)) (Below.refl _ _) (Nat.le_refl _) ?_; intro v176 w5 ho6 hb hg_ hnew_; clear hg_ hnew_; (first | rw [← Ny175.out] at ho6 | (simp only [Int.reduceToNat] at ho6; rw [← Ny175.out] at ho6)); have n0_ := Aside0.mk (Kd.R_lower ho6 (below_size (by repeat (first | (with_reducible first | exact HB.out | apply below_alloc | apply pw_below_drewN | apply below_drew1) | exact HB.out)))); have n1_ := Aside0.mk (below_step (by repeat (first | (with_reducible first | exact HB.out | apply below_alloc | apply pw_below_drewN | apply below_drew1) | exact HB.out)) hb); clear HB; have HO177 := n0_; have HB := n1_; clear n0_ n1_; clear hb ho6) | ((with_reducible refine gate_dst (N := 19) rfl ?_); refine Kd.R_lit (Kd.int .i64) _ 3 ?hg (N := 19) ?hd (xs := ([x12_1] : List Int)) (inner := [.int .i64 x12_1]) (ok := fun _ => True) (okp := fun _ => True) ?hr ?hp (fun _ hk => hk) trivial (Below.refl _ _) (Nat.le_refl _) (by simp) ?_; (case hd => rfl); (case hg => rfl); (case hr => first | (go_simp; done) | (go_simp; rfl)); (case hp => exact (Reps.one (show Kd.M (Kd.int .i64) _ _ _ x12_1 [.int .i64 x12_1] from rfl) (Reps.none _ _))); intro v179 w7 ho8 hb hg_ hnew_; clear hg_ hnew_; (first | rw [← Ny178.out] at ho8 | (simp only [Int.reduceToNat] at ho8; rw [← Ny178.out] at ho8)); have n0_ := Aside0.mk (Kd.R_below (by (with_reducible repeat (first | apply Kd.R_alloc | apply Kd.R_drewN | apply Kd.R_drew)); exact HO177.out) hb); have n1_ := Aside0.mk (Kd.R_lower ho8 (below_size (by repeat (first | (with_reducible first | exact HB.out | apply below_alloc | apply pw_below_drewN | apply below_drew1) | exact HB.out)))); have n2_ := Aside0.mk (below_step (by repeat (first | (with_reducible first | exact HB.out | apply below_alloc | apply pw_below_drewN | apply below_drew1) | exact HB.out)) hb); clear HO177; clear HB; have HO177 := n0_; have HO180 := n1_; have HB := n2_; clear n0_ n1_ n2_; clear hb ho8))
            go_loopg [5] k1 (fun kq v5 w' => ∃ (x4_2 : List Bool) (x5_2 : List Int), Aside0 (provisolaw05_ring.l1 kq l0 x12_1 x4_2 x5_2 (l0.length : Int) x12_1 = some r) ∧ Aside0 (kq ≤ k1) ∧ Aside0 (Kd.R Kd.bool 4 w' w.heap.size (fun _ => True) v176 x4_2) ∧ Aside0 (Kd.Q (Kd.int .i64) 3 w' w.heap.size (fun _ => True) v5 x5_2) ∧ Aside0 (Below w.heap.size w w'))
            case atStart => exact ⟨(y175), (y178), H', ⟨Nat.le_refl _⟩, ⟨by (with_reducible repeat (first | apply Kd.R_alloc | apply Kd.R_drewN | apply Kd.R_drew)); exact HO177.out⟩, ⟨Kd.Q_of_R (by (with_reducible repeat (first | apply Kd.R_alloc | apply Kd.R_drewN | apply Kd.R_drew)); exact HO180.out)⟩, ⟨by repeat (first | (with_reducible first | exact HB.out | apply below_alloc | apply pw_below_drewN | apply below_drew1) | exact HB.out)⟩⟩
            case round =>
              clear H'
              try clear c1
              try clear c2
              try clear c2b0
              try clear p2
              try clear c3
              try clear c3b0
              try clear c3b1
              try clear c4
              try clear c4b0
              try clear c4b1
              obtain ⟨x4_2, x5_2, HA, HK2, HO_4, HO_5, HB⟩ := hrel
              cases gk with
              | zero => exact absurd HA.out (by simp [provisolaw05_ring.l1])
              | succ k2 =>
                have H := HA.out
                clear HA
                simp only [provisolaw05_ring.l1] at H
                by_cases c9 : (x5_2.length : Int) > 0
                · rw [if_pos c9] at H
                  have c9b0 : decide (0 < (x5_2.length : Int)) = true := decide_eq_true c9
                  have c9b1 : decide (0 < x5_2.length) = true := decide_eq_true (by omega)
                  clear c9
                  by_cases c10 : 0 < (x5_2.length : Int)
                  · rw [if_pos c10] at H
                    have c10b0 : decide (0 < (x5_2.length : Int)) = true := decide_eq_true c10
                    have c10b1 : decide (0 < x5_2.length) = true := decide_eq_true (by omega)
                    clear c10
                    by_cases c11 : 1 ≤ (x5_2.length : Int)
                    · rw [if_pos c11] at H
                      have c11b0 := eq_true c11
                      have c11b1 : decide (1 ≤ (x5_2.length : Int)) = true := decide_eq_true c11
                      clear c11
                      obtain ⟨y183, hy183⟩ : ∃ y_ : List Int, y_ = (x5_2.drop (1 : Int).toNat) := ⟨_, rfl⟩
                      replace H : (if 0 ≤ (rd x5_2 0) then (if (rd x5_2 0) < (l0.length : Int) then (provisolaw05_ring.l2 k2 l0 x12_1 x4_2 y183 (l0.length : Int) x12_1 ((rd_T35 l0 (rd x5_2 0)).f2) (((rd_T35 l0 (rd x5_2 0)).f2).length : Int) 0) else (none)) else (none)) = some r := by first | (rw [hy183]; with_reducible exact H) | (have H2_ := (Option.bind_some _ _).symm.trans H; rw [hy183]; with_reducible exact H2_) | (have H2_ := (Option.bind_some _ _).symm.trans H; with_reducible exact H2_) | with_reducible exact H | (rw [hy183]; exact H) | exact H
                      have Ny183 := Aside0.mk hy183
                      clear hy183
                      by_cases c12 : 0 ≤ (rd x5_2 0)
                      · rw [if_pos c12] at H
                        have c12b0 : decide (0 ≤ (rd x5_2 0)) = true := decide_eq_true c12
                        clear c12
                        by_cases c13 : (rd x5_2 0) < (l0.length : Int)
                        · rw [if_pos c13] at H
                          have c13b0 : decide ((rd x5_2 0) < (l0.length : Int)) = true := decide_eq_true c13
                          clear c13
                          have H' := Aside0.mk H
                          clear H
                          obtain ⟨Ao14, co14, eo14, _⟩ := Kd.Q_slice HO_5.out
                          subst eo14
                          have p182 : 0 ≤ (0 : Int) := (by omega)
                          have q182 : 0 < (x5_2.length : Int) := of_decide_eq_true (by first | (with_reducible assumption) | assumption)
                          obtain ⟨ad182, e182, hx182_0⟩ := Kd.at_int (Kd.Q_reads' HO_5.out).2.2 0 p182 q182
                          cases e182
                          have qi182 : (0 < x5_2.length) = True := eq_true (by omega)
                          (try rw [show ((0 : Int)).toNat = 0 from rfl] at hx182_0)
                          (try rw [Addr.add_zero'] at hx182_0)
                          replace p182 := eq_true p182
                          replace q182 := eq_true q182
                          have q15 : (1 : Int) ≤ ((x5_2.length : Int) : Int) := of_decide_eq_true (by first | (with_reducible assumption) | assumption)
                          obtain ⟨i015, hi015, _, hsz15, _⟩ := info_parts info3
                          have hcut15 := cut_from (P := Try.prog) 27 3 .i64 Try.underlying27 hi015 1 hsz15 (some ad182) x5_2.length co14 1 (by omega) q15
                          have hr15 := Kd.Q_drop (k := (1 : Int).toNat) HO_5.out (by omega)
                          obtain ⟨A15, hA15⟩ : ∃ A1, A1 = (if co14 = (1 : Int).toNat then (some ad182) else ((some ad182) : Option Addr).map (·.add ((1 : Int).toNat * 1))) := ⟨_, rfl⟩
                          obtain ⟨c15, hc15⟩ : ∃ c1, c1 = co14 - (1 : Int).toNat := ⟨_, rfl⟩
                          have hy15 : y183.length = x5_2.length - (1 : Int).toNat := (by rw [Ny183.out, List.length_drop])
                          rw [← Ny183.out] at hr15
                          rw [← hy15, ← hA15, ← hc15] at hcut15
                          replace hr15 : Kd.Q (Kd.int .i64) 3 wr w.heap.size (fun _ => True) (.slice A15 y183.length c15) y183 := (by rw [hA15, hc15, hy15]; exact hr15)
                          have HE15 : Aside0 ((Value.slice A15 y183.length c15).ownBlock = (.slice (some ad182) x5_2.length co14 : Value).ownBlock) := ⟨by rw [hA15]; split <;> (cases ((some ad182) : Option Addr) <;> rfl)⟩
                          clear hy15 hi015 hsz15 HO_5 hA15 hc15
                          have HO185 := Aside0.mk hr15
                          clear hr15
                          replace q15 := eq_true q15
                          have p186 : 0 ≤ ((rd x5_2 0) : Int) := of_decide_eq_true (by first | (with_reducible assumption) | assumption)
                          have q186 : (rd x5_2 0) < (l0.length : Int) := of_decide_eq_true (by first | (with_reducible assumption) | assumption)
                          obtain ⟨ad186, A186_2, c186_2, e186, hx186_0, hx186_1, hx186_2, hl186_2, hi186_2⟩ := at_T35 HR0.out (rd x5_2 0) p186 q186
                          cases e186
                          replace hx186_0 := (HB.out.cell (World.block_lt_of_cell? w _ hx186_0)).trans hx186_0
                          replace hx186_1 := (HB.out.cell (World.block_lt_of_cell? w _ hx186_1)).trans hx186_1
                          replace hx186_2 := (HB.out.cell (World.block_lt_of_cell? w _ hx186_2)).trans hx186_2
                          have HR186_2 := Aside0.mk hi186_2
                          have HC186_2 := Aside0.mk hl186_2
                          clear hi186_2 hl186_2
                          replace p186 := eq_true p186
                          replace q186 := eq_true q186
                          go_wp2
                          go_loopg [5, 34] k2 (fun kq v5 v34 w' => ∃ (x4_3 : List Bool) (x5_3 : List Int) (x34_3 : Int), v34 = .int .i64 x34_3 ∧ Aside0 (provisolaw05_ring.l2 kq l0 x12_1 x4_3 x5_3 (l0.length : Int) x12_1 ((rd_T35 l0 (rd x5_2 0)).f2) (((rd_T35 l0 (rd x5_2 0)).f2).length : Int) x34_3 = some r) ∧ Aside0 (kq ≤ k2) ∧ Aside0 (Kd.R Kd.bool 4 w' w.heap.size (fun _ => True) v176 x4_3) ∧ Aside0 (Kd.Q (Kd.int .i64) 3 w' w.heap.size (fun _ => True) v5 x5_3) ∧ Aside0 (Below w.heap.size w w'))
                          case atStart => exact ⟨(x4_2), (y183), (0), (by first | rfl | (simp; done) | (simp [*]; done)), H', ⟨Nat.le_refl _⟩, ⟨by (with_reducible repeat (first | apply Kd.R_alloc | apply Kd.R_drewN | apply Kd.R_drew)); exact HO_4.out⟩, ⟨by (with_reducible repeat (first | apply Kd.Q_alloc | apply Kd.Q_drewN | apply Kd.Q_drew)); exact HO185.out⟩, ⟨by repeat (first | (with_reducible first | exact HB.out | apply below_alloc | apply pw_below_drewN | apply below_drew1) | exact HB.out)⟩⟩
                          case round =>
                            clear H'
                            try clear c1
                            try clear p1
                            try clear q1
                            try clear hx1
                            try clear qi1
                            try clear c2
                            try clear c2b0
                            try clear p2
                            try clear c3
                            try clear c3b0
                            try clear c3b1
                            try clear c4
                            try clear c4b0
                            try clear c4b1
                            try clear c9
                            try clear c9b0
                            try clear c9b1
                            try clear c10
                            try clear c10b0
                            try clear c10b1
                            try clear c11
                            try clear c11b0
                            try clear c11b1
                            try clear c12
                            try clear c12b0
                            try clear c13
                            try clear c13b0
                            try clear c15
                            try clear q15
                            try clear hx182_0
                            try clear hx186_0
                            try clear hx186_1
                            try clear hx186_2
                            try clear p182
                            try clear p186
                            try clear p2
                            try clear q15
                            try clear q182
                            try clear q186
                            obtain ⟨x4_3, x5_3, x34_3, rfl, HA, HK3, HO_4, HO_5, HB⟩ := hrel
                            cases gk with
                            | zero => exact absurd HA.out (by simp [provisolaw05_ring.l2])
                            | succ k3 =>
                              have H := HA.out
                              clear HA
                              simp only [provisolaw05_ring.l2] at H
                              by_cases c16 : x34_3 < (((rd_T35 l0 (rd x5_2 0)).f2).length : Int)
                              · rw [if_pos c16] at H
                                have c16b0 : decide (x34_3 < (((rd_T35 l0 (rd x5_2 0)).f2).length : Int)) = true := decide_eq_true c16
                                clear c16
                                by_cases c17 : 0 ≤ x34_3
                                · rw [if_pos c17] at H
                                  have c17b0 : decide (0 ≤ x34_3) = true := decide_eq_true c17
                                  clear c17
                                  by_cases c18 : x34_3 < (((rd_T35 l0 (rd x5_2 0)).f2).length : Int)
                                  · rw [if_pos c18] at H
                                    have c18b0 : decide (x34_3 < (((rd_T35 l0 (rd x5_2 0)).f2).length : Int)) = true := decide_eq_true c18
                                    clear c18
                                    replace H := Option.bind_eq_some_iff.mp H
                                    obtain ⟨t188, A190, H⟩ := H
                                    replace H : (if t188 ≥ 0 then (if 0 ≤ t188 then (if t188 < (x4_3.length : Int) then (if rdOf false x4_3 t188 = true then (provisolaw05_ring.l2 k3 l0 x12_1 x4_3 x5_3 (l0.length : Int) x12_1 ((rd_T35 l0 (rd x5_2 0)).f2) (((rd_T35 l0 (rd x5_2 0)).f2).length : Int) (wrap64 (x34_3 + 1))) else (if x5_3.length < 17592186044416 then (provisolaw05_ring.l2 k3 l0 x12_1 (x4_3.set (t188 : Int).toNat true) (x5_3 ++ [t188]) (l0.length : Int) x12_1 ((rd_T35 l0 (rd x5_2 0)).f2) (((rd_T35 l0 (rd x5_2 0)).f2).length : Int) (wrap64 (x34_3 + 1))) else (none))) else (none)) else (none)) else (provisolaw05_ring.l2 k3 l0 x12_1 x4_3 x5_3 (l0.length : Int) x12_1 ((rd_T35 l0 (rd x5_2 0)).f2) (((rd_T35 l0 (rd x5_2 0)).f2).length : Int) (wrap64 (x34_3 + 1)))) = some r := H
                                    have A19 := Aside0.mk A190
                                    clear A190
                                    by_cases c20 : t188 ≥ 0
                                    · rw [if_pos c20] at H
                                      have c20b0 : decide (0 ≤ t188) = true := decide_eq_true c20
                                      clear c20
                                      by_cases c21 : 0 ≤ t188
                                      · rw [if_pos c21] at H
                                        have c21b0 : decide (0 ≤ t188) = true := decide_eq_true c21
                                        clear c21
                                        by_cases c22 : t188 < (x4_3.length : Int)
                                        · rw [if_pos c22] at H
                                          have c22b0 : decide (t188 < (x4_3.length : Int)) = true := decide_eq_true c22
                                          clear c22
                                          obtain ⟨bq23, hbq23⟩ : ∃ b_ : Bool, b_ = (rdOf false x4_3 t188) := ⟨_, rfl⟩
                                          replace H : (if bq23 = true then (provisolaw05_ring.l2 k3 l0 x12_1 x4_3 x5_3 (l0.length : Int) x12_1 ((rd_T35 l0 (rd x5_2 0)).f2) (((rd_T35 l0 (rd x5_2 0)).f2).length : Int) (wrap64 (x34_3 + 1))) else (if x5_3.length < 17592186044416 then (provisolaw05_ring.l2 k3 l0 x12_1 (x4_3.set (t188 : Int).toNat true) (x5_3 ++ [t188]) (l0.length : Int) x12_1 ((rd_T35 l0 (rd x5_2 0)).f2) (((rd_T35 l0 (rd x5_2 0)).f2).length : Int) (wrap64 (x34_3 + 1))) else (none))) = some r := by rw [← hbq23] at H; exact H
                                          have Nbq23 := Aside0.mk hbq23
                                          clear hbq23
                                          by_cases c24 : bq23 = true
                                          · subst c24
                                            have H1 : (provisolaw05_ring.l2 k3 l0 x12_1 x4_3 x5_3 (l0.length : Int) x12_1 ((rd_T35 l0 (rd x5_2 0)).f2) (((rd_T35 l0 (rd x5_2 0)).f2).length : Int) (wrap64 (x34_3 + 1))) = some r := by rw [if_pos rfl] at H; exact H
                                            clear H
                                            have H := H1
                                            clear H1
                                            have H' := Aside0.mk H
                                            clear H
                                            have p187 : 0 ≤ (x34_3 : Int) := of_decide_eq_true (by first | (with_reducible assumption) | assumption)
                                            have q187 : x34_3 < (((rd_T35 l0 (rd x5_2 0)).f2).length : Int) := of_decide_eq_true (by first | (with_reducible assumption) | assumption)
                                            obtain ⟨ad187, e187, hx187_0⟩ := Kd.at_int HR186_2.out x34_3 p187 q187
                                            cases e187
                                            replace hx187_0 := (HB.out.cell (World.block_lt_of_cell? w _ hx187_0)).trans hx187_0
                                            replace p187 := eq_true p187
                                            replace q187 := eq_true q187
                                            go_wp2_with (first | ((with_reducible refine gate_callee (f := 19) rfl ?_); refine goesL_ (some 40) rfl rfl Try.func19 (by kernel_rfl) rfl #[.slice (some ad186) l0.length c0, .int .i64 (rd ((rd_T35 l0 (rd x5_2 0)).f2) x34_3)] rfl (by (try simp only [List.map_toArray, List.map_cons, List.map_nil]); first | done | rfl | (simp only [List.length_drop, List.length_take]; rfl)) ?_; (with_reducible refine (provisolaw05_from.calls k3 _ _ l0 (rd ((rd_T35 l0 (rd x5_2 0)).f2) x34_3) t188 _ ?side1 ?side2 A19.out).mono ?_); (case side1 => repeat (first | exact (Kd.C_below HR0.out HB.out) | (with_reducible refine Kd.C_alloc ?_ _) | (with_reducible refine Kd.C_drewN ?_ _) | (with_reducible refine Kd.C_drew ?_))); (case side2 => exact HC0.out); rintro e w25 ⟨rfl, hb⟩; refine ⟨_, rfl, ?_⟩; have n0_ := Aside0.mk (Kd.R_below (by (with_reducible repeat (first | apply Kd.R_alloc | apply Kd.R_drewN | apply Kd.R_drew)); exact HO_4.out) hb); have n1_ := Aside0.mk (Kd.Q_below (by (with_reducible repeat (first | apply Kd.Q_alloc | apply Kd.Q_drewN | apply Kd.Q_drew)); exact HO_5.out) hb); have n2_ := Aside0.mk (below_step (by repeat (first | (with_reducible first | exact HB.out | apply below_alloc | apply pw_below_drewN | apply below_drew1) | exact HB.out)) hb); clear HO_4; clear HO_5; clear HB; have HO_4 := n0_; have HO_5 := n1_; have HB := n2_; clear n0_ n1_ n2_; (try clear hb); (try clear hb2); (try clear hk); (try clear hi); obtain ⟨Ao26, co26, eo26⟩ := Kd.R_slice HO_4.out; subst eo26; have p189 : 0 ≤ (t188 : Int) := of_decide_eq_true (by first | (with_reducible assumption) | assumption); have q189 : t188 < (x4_3.length : Int) := of_decide_eq_true (by first | (with_reducible assumption) | assumption); obtain ⟨ad189, e189, hx189_0⟩ := Kd.at_bool (Kd.R_reads' HO_4.out).2.2 t188 p189 q189; (try rw [← Nbq23.out] at hx189_0); cases e189; replace p189 := eq_true p189; replace q189 := eq_true q189))
                                            go_roundg k3
                                            case measure => have := HK1.out; have := HK2.out; have := HK3.out; omega
                                            case rel => exact ⟨(x4_3), (x5_3), (wrap64 (x34_3 + 1)), (by first | rfl | (simp; done) | (simp [*]; done)), H', ⟨by have := HK1.out; have := HK2.out; have := HK3.out; omega⟩, ⟨by (with_reducible repeat (first | apply Kd.R_alloc | apply Kd.R_drewN | apply Kd.R_drew)); exact HO_4.out⟩, ⟨by (with_reducible repeat (first | apply Kd.Q_alloc | apply Kd.Q_drewN | apply Kd.Q_drew)); exact HO_5.out⟩, ⟨by repeat (first | (with_reducible first | exact HB.out | apply below_alloc | apply pw_below_drewN | apply below_drew1) | exact HB.out)⟩⟩
                                          · replace c24 := Bool.eq_false_iff.mpr c24
                                            subst c24
                                            have H1 : (if x5_3.length < 17592186044416 then (provisolaw05_ring.l2 k3 l0 x12_1 (x4_3.set (t188 : Int).toNat true) (x5_3 ++ [t188]) (l0.length : Int) x12_1 ((rd_T35 l0 (rd x5_2 0)).f2) (((rd_T35 l0 (rd x5_2 0)).f2).length : Int) (wrap64 (x34_3 + 1))) else (none)) = some r := by rw [if_neg (show ¬ (false = true) by decide)] at H; exact H
                                            clear H
                                            have H := H1
                                            clear H1
                                            obtain ⟨y190, hy190⟩ : ∃ y_ : List Bool, y_ = (x4_3.set (t188 : Int).toNat true) := ⟨_, rfl⟩
                                            replace H : (if x5_3.length < 17592186044416 then (provisolaw05_ring.l2 k3 l0 x12_1 y190 (x5_3 ++ [t188]) (l0.length : Int) x12_1 ((rd_T35 l0 (rd x5_2 0)).f2) (((rd_T35 l0 (rd x5_2 0)).f2).length : Int) (wrap64 (x34_3 + 1))) else (none)) = some r := by first | (rw [hy190]; with_reducible exact H) | (have H2_ := (Option.bind_some _ _).symm.trans H; rw [hy190]; with_reducible exact H2_) | (have H2_ := (Option.bind_some _ _).symm.trans H; with_reducible exact H2_) | with_reducible exact H | (rw [hy190]; exact H) | exact H
                                            have Ny190 := Aside0.mk hy190
                                            clear hy190
                                            by_cases c28 : x5_3.length < 17592186044416
                                            · rw [if_pos c28] at H
                                              have LMc28 := Aside0.mk c28
                                              clear c28
                                              obtain ⟨y191, hy191⟩ : ∃ y_ : List Int, y_ = (x5_3 ++ [t188]) := ⟨_, rfl⟩
                                              replace H : (provisolaw05_ring.l2 k3 l0 x12_1 y190 y191 (l0.length : Int) x12_1 ((rd_T35 l0 (rd x5_2 0)).f2) (((rd_T35 l0 (rd x5_2 0)).f2).length : Int) (wrap64 (x34_3 + 1))) = some r := by first | (rw [hy191]; with_reducible exact H) | (have H2_ := (Option.bind_some _ _).symm.trans H; rw [hy191]; with_reducible exact H2_) | (have H2_ := (Option.bind_some _ _).symm.trans H; with_reducible exact H2_) | with_reducible exact H | (rw [hy191]; exact H) | exact H
                                              have Ny191 := Aside0.mk hy191
                                              clear hy191
                                              have H' := Aside0.mk H
                                              clear H
                                              have p187 : 0 ≤ (x34_3 : Int) := of_decide_eq_true (by first | (with_reducible assumption) | assumption)
                                              have q187 : x34_3 < (((rd_T35 l0 (rd x5_2 0)).f2).length : Int) := of_decide_eq_true (by first | (with_reducible assumption) | assumption)
                                              obtain ⟨ad187, e187, hx187_0⟩ := Kd.at_int HR186_2.out x34_3 p187 q187
                                              cases e187
                                              replace hx187_0 := (HB.out.cell (World.block_lt_of_cell? w _ hx187_0)).trans hx187_0
                                              replace p187 := eq_true p187
                                              replace q187 := eq_true q187
                                              go_wp2_with (first | ((with_reducible refine gate_callee (f := 19) rfl ?_); refine goesL_ (some 40) rfl rfl Try.func19 (by kernel_rfl) rfl #[.slice (some ad186) l0.length c0, .int .i64 (rd ((rd_T35 l0 (rd x5_2 0)).f2) x34_3)] rfl (by (try simp only [List.map_toArray, List.map_cons, List.map_nil]); first | done | rfl | (simp only [List.length_drop, List.length_take]; rfl)) ?_; (with_reducible refine (provisolaw05_from.calls k3 _ _ l0 (rd ((rd_T35 l0 (rd x5_2 0)).f2) x34_3) t188 _ ?side1 ?side2 A19.out).mono ?_); (case side1 => repeat (first | exact (Kd.C_below HR0.out HB.out) | (with_reducible refine Kd.C_alloc ?_ _) | (with_reducible refine Kd.C_drewN ?_ _) | (with_reducible refine Kd.C_drew ?_))); (case side2 => exact HC0.out); rintro e w29 ⟨rfl, hb⟩; refine ⟨_, rfl, ?_⟩; have n0_ := Aside0.mk (Kd.R_below (by (with_reducible repeat (first | apply Kd.R_alloc | apply Kd.R_drewN | apply Kd.R_drew)); exact HO_4.out) hb); have n1_ := Aside0.mk (Kd.Q_below (by (with_reducible repeat (first | apply Kd.Q_alloc | apply Kd.Q_drewN | apply Kd.Q_drew)); exact HO_5.out) hb); have n2_ := Aside0.mk (below_step (by repeat (first | (with_reducible first | exact HB.out | apply below_alloc | apply pw_below_drewN | apply below_drew1) | exact HB.out)) hb); clear HO_4; clear HO_5; clear HB; have HO_4 := n0_; have HO_5 := n1_; have HB := n2_; clear n0_ n1_ n2_; (try clear hb); (try clear hb2); (try clear hk); (try clear hi); obtain ⟨Ao30, co30, eo30⟩ := Kd.R_slice HO_4.out; subst eo30; have p189 : 0 ≤ (t188 : Int) := of_decide_eq_true (by first | (with_reducible assumption) | assumption); have q189 : t188 < (x4_3.length : Int) := of_decide_eq_true (by first | (with_reducible assumption) | assumption); obtain ⟨ad189, e189, hx189_0⟩ := Kd.at_bool (Kd.R_reads' HO_4.out).2.2 t188 p189 q189; (try rw [← Nbq23.out] at hx189_0); cases e189; replace p189 := eq_true p189; replace q189 := eq_true q189; have p27 : 0 ≤ (t188 : Int) := of_decide_eq_true (by first | (with_reducible assumption) | assumption); have q27 : (t188 : Int) < ((x4_3.length : Int) : Int) := of_decide_eq_true (by first | (with_reducible assumption) | assumption); obtain ⟨go27, co27, eo27, gb27, gl27, cl27, HG27⟩ := Kd.R_form HO_4.out (by omega); (first | cases eo27 | (injection eo27 with ea_ en_ ec_; (first | subst ea_ | (injection ea_ with ea_; subst ea_)); subst ec_; clear en_)); have GB27 := Aside0.mk gb27; have GG27 := Aside0.mk HG27; clear gb27 gl27 HG27; (first | simp only [add_plain] at hx189_0 | skip); obtain ⟨hx27_0, hf27_0⟩ := Kd.R_celln false HO_4.out (t188 : Int) p27 q27; replace p27 := eq_true p27; replace q27 := eq_true q27; obtain ⟨hy31_, hz31_⟩ := Kd.R_celln false HO_4.out (t188 : Int) (of_decide_eq_true (by first | (with_reducible assumption) | assumption)) (of_decide_eq_true (by first | (with_reducible assumption) | assumption)); have HP31 := Kd.R_putg HO_4.out (t188 : Int) true) | ((with_reducible refine gate_store (t := 4) (p := 52) rfl ?_); refine store_event (t := 4) (p := 52) (v := ?vo_w32) (w1 := (w29.setCell ⟨go27, (t188 : Int).toNat, none⟩ (.bool true))) ?hg ?ho ?hn ?hr ?_; (case ho => rfl); (case hg => rfl); (case hn => rfl); (case hr => first | (go_simp; done) | (go_simp; rfl)); intro w32 hw; have hg : w29.grownBy w32 (some go27) := (by rw [hw]; exact HP31.2); have hp_ : Kd.R Kd.bool 4 w32 w.heap.size (fun _ => True) (.slice (some ⟨go27, 0, none⟩) x4_3.length co30) y190 := (by rw [hw, Ny190.out]; exact HP31.1); clear HP31; have n0_ := Aside0.mk (hp_); have n1_ := Aside0.mk (Kd.Q_over' (v := (.slice (some ⟨go27, 0, none⟩) x4_3.length co30)) (by (with_reducible repeat (first | apply Kd.Q_alloc | apply Kd.Q_drewN | apply Kd.Q_drew)); exact HO_5.out) (Kd.R_typed HO_4.out) (by decide) hg); have n2_ := Aside0.mk ((by rw [hw]; exact below_set (HB.out) GB27.out : Below w.heap.size w w32)); clear HO_4; clear HO_5; clear HB; have HO_4 := n0_; have HO_5 := n1_; have HB := n2_; clear n0_ n1_ n2_; clear hg hw hp_) | ((with_reducible refine gate_builtin (b := .append) (xs := #[.tmp 53, .tmp 55]) rfl ?_); at_builtin; refine Kd.Q_append (Kd.int .i64) (w0 := w) w.heap.size rfl (.tmp 53) (.tmp 55) 27 3 (.int .i64 0) 8 rfl Try.underlying27 info3 rfl (by decide) (by omega) u5 x5_3 t188 [.int .i64 t188] (fun _ => True) (fun _ => False) rfl rfl ?aP (fun _ hk => hk.elim) ?aF ?aO ?aB ?aS ?aL ?_; (case aP => exact rfl); (case aB => exact (by repeat (first | (with_reducible first | exact HB.out | apply below_alloc | apply pw_below_drewN | apply below_drew1) | exact HB.out))); (case aF => exact (fun _ _ => trivial)); (case aO => exact (by (with_reducible repeat (first | apply Kd.Q_alloc | apply Kd.Q_drewN | apply Kd.Q_drew)); exact HO_5.out)); (case aS => exact (below_size (by repeat (first | (with_reducible first | exact HB.out | apply below_alloc | apply pw_below_drewN | apply below_drew1) | exact HB.out)))); (case aL => have := LMc28.out; omega); intro v192 w33 ho hb hg hat; rw [← Ny191.out] at ho; have n0_ := Aside0.mk (Kd.R_over' (by (with_reducible repeat (first | apply Kd.R_alloc | apply Kd.R_drewN | apply Kd.R_drew)); exact HO_4.out) (Kd.Q_typed (by (with_reducible repeat (first | apply Kd.Q_alloc | apply Kd.Q_drewN | apply Kd.Q_drew)); exact HO_5.out)) (by decide) hg); have n1_ := Aside0.mk (hb); have n2_ := Aside0.mk (ho); clear HO_4; clear HB; clear HO_5; have HO_4 := n0_; have HB := n1_; have HO193 := n2_; clear n0_ n1_ n2_; clear ho hb hg hat))
                                              go_roundg k3
                                              case measure => have := HK1.out; have := HK2.out; have := HK3.out; omega
                                              case rel => exact ⟨(y190), (y191), (wrap64 (x34_3 + 1)), (by first | rfl | (simp; done) | (simp [*]; done)), H', ⟨by have := HK1.out; have := HK2.out; have := HK3.out; omega⟩, ⟨by (with_reducible repeat (first | apply Kd.R_alloc | apply Kd.R_drewN | apply Kd.R_drew)); exact HO_4.out⟩, ⟨by (with_reducible repeat (first | apply Kd.Q_alloc | apply Kd.Q_drewN | apply Kd.Q_drew)); exact HO193.out⟩, ⟨by repeat (first | (with_reducible first | exact HB.out | apply below_alloc | apply pw_below_drewN | apply below_drew1) | exact HB.out)⟩⟩
                                            · rw [if_neg c28] at H
                                              exact absurd H (by simp)
                                        · rw [if_neg c22] at H
                                          exact absurd H (by simp)
                                      · rw [if_neg c21] at H
                                        exact absurd H (by simp)
                                    · rw [if_neg c20] at H
                                      have c20b0 : decide (0 ≤ t188) = false := decide_eq_false c20
                                      clear c20
                                      have H' := Aside0.mk H
                                      clear H
                                      have p187 : 0 ≤ (x34_3 : Int) := of_decide_eq_true (by first | (with_reducible assumption) | assumption)
                                      have q187 : x34_3 < (((rd_T35 l0 (rd x5_2 0)).f2).length : Int) := of_decide_eq_true (by first | (with_reducible assumption) | assumption)
                                      obtain ⟨ad187, e187, hx187_0⟩ := Kd.at_int HR186_2.out x34_3 p187 q187
                                      cases e187
                                      replace hx187_0 := (HB.out.cell (World.block_lt_of_cell? w _ hx187_0)).trans hx187_0
                                      replace p187 := eq_true p187
                                      replace q187 := eq_true q187
                                      go_wp2_with (first | ((with_reducible refine gate_callee (f := 19) rfl ?_); refine goesL_ (some 40) rfl rfl Try.func19 (by kernel_rfl) rfl #[.slice (some ad186) l0.length c0, .int .i64 (rd ((rd_T35 l0 (rd x5_2 0)).f2) x34_3)] rfl (by (try simp only [List.map_toArray, List.map_cons, List.map_nil]); first | done | rfl | (simp only [List.length_drop, List.length_take]; rfl)) ?_; (with_reducible refine (provisolaw05_from.calls k3 _ _ l0 (rd ((rd_T35 l0 (rd x5_2 0)).f2) x34_3) t188 _ ?side1 ?side2 A19.out).mono ?_); (case side1 => repeat (first | exact (Kd.C_below HR0.out HB.out) | (with_reducible refine Kd.C_alloc ?_ _) | (with_reducible refine Kd.C_drewN ?_ _) | (with_reducible refine Kd.C_drew ?_))); (case side2 => exact HC0.out); rintro e w34 ⟨rfl, hb⟩; refine ⟨_, rfl, ?_⟩; have n0_ := Aside0.mk (Kd.R_below (by (with_reducible repeat (first | apply Kd.R_alloc | apply Kd.R_drewN | apply Kd.R_drew)); exact HO_4.out) hb); have n1_ := Aside0.mk (Kd.Q_below (by (with_reducible repeat (first | apply Kd.Q_alloc | apply Kd.Q_drewN | apply Kd.Q_drew)); exact HO_5.out) hb); have n2_ := Aside0.mk (below_step (by repeat (first | (with_reducible first | exact HB.out | apply below_alloc | apply pw_below_drewN | apply below_drew1) | exact HB.out)) hb); clear HO_4; clear HO_5; clear HB; have HO_4 := n0_; have HO_5 := n1_; have HB := n2_; clear n0_ n1_ n2_; (try clear hb); (try clear hb2); (try clear hk); (try clear hi)))
                                      go_roundg k3
                                      case measure => have := HK1.out; have := HK2.out; have := HK3.out; omega
                                      case rel => exact ⟨(x4_3), (x5_3), (wrap64 (x34_3 + 1)), (by first | rfl | (simp; done) | (simp [*]; done)), H', ⟨by have := HK1.out; have := HK2.out; have := HK3.out; omega⟩, ⟨by (with_reducible repeat (first | apply Kd.R_alloc | apply Kd.R_drewN | apply Kd.R_drew)); exact HO_4.out⟩, ⟨by (with_reducible repeat (first | apply Kd.Q_alloc | apply Kd.Q_drewN | apply Kd.Q_drew)); exact HO_5.out⟩, ⟨by repeat (first | (with_reducible first | exact HB.out | apply below_alloc | apply pw_below_drewN | apply below_drew1) | exact HB.out)⟩⟩
                                  · rw [if_neg c18] at H
                                    exact absurd H (by simp)
                                · rw [if_neg c17] at H
                                  exact absurd H (by simp)
                              · rw [if_neg c16] at H
                                have c16b0 : decide (x34_3 < (((rd_T35 l0 (rd x5_2 0)).f2).length : Int)) = false := decide_eq_false c16
                                clear c16
                                have H' := Aside0.mk H
                                clear H
                                go_wp2
                                go_roundg k3
                                case measure => have := HK1.out; have := HK2.out; have := HK3.out; omega
                                case rel => exact ⟨(x4_3), (x5_3), H', ⟨by have := HK1.out; have := HK2.out; have := HK3.out; omega⟩, ⟨by (with_reducible repeat (first | apply Kd.R_alloc | apply Kd.R_drewN | apply Kd.R_drew)); exact HO_4.out⟩, ⟨by (with_reducible repeat (first | apply Kd.Q_alloc | apply Kd.Q_drewN | apply Kd.Q_drew)); exact HO_5.out⟩, ⟨by repeat (first | (with_reducible first | exact HB.out | apply below_alloc | apply pw_below_drewN | apply below_drew1) | exact HB.out)⟩⟩
                        · rw [if_neg c13] at H
                          exact absurd H (by simp)
                      · rw [if_neg c12] at H
                        exact absurd H (by simp)
                    · rw [if_neg c11] at H
                      exact absurd H (by simp)
                  · rw [if_neg c10] at H
                    exact absurd H (by simp)
                · rw [if_neg c9] at H
                  have c9b0 : decide (0 < (x5_2.length : Int)) = false := decide_eq_false c9
                  have c9b1 : decide (0 < x5_2.length) = false := decide_eq_false (by omega)
                  clear c9
                  by_cases c35 : 0 ≤ x12_1
                  · rw [if_pos c35] at H
                    have c35b0 : decide (0 ≤ x12_1) = true := decide_eq_true c35
                    clear c35
                    by_cases c36 : x12_1 < (x4_2.length : Int)
                    · rw [if_pos c36] at H
                      have c36b0 : decide (x12_1 < (x4_2.length : Int)) = true := decide_eq_true c36
                      clear c36
                      obtain ⟨bq37, hbq37⟩ : ∃ b_ : Bool, b_ = (rdOf false x4_2 x12_1) := ⟨_, rfl⟩
                      replace H : (if bq37 = true then (some true) else (provisolaw05_ring.l0 k2 l0 (l0.length : Int) (wrap64 (x12_1 + 1)))) = some r := by rw [← hbq37] at H; exact H
                      have Nbq37 := Aside0.mk hbq37
                      clear hbq37
                      by_cases c38 : bq37 = true
                      · subst c38
                        have H1 : (some true) = some r := by rw [if_pos rfl] at H; exact H
                        clear H
                        have H := H1
                        clear H1
                        obtain rfl := Option.some.inj H
                        obtain ⟨Ao39, co39, eo39, _⟩ := Kd.Q_slice HO_5.out
                        subst eo39
                        obtain ⟨Ao40, co40, eo40⟩ := Kd.R_slice HO_4.out
                        subst eo40
                        have p181 : 0 ≤ (x12_1 : Int) := of_decide_eq_true (by first | (with_reducible assumption) | assumption)
                        have q181 : x12_1 < (x4_2.length : Int) := of_decide_eq_true (by first | (with_reducible assumption) | assumption)
                        obtain ⟨ad181, e181, hx181_0⟩ := Kd.at_bool (Kd.R_reads' HO_4.out).2.2 x12_1 p181 q181
                        (try rw [← Nbq37.out] at hx181_0)
                        cases e181
                        replace p181 := eq_true p181
                        replace q181 := eq_true q181
                        go_wp2
                        go_ret
                        exact ⟨by first | rfl | (simp [errW_none, errW_some] <;> rfl) | (simp [*, errW_none, errW_some] <;> rfl), by repeat (first | (with_reducible first | exact HB.out | apply below_alloc | apply pw_below_drewN | apply below_drew1) | exact HB.out)⟩
                      · replace c38 := Bool.eq_false_iff.mpr c38
                        subst c38
                        have H1 : (provisolaw05_ring.l0 k2 l0 (l0.length : Int) (wrap64 (x12_1 + 1))) = some r := by rw [if_neg (show ¬ (false = true) by decide)] at H; exact H
                        clear H
                        have H := H1
                        clear H1
                        have H' := Aside0.mk H
                        clear H
                        obtain ⟨Ao41, co41, eo41, _⟩ := Kd.Q_slice HO_5.out
                        subst eo41
                        obtain ⟨Ao42, co42, eo42⟩ := Kd.R_slice HO_4.out
                        subst eo42
                        have p181 : 0 ≤ (x12_1 : Int) := of_decide_eq_true (by first | (with_reducible assumption) | assumption)
                        have q181 : x12_1 < (x4_2.length : Int) := of_decide_eq_true (by first | (with_reducible assumption) | assumption)
                        obtain ⟨ad181, e181, hx181_0⟩ := Kd.at_bool (Kd.R_reads' HO_4.out).2.2 x12_1 p181 q181
                        (try rw [← Nbq37.out] at hx181_0)
                        cases e181
                        replace p181 := eq_true p181
                        replace q181 := eq_true q181
                        go_wp2
                        go_roundg k2
                        case measure => have := HK1.out; have := HK2.out; omega
                        case rel => exact ⟨(wrap64 (x12_1 + 1)), (by first | rfl | (simp; done) | (simp [*]; done)), H', ⟨by have := HK1.out; have := HK2.out; omega⟩, ⟨by repeat (first | (with_reducible first | exact HB.out | apply below_alloc | apply pw_below_drewN | apply below_drew1) | exact HB.out)⟩⟩
                    · rw [if_neg c36] at H
                      exact absurd H (by simp)
                  · rw [if_neg c35] at H
                    exact absurd H (by simp)
          · rw [if_neg c4] at H
            exact absurd H (by simp)
        · rw [if_neg c3] at H
          exact absurd H (by simp)
      · rw [if_neg c2] at H
        have c2b0 : decide (x12_1 < (l0.length : Int)) = false := decide_eq_false c2
        clear c2
        obtain rfl := Option.some.inj H
        go_wp2
        go_ret
        exact ⟨by first | rfl | (simp [errW_none, errW_some] <;> rfl) | (simp [*, errW_none, errW_some] <;> rfl), by repeat (first | (with_reducible first | exact HB.out | apply below_alloc | apply pw_below_drewN | apply below_drew1) | exact HB.out)⟩

end Go.Proofs.Ytcffniaieegbgaa.P

end

section
namespace Go.Proofs.Ytcffniaieegbgaa.P
open Go.RowKit Go.Proofs.YtcffniaieegbgaaW.PrintWords Go.Proofs.YtcffniaieegbgaaW.PrintLast Go.Proofs.YtcffniaieegbgaaW.PrintMore
attribute [local go_sem] max2_int min2_int max_two min_two max_three min_three max_four min_four   -- for this text's walks alone
set_option linter.unusedVariables false
set_option linter.unusedSimpArgs false

mutual
def provisoref05_Reach.l0 : Nat → List (S46) → List Bool → List Int → List Int → Option (List Int)
  | 0, _, _, _, _ => none
  | k + 1, x0, x5, x7, x8 => if (x7.length : Int) > 0 then (if 0 < (x7.length : Int) then (if 1 ≤ (x7.length : Int) then (if 0 ≤ (rd x7 0) then (if (rd x7 0) < (x0.length : Int) then ((provisoref05_put.f k x8 ((rd_T46 x0 (rd x7 0)).f0)).bind fun t207 => ((provisoref05_Next.f k ((rd_T46 x0 (rd x7 0)).f0) ((rd_T46 x0 (rd x7 0)).f1) ((rd_T46 x0 (rd x7 0)).f2) ((rd_T46 x0 (rd x7 0)).f3)).bind fun t211 => (provisoref05_Reach.l1 k x0 x5 (x7.drop (1 : Int).toNat) t207 t211 (t211.length : Int) 0))) else (none)) else (none)) else (none)) else (none)) else (some x8)
def provisoref05_Reach.l1 : Nat → List (S46) → List Bool → List Int → List Int → List Int → Int → Int → Option (List Int)
  | 0, _, _, _, _, _, _, _ => none
  | k + 1, x0, x5, x7, x8, x44, x45, x46 => if x46 < x45 then (if 0 ≤ x46 then (if x46 < (x44.length : Int) then ((provisoref05_Place.f k x0 (rd x44 x46)).bind fun t215 => (if t215 ≥ 0 then (if 0 ≤ t215 then (if t215 < (x5.length : Int) then (if rdOf false x5 t215 = true then (provisoref05_Reach.l1 k x0 x5 x7 x8 x44 x45 (wrap64 (x46 + 1))) else (if x7.length < 17592186044416 then (provisoref05_Reach.l1 k x0 (x5.set (t215 : Int).toNat true) (x7 ++ [t215]) x8 x44 x45 (wrap64 (x46 + 1))) else (none))) else (none)) else (none)) else (provisoref05_Reach.l1 k x0 x5 x7 x8 x44 x45 (wrap64 (x46 + 1))))) else (none)) else (none)) else (provisoref05_Reach.l0 k x0 x5 x7 x8)
end
def provisoref05_Reach.f (k : Nat) (l0 : List (S46)) (a1 : Int) : Option (List Int) := if 0 ≤ (l0.length : Int) then (if ((l0.length : Int) : Int).toNat ≤ 281474976710656 then ((some (List.replicate ((l0.length : Int) : Int).toNat false : List Bool)).bind fun y194 => ((provisoref05_Place.f k l0 a1).bind fun t197 => (if t197 < 0 then (some ([] : List Int)) else (if 0 ≤ t197 then (if t197 < (y194.length : Int) then (provisoref05_Reach.l0 k l0 (y194.set (t197 : Int).toNat true) (([t197] : List Int)) ([] : List Int)) else (none)) else (none))))) else (none)) else (none)
set_option maxHeartbeats 8000000 in
set_option maxRecDepth 100000 in
theorem provisoref05_Reach.calls (k : Nat) (A0 : Option Addr) (c0 : Nat) (l0 : List (S46)) (a1 : Int) (r : List Int) (w : World) (hr0 : Kd.C k46 w A0 l0.length l0) (hc0 : l0.length ≤ c0) (h : provisoref05_Reach.f k l0 a1 = some r) :
    Calls Try.prog 18 #[.slice A0 l0.length c0, .int .i64 a1] w fun e w' => ∃ v0_ : Value, e = .returned (v0_) ∧ Kd.R (Kd.int .i64) 3 w' w.heap.size (fun _ => True) v0_ r ∧ Below w.heap.size w w' := by
  have hu46 := Try.underlying46
  have HR0 := Aside0.mk hr0
  have HC0 := Aside0.mk hc0
  clear hr0 hc0
  have HB := Aside0.mk (Below.refl w.heap.size w)
  have H : (if 0 ≤ (l0.length : Int) then (if ((l0.length : Int) : Int).toNat ≤ 281474976710656 then ((some (List.replicate ((l0.length : Int) : Int).toNat false : List Bool)).bind fun y194 => ((provisoref05_Place.f k l0 a1).bind fun t197 => (if t197 < 0 then (some ([] : List Int)) else (if 0 ≤ t197 then (if t197 < (y194.length : Int) then (provisoref05_Reach.l0 k l0 (y194.set (t197 : Int).toNat true) (([t197] : List Int)) ([] : List Int)) else (none)) else (none))))) else (none)) else (none)) = some r := h
  clear h
  by_cases c3 : 0 ≤ (l0.length : Int)
  · rw [if_pos c3] at H
    have c3b0 := eq_true c3
    have c3b1 : decide (0 ≤ (l0.length : Int)) = true := decide_eq_true c3
    clear c3
    by_cases c4 : ((l0.length : Int) : Int).toNat ≤ 281474976710656
    · rw [if_pos c4] at H
      have c4b0 := eq_true c4
      have c4b1 : decide (((l0.length : Int) : Int).toNat ≤ 281474976710656) = true := decide_eq_true c4
      clear c4
      obtain ⟨y194, hy194⟩ : ∃ y_ : List Bool, y_ = (List.replicate ((l0.length : Int) : Int).toNat false) := ⟨_, rfl⟩
      replace H : ((provisoref05_Place.f k l0 a1).bind fun t197 => (if t197 < 0 then (some ([] : List Int)) else (if 0 ≤ t197 then (if t197 < (y194.length : Int) then (provisoref05_Reach.l0 k l0 (y194.set (t197 : Int).toNat true) (([t197] : List Int)) ([] : List Int)) else (none)) else (none)))) = some r := by first | (rw [hy194]; with_reducible exact H) | (have H2_ := (Option.bind_some _ _).symm.trans H; rw [hy194]; with_reducible exact H2_) | (have H2_ := (Option.bind_some _ _).symm.trans H; with_reducible exact H2_) | with_reducible exact H | (rw [hy194]; exact H) | exact H
      have Ny194 := Aside0.mk hy194
      clear hy194
      replace H := Option.bind_eq_some_iff.mp H
      obtain ⟨t197, A50, H⟩ := H
      replace H : (if t197 < 0 then (some ([] : List Int)) else (if 0 ≤ t197 then (if t197 < (y194.length : Int) then (provisoref05_Reach.l0 k l0 (y194.set (t197 : Int).toNat true) (([t197] : List Int)) ([] : List Int)) else (none)) else (none))) = some r := H
      have A5 := Aside0.mk A50
      clear A50
      by_cases c6 : t197 < 0
      · rw [if_pos c6] at H
        have c6b0 : decide (t197 < 0) = true := decide_eq_true c6
        clear c6
        obtain rfl := Option.some.inj H
        go_enter Try.func18, Try.ntmps18
        go_wp2_with (first | ((with_reducible refine gate_dst (N := 14) rfl ?_); refine Kd.R_make Kd.bool _ 4 rfl (N := 14) rfl 71 _ _ rfl (l0.length : Int) rfl rfl Try.underlying71 (.bool false) 1 info4 rfl (by decide) (by omega) false (ok := fun _ => True) (okp := fun _ => True) rfl (fun _ hk => hk) trivial (of_decide_eq_true (by first | (with_reducible assumption) | assumption)) (Nat.le_trans (Nat.mul_le_mul_right _ (of_decide_eq_true (by first | (with_reducible assumption) | assumption) : (l0.length : Int).toNat ≤ 281474976710656)) (by omega)) (Below.refl _ _) (Nat.le_refl _) ?_; intro v195 w7 ho8 hb hg_ hnew_; clear hg_ hnew_; (first | rw [← Ny194.out] at ho8 | (simp only [Int.reduceToNat] at ho8; rw [← Ny194.out] at ho8)); have n0_ := Aside0.mk (Kd.R_lower ho8 (below_size (by repeat (first | (with_reducible first | exact HB.out | apply below_alloc | apply pw_below_drewN | apply below_drew1) | exact HB.out)))); have n1_ := Aside0.mk (below_step (by repeat (first | (with_reducible first | exact HB.out | apply below_alloc | apply pw_below_drewN | apply below_drew1) | exact HB.out)) hb); clear HB; have HO196 := n0_; have HB := n1_; clear n0_ n1_; clear hb ho8) | ((with_reducible refine gate_callee (f := 49) rfl ?_); refine goesL_ (some 17) rfl rfl Try.func49 (by kernel_rfl) rfl #[.slice A0 l0.length c0, .int .i64 a1] rfl (by (try simp only [List.map_toArray, List.map_cons, List.map_nil]); first | done | rfl | (simp only [List.length_drop, List.length_take]; rfl)) ?_; (with_reducible refine (provisoref05_Place.calls k _ _ l0 a1 t197 _ ?side1 ?side2 A5.out).mono ?_); (case side1 => repeat (first | exact (Kd.C_below HR0.out HB.out) | (with_reducible refine Kd.C_alloc ?_ _) | (with_reducible refine Kd.C_drewN ?_ _) | (with_reducible refine Kd.C_drew ?_))); (case side2 => exact HC0.out); rintro e w9 ⟨rfl, hb⟩; refine ⟨_, rfl, ?_⟩; have n0_ := Aside0.mk (Kd.R_below (by (with_reducible repeat (first | apply Kd.R_alloc | apply Kd.R_drewN | apply Kd.R_drew)); exact HO196.out) hb); have n1_ := Aside0.mk (below_step (by repeat (first | (with_reducible first | exact HB.out | apply below_alloc | apply pw_below_drewN | apply below_drew1) | exact HB.out)) hb); clear HO196; clear HB; have HO196 := n0_; have HB := n1_; clear n0_ n1_; (try clear hb); (try clear hb2); (try clear hk); (try clear hi)))
        go_ret
        exact ⟨_, by first | rfl | (simp [errW_none, errW_some] <;> rfl) | (simp [*, errW_none, errW_some] <;> rfl), by first | exact Kd.R_nil _ _ _ _ _ | exact Kd.N_nil _ _ _ _ _ | exact Kd.V_nil _ _ _ _ _ | exact Kd.Q_nil _ _ _ _ _ | exact Kd.S_nil _ _ _ _ _, by repeat (first | (with_reducible first | exact HB.out | apply below_alloc | apply pw_below_drewN | apply below_drew1) | exact HB.out)⟩
      · rw [if_neg c6] at H
        have c6b0 : decide (t197 < 0) = false := decide_eq_false c6
        clear c6
        obtain ⟨y198, hy198⟩ : ∃ y_ : List Int, y_ = (([t197] : List Int)) := ⟨_, rfl⟩
        replace H : (if 0 ≤ t197 then (if t197 < (y194.length : Int) then (provisoref05_Reach.l0 k l0 (y194.set (t197 : Int).toNat true) y198 ([] : List Int)) else (none)) else (none)) = some r := by first | (rw [hy198]; with_reducible exact H) | (have H2_ := (Option.bind_some _ _).symm.trans H; rw [hy198]; with_reducible exact H2_) | (have H2_ := (Option.bind_some _ _).symm.trans H; with_reducible exact H2_) | with_reducible exact H | (rw [hy198]; exact H) | exact H
        have Ny198 := Aside0.mk hy198
        clear hy198
        by_cases c10 : 0 ≤ t197
        · rw [if_pos c10] at H
          have c10b0 : decide (0 ≤ t197) = true := decide_eq_true c10
          clear c10
          by_cases c11 : t197 < (y194.length : Int)
          · rw [if_pos c11] at H
            have c11b0 : decide (t197 < (y194.length : Int)) = true := decide_eq_true c11
            clear c11
            obtain ⟨y201, hy201⟩ : ∃ y_ : List Bool, y_ = (y194.set (t197 : Int).toNat true) := ⟨_, rfl⟩
            replace H : (provisoref05_Reach.l0 k l0 y201 y198 ([] : List Int)) = some r := by first | (rw [hy201]; with_reducible exact H) | (have H2_ := (Option.bind_some _ _).symm.trans H; rw [hy201]; with_reducible exact H2_) | (have H2_ := (Option.bind_some _ _).symm.trans H; with_reducible exact H2_) | with_reducible exact H | (rw [hy201]; exact H) | exact H
            have Ny201 := Aside0.mk hy201
            clear hy201
            have H' := Aside0.mk H
            clear H
            go_enter Try.func18, Try.ntmps18
            go_wp2_with (first | ((with_reducible refine gate_dst (N := 14) rfl ?_); refine Kd.R_make Kd.bool _ 4 rfl (N := 14) rfl 71 _ _ rfl (l0.length : Int) rfl rfl Try.underlying71 (.bool false) 1 info4 rfl (by decide) (by omega) false (ok := fun _ => True) (okp := fun _ => True) rfl (fun _ hk => hk) trivial (of_decide_eq_true (by first | (with_reducible assumption) | assumption)) (Nat.le_trans (Nat.mul_le_mul_right _ (of_decide_eq_true (by first | (with_reducible assumption) | assumption) : (l0.length : Int).toNat ≤ 281474976710656)) (by omega)) (Below.refl _ _) (Nat.le_refl _) ?_; intro v195 w13 ho14 hb hg_ hnew_; clear hg_ hnew_; (first | rw [← Ny194.out] at ho14 | (simp only [Int.reduceToNat] at ho14; rw [← Ny194.out] at ho14)); have n0_ := Aside0.mk (Kd.R_lower ho14 (below_size (by repeat (first | (with_reducible first | exact HB.out | apply below_alloc | apply pw_below_drewN | apply below_drew1) | exact HB.out)))); have n1_ := Aside0.mk (below_step (by repeat (first | (with_reducible first | exact HB.out | apply below_alloc | apply pw_below_drewN | apply below_drew1) | exact HB.out)) hb); clear HB; have HO196 := n0_; have HB := n1_; clear n0_ n1_; clear hb ho14) | ((with_reducible refine gate_callee (f := 49) rfl ?_); refine goesL_ (some 17) rfl rfl Try.func49 (by kernel_rfl) rfl #[.slice A0 l0.length c0, .int .i64 a1] rfl (by (try simp only [List.map_toArray, List.map_cons, List.map_nil]); first | done | rfl | (simp only [List.length_drop, List.length_take]; rfl)) ?_; (with_reducible refine (provisoref05_Place.calls k _ _ l0 a1 t197 _ ?side1 ?side2 A5.out).mono ?_); (case side1 => repeat (first | exact (Kd.C_below HR0.out HB.out) | (with_reducible refine Kd.C_alloc ?_ _) | (with_reducible refine Kd.C_drewN ?_ _) | (with_reducible refine Kd.C_drew ?_))); (case side2 => exact HC0.out); rintro e w15 ⟨rfl, hb⟩; refine ⟨_, rfl, ?_⟩; have n0_ := Aside0.mk (Kd.R_below (by (with_reducible repeat (first | apply Kd.R_alloc | apply Kd.R_drewN | apply Kd.R_drew)); exact HO196.out) hb); have n1_ := Aside0.mk (below_step (by repeat (first | (with_reducible first | exact HB.out | apply below_alloc | apply pw_below_drewN | apply below_drew1) | exact HB.out)) hb); clear HO196; clear HB; have HO196 := n0_; have HB := n1_; clear n0_ n1_; (try clear hb); (try clear hb2); (try clear hk); (try clear hi)) | ((with_reducible refine gate_dst (N := 21) rfl ?_); refine Kd.R_lit (Kd.int .i64) _ 3 ?hg (N := 21) ?hd (xs := ([t197] : List Int)) (inner := [.int .i64 t197]) (ok := fun _ => True) (okp := fun _ => True) ?hr ?hp (fun _ hk => hk) trivial (Below.refl _ _) (Nat.le_refl _) (by simp) ?_; (case hd => rfl); (case hg => rfl); (case hr => first | (go_simp; done) | (go_simp; rfl)); (case hp => exact (Reps.one (show Kd.M (Kd.int .i64) _ _ _ t197 [.int .i64 t197] from rfl) (Reps.none _ _))); intro v199 w16 ho17 hb hg_ hnew_; clear hg_ hnew_; (first | rw [← Ny198.out] at ho17 | (simp only [Int.reduceToNat] at ho17; rw [← Ny198.out] at ho17)); have n0_ := Aside0.mk (Kd.R_below (by (with_reducible repeat (first | apply Kd.R_alloc | apply Kd.R_drewN | apply Kd.R_drew)); exact HO196.out) hb); have n1_ := Aside0.mk (Kd.R_lower ho17 (below_size (by repeat (first | (with_reducible first | exact HB.out | apply below_alloc | apply pw_below_drewN | apply below_drew1) | exact HB.out)))); have n2_ := Aside0.mk (below_step (by repeat (first | (with_reducible first | exact HB.out | apply below_alloc | apply pw_below_drewN | apply below_drew1) | exact HB.out)) hb); clear HO196; clear HB; have HO196 := n0_; have HO200 := n1_; have HB := n2_; clear n0_ n1_ n2_; clear hb ho17; have p12 : 0 ≤ (t197 : Int) := of_decide_eq_true (by first | (with_reducible assumption) | assumption); have q12 : (t197 : Int) < ((y194.length : Int) : Int) := of_decide_eq_true (by first | (with_reducible assumption) | assumption); obtain ⟨go12, co12, eo12, gb12, gl12, cl12, HG12⟩ := Kd.R_form HO196.out (by omega); (first | cases eo12 | (injection eo12 with ea_ en_ ec_; (first | subst ea_ | (injection ea_ with ea_; subst ea_)); subst ec_; clear en_)); have GB12 := Aside0.mk gb12; have GG12 := Aside0.mk HG12; clear gb12 gl12 HG12; obtain ⟨hx12_0, hf12_0⟩ := Kd.R_celln false HO196.out (t197 : Int) p12 q12; replace p12 := eq_true p12; replace q12 := eq_true q12; obtain ⟨hy18_, hz18_⟩ := Kd.R_celln false HO196.out (t197 : Int) (of_decide_eq_true (by first | (with_reducible assumption) | assumption)) (of_decide_eq_true (by first | (with_reducible assumption) | assumption)); have HP18 := Kd.R_putg HO196.out (t197 : Int) true) | ((with_reducible refine gate_store (t := 4) (p := 24) rfl ?_); refine store_event (t := 4) (p := 24) (v := ?vo_w19) (w1 := (w16.setCell ⟨go12, (t197 : Int).toNat, none⟩ (.bool true))) ?hg ?ho ?hn ?hr ?_; (case ho => rfl); (case hg => rfl); (case hn => rfl); (case hr => first | (go_simp; done) | (go_simp; rfl)); intro w19 hw; have hg : w16.grownBy w19 (some go12) := (by rw [hw]; exact HP18.2); have hp_ : Kd.R Kd.bool 4 w19 w.heap.size (fun _ => True) (.slice (some ⟨go12, 0, none⟩) y194.length co12) y201 := (by rw [hw, Ny201.out]; exact HP18.1); clear HP18; have n0_ := Aside0.mk (hp_); have n1_ := Aside0.mk (Kd.R_over' (v := (.slice (some ⟨go12, 0, none⟩) y194.length co12)) (by (with_reducible repeat (first | apply Kd.R_alloc | apply Kd.R_drewN | apply Kd.R_drew)); exact HO200.out) (Kd.R_typed HO196.out) (by decide) hg); have n2_ := Aside0.mk ((by rw [hw]; exact below_set (HB.out) GB12.out : Below w.heap.size w w19)); clear HO196; clear HO200; clear HB; have HO196 := n0_; have HO200 := n1_; have HB := n2_; clear n0_ n1_ n2_; clear hg hw hp_))
            go_loopg [7, 8] k (fun kq v7 v8 w' => ∃ (x5_1 : List Bool) (x7_1 : List Int) (x8_1 : List Int), Aside0 (provisoref05_Reach.l0 kq l0 x5_1 x7_1 x8_1 = some r) ∧ Aside0 (kq ≤ k) ∧ Aside0 (Kd.R Kd.bool 4 w' w.heap.size (fun _ => True) (.slice (some ⟨go12, 0, none⟩) y194.length co12) x5_1) ∧ Aside0 (Kd.Q (Kd.int .i64) 3 w' w.heap.size (fun k_ => some k_ ≠ (v8 : Value).ownBlock) v7 x7_1) ∧ Aside0 (Kd.R (Kd.int .i64) 3 w' w.heap.size (fun k_ => some k_ ≠ (v7 : Value).ownBlock) v8 x8_1) ∧ Aside0 (Below w.heap.size w w'))
            case atStart => exact ⟨(y201), (y198), (([] : List Int)), H', ⟨Nat.le_refl _⟩, ⟨by (with_reducible repeat (first | apply Kd.R_alloc | apply Kd.R_drewN | apply Kd.R_drew)); exact HO196.out⟩, ⟨Kd.Q_of_R (by (with_reducible repeat (first | apply Kd.R_alloc | apply Kd.R_drewN | apply Kd.R_drew)); exact Kd.R_mono HO200.out (fun _ hk => (by simp [Value.ownBlock])))⟩, ⟨by first | exact Kd.R_nil _ _ _ _ _ | exact Kd.N_nil _ _ _ _ _ | exact Kd.V_nil _ _ _ _ _ | exact Kd.Q_nil _ _ _ _ _ | exact Kd.S_nil _ _ _ _ _⟩, ⟨by repeat (first | (with_reducible first | exact HB.out | apply below_alloc | apply pw_below_drewN | apply below_drew1) | exact HB.out)⟩⟩
            case round =>
              clear H'
              try clear c1
              try clear p1
              try clear q1
              try clear hx1
              try clear p2
              try clear c3
              try clear c3b0
              try clear c3b1
              try clear c4
              try clear c4b0
              try clear c4b1
              try clear c6
              try clear c6b0
              try clear c10
              try clear c10b0
              try clear c11
              try clear c11b0
              try clear p12
              try clear q12
              try clear hx12
              try clear hf12
              try clear c18
              try clear hx12_0
              try clear p12
              try clear q12
              obtain ⟨x5_1, x7_1, x8_1, HA, HK1, HO_5, HO_7, HO_8, HB⟩ := hrel
              have hl5_1 := (Kd.R_reads' HO_5.out).1
              rw [hl5_1] at HO_5
              (try simp only [hl5_1])
              (try simp only [hl5_1] at HO_7)
              (try simp only [hl5_1] at HO_8)
              cases gk with
              | zero => exact absurd HA.out (by simp [provisoref05_Reach.l0])
              | succ k1 =>
                have H := HA.out
                clear HA
                simp only [provisoref05_Reach.l0] at H
                by_cases c20 : (x7_1.length : Int) > 0
                · rw [if_pos c20] at H
                  have c20b0 : decide (0 < (x7_1.length : Int)) = true := decide_eq_true c20
                  have c20b1 : decide (0 < x7_1.length) = true := decide_eq_true (by omega)
                  clear c20
                  by_cases c21 : 0 < (x7_1.length : Int)
                  · rw [if_pos c21] at H
                    have c21b0 : decide (0 < (x7_1.length : Int)) = true := decide_eq_true c21
                    have c21b1 : decide (0 < x7_1.length) = true := decide_eq_true (by omega)
                    clear c21
                    by_cases c22 : 1 ≤ (x7_1.length : Int)
                    · rw [if_pos c22] at H
                      have c22b0 := eq_true c22
                      have c22b1 : decide (1 ≤ (x7_1.length : Int)) = true := decide_eq_true c22
                      clear c22
                      obtain ⟨y203, hy203⟩ : ∃ y_ : List Int, y_ = (x7_1.drop (1 : Int).toNat) := ⟨_, rfl⟩
                      replace H : (if 0 ≤ (rd x7_1 0) then (if (rd x7_1 0) < (l0.length : Int) then ((provisoref05_put.f k1 x8_1 ((rd_T46 l0 (rd x7_1 0)).f0)).bind fun t207 => ((provisoref05_Next.f k1 ((rd_T46 l0 (rd x7_1 0)).f0) ((rd_T46 l0 (rd x7_1 0)).f1) ((rd_T46 l0 (rd x7_1 0)).f2) ((rd_T46 l0 (rd x7_1 0)).f3)).bind fun t211 => (provisoref05_Reach.l1 k1 l0 x5_1 y203 t207 t211 (t211.length : Int) 0))) else (none)) else (none)) = some r := by first | (rw [hy203]; with_reducible exact H) | (have H2_ := (Option.bind_some _ _).symm.trans H; rw [hy203]; with_reducible exact H2_) | (have H2_ := (Option.bind_some _ _).symm.trans H; with_reducible exact H2_) | with_reducible exact H | (rw [hy203]; exact H) | exact H
                      have Ny203 := Aside0.mk hy203
                      clear hy203
                      by_cases c23 : 0 ≤ (rd x7_1 0)
                      · rw [if_pos c23] at H
                        have c23b0 : decide (0 ≤ (rd x7_1 0)) = true := decide_eq_true c23
                        clear c23
                        by_cases c24 : (rd x7_1 0) < (l0.length : Int)
                        · rw [if_pos c24] at H
                          have c24b0 : decide ((rd x7_1 0) < (l0.length : Int)) = true := decide_eq_true c24
                          clear c24
                          replace H := Option.bind_eq_some_iff.mp H
                          obtain ⟨t207, A250, H⟩ := H
                          replace H : ((provisoref05_Next.f k1 ((rd_T46 l0 (rd x7_1 0)).f0) ((rd_T46 l0 (rd x7_1 0)).f1) ((rd_T46 l0 (rd x7_1 0)).f2) ((rd_T46 l0 (rd x7_1 0)).f3)).bind fun t211 => (provisoref05_Reach.l1 k1 l0 x5_1 y203 t207 t211 (t211.length : Int) 0)) = some r := H
                          have A25 := Aside0.mk A250
                          clear A250
                          replace H := Option.bind_eq_some_iff.mp H
                          obtain ⟨t211, A260, H⟩ := H
                          replace H : (provisoref05_Reach.l1 k1 l0 x5_1 y203 t207 t211 (t211.length : Int) 0) = some r := H
                          have A26 := Aside0.mk A260
                          clear A260
                          have H' := Aside0.mk H
                          clear H
                          obtain ⟨Ao27, co27, eo27, _⟩ := Kd.Q_slice HO_7.out
                          subst eo27
                          have p202 : 0 ≤ (0 : Int) := (by omega)
                          have q202 : 0 < (x7_1.length : Int) := of_decide_eq_true (by first | (with_reducible assumption) | assumption)
                          obtain ⟨ad202, e202, hx202_0⟩ := Kd.at_int (Kd.Q_reads' HO_7.out).2.2 0 p202 q202
                          cases e202
                          have qi202 : (0 < x7_1.length) = True := eq_true (by omega)
                          (try rw [show ((0 : Int)).toNat = 0 from rfl] at hx202_0)
                          (try rw [Addr.add_zero'] at hx202_0)
                          replace p202 := eq_true p202
                          replace q202 := eq_true q202
                          have q28 : (1 : Int) ≤ ((x7_1.length : Int) : Int) := of_decide_eq_true (by first | (with_reducible assumption) | assumption)
                          obtain ⟨i028, hi028, _, hsz28, _⟩ := info_parts info3
                          have hcut28 := cut_from (P := Try.prog) 27 3 .i64 Try.underlying27 hi028 1 hsz28 (some ad202) x7_1.length co27 1 (by omega) q28
                          have hr28 := Kd.Q_drop (k := (1 : Int).toNat) HO_7.out (by omega)
                          obtain ⟨A28, hA28⟩ : ∃ A1, A1 = (if co27 = (1 : Int).toNat then (some ad202) else ((some ad202) : Option Addr).map (·.add ((1 : Int).toNat * 1))) := ⟨_, rfl⟩
                          obtain ⟨c28, hc28⟩ : ∃ c1, c1 = co27 - (1 : Int).toNat := ⟨_, rfl⟩
                          have hy28 : y203.length = x7_1.length - (1 : Int).toNat := (by rw [Ny203.out, List.length_drop])
                          rw [← Ny203.out] at hr28
                          rw [← hy28, ← hA28, ← hc28] at hcut28
                          replace hr28 : Kd.Q (Kd.int .i64) 3 wr w.heap.size (fun k_ => some k_ ≠ (u8 : Value).ownBlock) (.slice A28 y203.length c28) y203 := (by rw [hA28, hc28, hy28]; exact hr28)
                          have HE28 : Aside0 ((Value.slice A28 y203.length c28).ownBlock = (.slice (some ad202) x7_1.length co27 : Value).ownBlock) := ⟨by rw [hA28]; split <;> (cases ((some ad202) : Option Addr) <;> rfl)⟩
                          clear hy28 hi028 hsz28 HO_7 hA28 hc28
                          have HO205 := Aside0.mk hr28
                          clear hr28
                          replace q28 := eq_true q28
                          have n_ := Aside0.mk (Kd.R_mono (ok' := fun k_ => some k_ ≠ (.slice A28 y203.length c28 : Value).ownBlock) HO_8.out (fun k_ hk => (by rw [HE28.out]; exact hk)))
                          clear HO_8
                          have HO_8 := n_
                          clear n_
                          have p206 : 0 ≤ ((rd x7_1 0) : Int) := of_decide_eq_true (by first | (with_reducible assumption) | assumption)
                          have q206 : (rd x7_1 0) < (l0.length : Int) := of_decide_eq_true (by first | (with_reducible assumption) | assumption)
                          obtain ⟨ad206, e206, hx206_0, hx206_1, hx206_2, hx206_3⟩ := at_T46 HR0.out (rd x7_1 0) p206 q206
                          cases e206
                          replace hx206_0 := (HB.out.cell (World.block_lt_of_cell? w _ hx206_0)).trans hx206_0
                          replace hx206_1 := (HB.out.cell (World.block_lt_of_cell? w _ hx206_1)).trans hx206_1
                          replace hx206_2 := (HB.out.cell (World.block_lt_of_cell? w _ hx206_2)).trans hx206_2
                          replace hx206_3 := (HB.out.cell (World.block_lt_of_cell? w _ hx206_3)).trans hx206_3
                          replace p206 := eq_true p206
                          replace q206 := eq_true q206
                          obtain ⟨Ao29, co29, eo29⟩ := Kd.R_slice HO_8.out
                          subst eo29
                          go_wp2_with (first | ((with_reducible refine gate_callee (f := 50) rfl ?_); refine goesL_ (some 39) rfl rfl Try.func50 (by kernel_rfl) rfl #[.slice Ao29 x8_1.length co29, .int .i64 ((rd_T46 l0 (rd x7_1 0)).f0)] rfl (by (try simp only [List.map_toArray, List.map_cons, List.map_nil]); first | done | rfl | (simp only [List.length_drop, List.length_take]; rfl)) ?_; (with_reducible refine (provisoref05_put.calls k1 _ _ x8_1 ((rd_T46 l0 (rd x7_1 0)).f0) t207 _ ?side1 ?side2 A25.out).mono ?_); (case side1 => repeat (first | exact (Kd.R_reads' HO_8.out).2.2 | (with_reducible refine Kd.C_alloc ?_ _) | (with_reducible refine Kd.C_drewN ?_ _) | (with_reducible refine Kd.C_drew ?_))); (case side2 => exact (Kd.R_reads' HO_8.out).2.1); rintro e w30 ⟨v208, rfl, ho0, hb⟩; refine ⟨_, rfl, ?_⟩; have n0_ := Aside0.mk (Kd.R_below (by (with_reducible repeat (first | apply Kd.R_alloc | apply Kd.R_drewN | apply Kd.R_drew)); exact HO_5.out) hb); have n1_ := Aside0.mk (Kd.Q_elder' (by (with_reducible repeat (first | apply Kd.Q_alloc | apply Kd.Q_drewN | apply Kd.Q_drew)); exact HO205.out) (Kd.R_base ho0) hb); have n2_ := Aside0.mk (Kd.R_elder' (by (with_reducible repeat (first | apply Kd.R_alloc | apply Kd.R_drewN | apply Kd.R_drew)); exact HO_8.out) (Kd.R_base ho0) hb); have n3_ := Aside0.mk (Kd.R_lower (Kd.R_new' (Kd.R_new' ho0 (Kd.Q_lt (by (with_reducible repeat (first | apply Kd.Q_alloc | apply Kd.Q_drewN | apply Kd.Q_drew)); exact HO205.out))) (Kd.R_lt (by (with_reducible repeat (first | apply Kd.R_alloc | apply Kd.R_drewN | apply Kd.R_drew)); exact HO_8.out))) (below_size (by repeat (first | (with_reducible first | exact HB.out | apply below_alloc | apply pw_below_drewN | apply below_drew1) | exact HB.out)))); have n4_ := Aside0.mk (below_step (by repeat (first | (with_reducible first | exact HB.out | apply below_alloc | apply pw_below_drewN | apply below_drew1) | exact HB.out)) hb); clear HO_5; clear HO205; clear HO_8; clear HB; have HO_5 := n0_; have HO205 := n1_; have HO_8 := n2_; have HO209 := n3_; have HB := n4_; clear n0_ n1_ n2_ n3_ n4_; (try clear hb); (try clear hb2); (try clear hk); (try clear hi); (try clear ho0); have p210 : 0 ≤ ((rd x7_1 0) : Int) := of_decide_eq_true (by first | (with_reducible assumption) | assumption); have q210 : (rd x7_1 0) < (l0.length : Int) := of_decide_eq_true (by first | (with_reducible assumption) | assumption); obtain ⟨ad210, e210, hx210_0, hx210_1, hx210_2, hx210_3⟩ := at_T46 HR0.out (rd x7_1 0) p210 q210; obtain rfl : ad206 = ad210 := (by injection e210); replace hx210_0 := (HB.out.cell (World.block_lt_of_cell? w _ hx210_0)).trans hx210_0; replace hx210_1 := (HB.out.cell (World.block_lt_of_cell? w _ hx210_1)).trans hx210_1; replace hx210_2 := (HB.out.cell (World.block_lt_of_cell? w _ hx210_2)).trans hx210_2; replace hx210_3 := (HB.out.cell (World.block_lt_of_cell? w _ hx210_3)).trans hx210_3; replace p210 := eq_true p210; replace q210 := eq_true q210) | ((with_reducible refine gate_callee (f := 32) rfl ?_); refine goesL_ (some 44) rfl rfl Try.func32 (by kernel_rfl) rfl #[.agg #[.int .i64 ((rd_T46 l0 (rd x7_1 0)).f0), .int .u8 ((rd_T46 l0 (rd x7_1 0)).f1), .int .i64 ((rd_T46 l0 (rd x7_1 0)).f2), .int .i64 ((rd_T46 l0 (rd x7_1 0)).f3)]] rfl (by (try simp only [List.map_toArray, List.map_cons, List.map_nil]); first | done | rfl | (simp only [List.length_drop, List.length_take]; rfl)) ?_; (with_reducible refine (provisoref05_Next.calls k1 ((rd_T46 l0 (rd x7_1 0)).f0) ((rd_T46 l0 (rd x7_1 0)).f1) ((rd_T46 l0 (rd x7_1 0)).f2) ((rd_T46 l0 (rd x7_1 0)).f3) t211 _ A26.out).mono ?_); rintro e w31 ⟨v212, rfl, ho0, hb⟩; refine ⟨_, rfl, ?_⟩; have n0_ := Aside0.mk (Kd.R_below (by (with_reducible repeat (first | apply Kd.R_alloc | apply Kd.R_drewN | apply Kd.R_drew)); exact HO_5.out) hb); have n1_ := Aside0.mk (Kd.Q_elder' (by (with_reducible repeat (first | apply Kd.Q_alloc | apply Kd.Q_drewN | apply Kd.Q_drew)); exact HO205.out) (Kd.R_base ho0) hb); have n2_ := Aside0.mk (Kd.R_elder' (by (with_reducible repeat (first | apply Kd.R_alloc | apply Kd.R_drewN | apply Kd.R_drew)); exact HO_8.out) (Kd.R_base ho0) hb); have n3_ := Aside0.mk (Kd.R_elder' (by (with_reducible repeat (first | apply Kd.R_alloc | apply Kd.R_drewN | apply Kd.R_drew)); exact HO209.out) (Kd.R_base ho0) hb); have n4_ := Aside0.mk (Kd.R_lower (Kd.R_new' (Kd.R_new' (Kd.R_new' ho0 (Kd.Q_lt (by (with_reducible repeat (first | apply Kd.Q_alloc | apply Kd.Q_drewN | apply Kd.Q_drew)); exact HO205.out))) (Kd.R_lt (by (with_reducible repeat (first | apply Kd.R_alloc | apply Kd.R_drewN | apply Kd.R_drew)); exact HO_8.out))) (Kd.R_lt (by (with_reducible repeat (first | apply Kd.R_alloc | apply Kd.R_drewN | apply Kd.R_drew)); exact HO209.out))) (below_size (by repeat (first | (with_reducible first | exact HB.out | apply below_alloc | apply pw_below_drewN | apply below_drew1) | exact HB.out)))); have n5_ := Aside0.mk (below_step (by repeat (first | (with_reducible first | exact HB.out | apply below_alloc | apply pw_below_drewN | apply below_drew1) | exact HB.out)) hb); clear HO_5; clear HO205; clear HO_8; clear HO209; clear HB; have HO_5 := n0_; have HO205 := n1_; have HO_8 := n2_; have HO209 := n3_; have HO213 := n4_; have HB := n5_; clear n0_ n1_ n2_ n3_ n4_ n5_; (try clear hb); (try clear hb2); (try clear hk); (try clear hi); (try clear ho0); obtain ⟨Ao32, co32, eo32⟩ := Kd.R_slice HO213.out; subst eo32))
                          go_loopg [7, 46] k1 (fun kq v7 v46 w' => ∃ (x5_2 : List Bool) (x7_2 : List Int) (x46_2 : Int), v46 = .int .i64 x46_2 ∧ Aside0 (provisoref05_Reach.l1 kq l0 x5_2 x7_2 t207 t211 (t211.length : Int) x46_2 = some r) ∧ Aside0 (kq ≤ k1) ∧ Aside0 (Kd.R Kd.bool 4 w' w.heap.size (fun _ => True) (.slice (some ⟨go12, 0, none⟩) x5_1.length co12) x5_2) ∧ Aside0 (Kd.Q (Kd.int .i64) 3 w' w.heap.size (fun k_ => some k_ ≠ (v208 : Value).ownBlock ∧ some k_ ≠ ((.slice Ao32 t211.length co32) : Value).ownBlock) v7 x7_2) ∧ Aside0 (Kd.R (Kd.int .i64) 3 w' w.heap.size (fun k_ => some k_ ≠ (v7 : Value).ownBlock ∧ some k_ ≠ ((.slice Ao32 t211.length co32) : Value).ownBlock) v208 t207) ∧ Aside0 (Kd.R (Kd.int .i64) 3 w' w.heap.size (fun k_ => some k_ ≠ (v7 : Value).ownBlock ∧ some k_ ≠ (v208 : Value).ownBlock) (.slice Ao32 t211.length co32) t211) ∧ Aside0 (Below w.heap.size w w'))
                          case atStart => exact ⟨(x5_1), (y203), (0), (by first | rfl | (simp; done) | (simp [*]; done)), H', ⟨Nat.le_refl _⟩, ⟨by (try simp only [hl5_1]); (with_reducible repeat (first | apply Kd.R_alloc | apply Kd.R_drewN | apply Kd.R_drew)); exact HO_5.out⟩, ⟨by (try simp only [hl5_1]); (with_reducible repeat (first | apply Kd.Q_alloc | apply Kd.Q_drewN | apply Kd.Q_drew)); exact Kd.Q_mono HO205.out (fun _ hk => ⟨hk.1.2, hk.2⟩)⟩, ⟨by (try simp only [hl5_1]); (with_reducible repeat (first | apply Kd.R_alloc | apply Kd.R_drewN | apply Kd.R_drew)); exact Kd.R_mono HO209.out (fun _ hk => ⟨hk.1.1.2, hk.2⟩)⟩, ⟨by (try simp only [hl5_1]); (with_reducible repeat (first | apply Kd.R_alloc | apply Kd.R_drewN | apply Kd.R_drew)); exact Kd.R_mono HO213.out (fun _ hk => ⟨hk.1.1.2, hk.2⟩)⟩, ⟨by repeat (first | (with_reducible first | exact HB.out | apply below_alloc | apply pw_below_drewN | apply below_drew1) | exact HB.out)⟩⟩
                          case round =>
                            clear H'
                            try clear c1
                            try clear p1
                            try clear q1
                            try clear hx1
                            try clear c2
                            try clear p2
                            try clear q2
                            try clear hx2
                            try clear qi2
                            try clear c3
                            try clear c3b0
                            try clear c3b1
                            try clear c4
                            try clear c4b0
                            try clear c4b1
                            try clear c5
                            try clear c6
                            try clear c6b0
                            try clear c10
                            try clear c10b0
                            try clear c11
                            try clear c11b0
                            try clear p12
                            try clear q12
                            try clear hx12
                            try clear hf12
                            try clear c18
                            try clear c20
                            try clear c20b0
                            try clear c20b1
                            try clear p20
                            try clear q20
                            try clear hx20
                            try clear qi20
                            try clear c21
                            try clear c21b0
                            try clear c21b1
                            try clear p21
                            try clear q21
                            try clear hx21
                            try clear c22
                            try clear c22b0
                            try clear c22b1
                            try clear c23
                            try clear c23b0
                            try clear c24
                            try clear c24b0
                            try clear c28
                            try clear q28
                            try clear c32
                            try clear hx12_0
                            try clear hx202_0
                            try clear hx206_0
                            try clear hx206_1
                            try clear hx206_2
                            try clear hx206_3
                            try clear hx210_0
                            try clear hx210_1
                            try clear hx210_2
                            try clear hx210_3
                            try clear p1
                            try clear p12
                            try clear p2
                            try clear p202
                            try clear p206
                            try clear p210
                            try clear q1
                            try clear q12
                            try clear q202
                            try clear q206
                            try clear q210
                            try clear q28
                            obtain ⟨x5_2, x7_2, x46_2, rfl, HA, HK2, HO_5, HO_7, HO_8, HO_44, HB⟩ := hrel
                            have hl5_2 := (Kd.R_reads' HO_5.out).1
                            rw [hl5_2] at HO_5
                            (try simp only [hl5_2])
                            (try simp only [hl5_2] at HO_7)
                            (try simp only [hl5_2] at HO_8)
                            (try simp only [hl5_2] at HO_44)
                            cases gk with
                            | zero => exact absurd HA.out (by simp [provisoref05_Reach.l1])
                            | succ k2 =>
                              have H := HA.out
                              clear HA
                              simp only [provisoref05_Reach.l1] at H
                              by_cases c33 : x46_2 < (t211.length : Int)
                              · rw [if_pos c33] at H
                                have c33b0 : decide (x46_2 < (t211.length : Int)) = true := decide_eq_true c33
                                clear c33
                                by_cases c34 : 0 ≤ x46_2
                                · rw [if_pos c34] at H
                                  have c34b0 : decide (0 ≤ x46_2) = true := decide_eq_true c34
                                  clear c34
                                  by_cases c35 : x46_2 < (t211.length : Int)
                                  · rw [if_pos c35] at H
                                    have c35b0 : decide (x46_2 < (t211.length : Int)) = true := decide_eq_true c35
                                    clear c35
                                    replace H := Option.bind_eq_some_iff.mp H
                                    obtain ⟨t215, A360, H⟩ := H
                                    replace H : (if t215 ≥ 0 then (if 0 ≤ t215 then (if t215 < (x5_2.length : Int) then (if rdOf false x5_2 t215 = true then (provisoref05_Reach.l1 k2 l0 x5_2 x7_2 t207 t211 (t211.length : Int) (wrap64 (x46_2 + 1))) else (if x7_2.length < 17592186044416 then (provisoref05_Reach.l1 k2 l0 (x5_2.set (t215 : Int).toNat true) (x7_2 ++ [t215]) t207 t211 (t211.length : Int) (wrap64 (x46_2 + 1))) else (none))) else (none)) else (none)) else (provisoref05_Reach.l1 k2 l0 x5_2 x7_2 t207 t211 (t211.length : Int) (wrap64 (x46_2 + 1)))) = some r := H
                                    have A36 := Aside0.mk A360
                                    clear A360
                                    by_cases c37 : t215 ≥ 0
                                    · rw [if_pos c37] at H
                                      have c37b0 : decide (0 ≤ t215) = true := decide_eq_true c37
                                      clear c37
                                      by_cases c38 : 0 ≤ t215
                                      · rw [if_pos c38] at H
                                        have c38b0 : decide (0 ≤ t215) = true := decide_eq_true c38
                                        clear c38
                                        by_cases c39 : t215 < (x5_2.length : Int)
                                        · rw [if_pos c39] at H
                                          have c39b0 : decide (t215 < (x5_2.length : Int)) = true := decide_eq_true c39
                                          clear c39
                                          obtain ⟨bq40, hbq40⟩ : ∃ b_ : Bool, b_ = (rdOf false x5_2 t215) := ⟨_, rfl⟩
                                          replace H : (if bq40 = true then (provisoref05_Reach.l1 k2 l0 x5_2 x7_2 t207 t211 (t211.length : Int) (wrap64 (x46_2 + 1))) else (if x7_2.length < 17592186044416 then (provisoref05_Reach.l1 k2 l0 (x5_2.set (t215 : Int).toNat true) (x7_2 ++ [t215]) t207 t211 (t211.length : Int) (wrap64 (x46_2 + 1))) else (none))) = some r := by rw [← hbq40] at H; exact H
                                          have Nbq40 := Aside0.mk hbq40
                                          clear hbq40
                                          by_cases c41 : bq40 = true
                                          · subst c41
                                            have H1 : (provisoref05_Reach.l1 k2 l0 x5_2 x7_2 t207 t211 (t211.length : Int) (wrap64 (x46_2 + 1))) = some r := by rw [if_pos rfl] at H; exact H
                                            clear H
                                            have H := H1
                                            clear H1
                                            have H' := Aside0.mk H
                                            clear H
                                            have p214 : 0 ≤ (x46_2 : Int) := of_decide_eq_true (by first | (with_reducible assumption) | assumption)
                                            have q214 : x46_2 < (t211.length : Int) := of_decide_eq_true (by first | (with_reducible assumption) | assumption)
                                            obtain ⟨ad214, e214, hx214_0⟩ := Kd.at_int (Kd.R_reads' HO_44.out).2.2 x46_2 p214 q214
                                            cases e214
                                            replace p214 := eq_true p214
                                            replace q214 := eq_true q214
                                            go_wp2_with (first | ((with_reducible refine gate_callee (f := 49) rfl ?_); refine goesL_ (some 52) rfl rfl Try.func49 (by kernel_rfl) rfl #[.slice (some ad206) l0.length c0, .int .i64 (rd t211 x46_2)] rfl (by (try simp only [List.map_toArray, List.map_cons, List.map_nil]); first | done | rfl | (simp only [List.length_drop, List.length_take]; rfl)) ?_; (with_reducible refine (provisoref05_Place.calls k2 _ _ l0 (rd t211 x46_2) t215 _ ?side1 ?side2 A36.out).mono ?_); (case side1 => repeat (first | exact (Kd.C_below HR0.out HB.out) | (with_reducible refine Kd.C_alloc ?_ _) | (with_reducible refine Kd.C_drewN ?_ _) | (with_reducible refine Kd.C_drew ?_))); (case side2 => exact HC0.out); rintro e w42 ⟨rfl, hb⟩; refine ⟨_, rfl, ?_⟩; have n0_ := Aside0.mk (Kd.R_below (by (with_reducible repeat (first | apply Kd.R_alloc | apply Kd.R_drewN | apply Kd.R_drew)); exact HO_5.out) hb); have n1_ := Aside0.mk (Kd.Q_below (by (with_reducible repeat (first | apply Kd.Q_alloc | apply Kd.Q_drewN | apply Kd.Q_drew)); exact HO_7.out) hb); have n2_ := Aside0.mk (Kd.R_below (by (with_reducible repeat (first | apply Kd.R_alloc | apply Kd.R_drewN | apply Kd.R_drew)); exact HO_8.out) hb); have n3_ := Aside0.mk (Kd.R_below (by (with_reducible repeat (first | apply Kd.R_alloc | apply Kd.R_drewN | apply Kd.R_drew)); exact HO_44.out) hb); have n4_ := Aside0.mk (below_step (by repeat (first | (with_reducible first | exact HB.out | apply below_alloc | apply pw_below_drewN | apply below_drew1) | exact HB.out)) hb); clear HO_5; clear HO_7; clear HO_8; clear HO_44; clear HB; have HO_5 := n0_; have HO_7 := n1_; have HO_8 := n2_; have HO_44 := n3_; have HB := n4_; clear n0_ n1_ n2_ n3_ n4_; (try clear hb); (try clear hb2); (try clear hk); (try clear hi); have p216 : 0 ≤ (t215 : Int) := of_decide_eq_true (by first | (with_reducible assumption) | assumption); have q216 : t215 < (x5_2.length : Int) := of_decide_eq_true (by first | (with_reducible assumption) | assumption); obtain ⟨ad216, e216, hx216_0⟩ := Kd.at_bool (Kd.R_reads' HO_5.out).2.2 t215 p216 q216; (try rw [← Nbq40.out] at hx216_0); obtain rfl : (⟨go12, 0, none⟩ : Addr) = ad216 := (by injection e216); (first | simp only [add_plain] at hx216_0 | simp only [add_at] at hx216_0 | simp only [Addr.add, Nat.zero_add] at hx216_0 | skip); replace p216 := eq_true p216; replace q216 := eq_true q216))
                                            (try simp only [← hl5_2])
                                            go_roundg k2
                                            case measure => have := HK1.out; have := HK2.out; omega
                                            case rel => exact ⟨(x5_2), (x7_2), (wrap64 (x46_2 + 1)), (by first | rfl | (simp; done) | (simp [*]; done)), H', ⟨by have := HK1.out; have := HK2.out; omega⟩, ⟨by (try simp only [hl5_1]); (try simp only [hl5_2]); (with_reducible repeat (first | apply Kd.R_alloc | apply Kd.R_drewN | apply Kd.R_drew)); exact HO_5.out⟩, ⟨by (try simp only [hl5_1]); (try simp only [hl5_2]); (with_reducible repeat (first | apply Kd.Q_alloc | apply Kd.Q_drewN | apply Kd.Q_drew)); exact HO_7.out⟩, ⟨by (try simp only [hl5_1]); (try simp only [hl5_2]); (with_reducible repeat (first | apply Kd.R_alloc | apply Kd.R_drewN | apply Kd.R_drew)); exact HO_8.out⟩, ⟨by (try simp only [hl5_1]); (try simp only [hl5_2]); (with_reducible repeat (first | apply Kd.R_alloc | apply Kd.R_drewN | apply Kd.R_drew)); exact HO_44.out⟩, ⟨by repeat (first | (with_reducible first | exact HB.out | apply below_alloc | apply pw_below_drewN | apply below_drew1) | exact HB.out)⟩⟩
                                          · replace c41 := Bool.eq_false_iff.mpr c41
                                            subst c41
                                            have H1 : (if x7_2.length < 17592186044416 then (provisoref05_Reach.l1 k2 l0 (x5_2.set (t215 : Int).toNat true) (x7_2 ++ [t215]) t207 t211 (t211.length : Int) (wrap64 (x46_2 + 1))) else (none)) = some r := by rw [if_neg (show ¬ (false = true) by decide)] at H; exact H
                                            clear H
                                            have H := H1
                                            clear H1
                                            obtain ⟨y217, hy217⟩ : ∃ y_ : List Bool, y_ = (x5_2.set (t215 : Int).toNat true) := ⟨_, rfl⟩
                                            replace H : (if x7_2.length < 17592186044416 then (provisoref05_Reach.l1 k2 l0 y217 (x7_2 ++ [t215]) t207 t211 (t211.length : Int) (wrap64 (x46_2 + 1))) else (none)) = some r := by first | (rw [hy217]; with_reducible exact H) | (have H2_ := (Option.bind_some _ _).symm.trans H; rw [hy217]; with_reducible exact H2_) | (have H2_ := (Option.bind_some _ _).symm.trans H; with_reducible exact H2_) | with_reducible exact H | (rw [hy217]; exact H) | exact H
                                            have Ny217 := Aside0.mk hy217
                                            clear hy217
                                            by_cases c44 : x7_2.length < 17592186044416
                                            · rw [if_pos c44] at H
                                              have LMc44 := Aside0.mk c44
                                              clear c44
                                              obtain ⟨y218, hy218⟩ : ∃ y_ : List Int, y_ = (x7_2 ++ [t215]) := ⟨_, rfl⟩
                                              replace H : (provisoref05_Reach.l1 k2 l0 y217 y218 t207 t211 (t211.length : Int) (wrap64 (x46_2 + 1))) = some r := by first | (rw [hy218]; with_reducible exact H) | (have H2_ := (Option.bind_some _ _).symm.trans H; rw [hy218]; with_reducible exact H2_) | (have H2_ := (Option.bind_some _ _).symm.trans H; with_reducible exact H2_) | with_reducible exact H | (rw [hy218]; exact H) | exact H
                                              have Ny218 := Aside0.mk hy218
                                              clear hy218
                                              have H' := Aside0.mk H
                                              clear H
                                              have p214 : 0 ≤ (x46_2 : Int) := of_decide_eq_true (by first | (with_reducible assumption) | assumption)
                                              have q214 : x46_2 < (t211.length : Int) := of_decide_eq_true (by first | (with_reducible assumption) | assumption)
                                              obtain ⟨ad214, e214, hx214_0⟩ := Kd.at_int (Kd.R_reads' HO_44.out).2.2 x46_2 p214 q214
                                              cases e214
                                              replace p214 := eq_true p214
                                              replace q214 := eq_true q214
                                              go_wp2_with (first | ((with_reducible refine gate_callee (f := 49) rfl ?_); refine goesL_ (some 52) rfl rfl Try.func49 (by kernel_rfl) rfl #[.slice (some ad206) l0.length c0, .int .i64 (rd t211 x46_2)] rfl (by (try simp only [List.map_toArray, List.map_cons, List.map_nil]); first | done | rfl | (simp only [List.length_drop, List.length_take]; rfl)) ?_; (with_reducible refine (provisoref05_Place.calls k2 _ _ l0 (rd t211 x46_2) t215 _ ?side1 ?side2 A36.out).mono ?_); (case side1 => repeat (first | exact (Kd.C_below HR0.out HB.out) | (with_reducible refine Kd.C_alloc ?_ _) | (with_reducible refine Kd.C_drewN ?_ _) | (with_reducible refine Kd.C_drew ?_))); (case side2 => exact HC0.out); rintro e w45 ⟨rfl, hb⟩; refine ⟨_, rfl, ?_⟩; have n0_ := Aside0.mk (Kd.R_below (by (with_reducible repeat (first | apply Kd.R_alloc | apply Kd.R_drewN | apply Kd.R_drew)); exact HO_5.out) hb); have n1_ := Aside0.mk (Kd.Q_below (by (with_reducible repeat (first | apply Kd.Q_alloc | apply Kd.Q_drewN | apply Kd.Q_drew)); exact HO_7.out) hb); have n2_ := Aside0.mk (Kd.R_below (by (with_reducible repeat (first | apply Kd.R_alloc | apply Kd.R_drewN | apply Kd.R_drew)); exact HO_8.out) hb); have n3_ := Aside0.mk (Kd.R_below (by (with_reducible repeat (first | apply Kd.R_alloc | apply Kd.R_drewN | apply Kd.R_drew)); exact HO_44.out) hb); have n4_ := Aside0.mk (below_step (by repeat (first | (with_reducible first | exact HB.out | apply below_alloc | apply pw_below_drewN | apply below_drew1) | exact HB.out)) hb); clear HO_5; clear HO_7; clear HO_8; clear HO_44; clear HB; have HO_5 := n0_; have HO_7 := n1_; have HO_8 := n2_; have HO_44 := n3_; have HB := n4_; clear n0_ n1_ n2_ n3_ n4_; (try clear hb); (try clear hb2); (try clear hk); (try clear hi); have p216 : 0 ≤ (t215 : Int) := of_decide_eq_true (by first | (with_reducible assumption) | assumption); have q216 : t215 < (x5_2.length : Int) := of_decide_eq_true (by first | (with_reducible assumption) | assumption); obtain ⟨ad216, e216, hx216_0⟩ := Kd.at_bool (Kd.R_reads' HO_5.out).2.2 t215 p216 q216; (try rw [← Nbq40.out] at hx216_0); obtain rfl : (⟨go12, 0, none⟩ : Addr) = ad216 := (by injection e216); (first | simp only [add_plain] at hx216_0 | simp only [add_at] at hx216_0 | simp only [Addr.add, Nat.zero_add] at hx216_0 | skip); replace p216 := eq_true p216; replace q216 := eq_true q216; have p43 : 0 ≤ (t215 : Int) := of_decide_eq_true (by first | (with_reducible assumption) | assumption); have q43 : (t215 : Int) < ((x5_2.length : Int) : Int) := of_decide_eq_true (by first | (with_reducible assumption) | assumption); obtain ⟨hx43_0, hf43_0⟩ := Kd.R_celln false HO_5.out (t215 : Int) p43 q43; replace p43 := eq_true p43; replace q43 := eq_true q43; obtain ⟨hy46_, hz46_⟩ := Kd.R_celln false HO_5.out (t215 : Int) (of_decide_eq_true (by first | (with_reducible assumption) | assumption)) (of_decide_eq_true (by first | (with_reducible assumption) | assumption)); have HP46 := Kd.R_putg HO_5.out (t215 : Int) true) | ((with_reducible refine gate_store (t := 4) (p := 64) rfl ?_); refine store_event (t := 4) (p := 64) (v := ?vo_w47) (w1 := (w45.setCell ⟨go12, (t215 : Int).toNat, none⟩ (.bool true))) ?hg ?ho ?hn ?hr ?_; (case ho => rfl); (case hg => rfl); (case hn => rfl); (case hr => first | (go_simp; done) | (go_simp; rfl)); intro w47 hw; have hg : w45.grownBy w47 (some go12) := (by rw [hw]; exact HP46.2); have hp_ : Kd.R Kd.bool 4 w47 w.heap.size (fun _ => True) (.slice (some ⟨go12, 0, none⟩) x5_2.length co12) y217 := (by rw [hw, Ny217.out]; exact HP46.1); clear HP46; have n0_ := Aside0.mk (hp_); have n1_ := Aside0.mk (Kd.Q_over' (v := (.slice (some ⟨go12, 0, none⟩) x5_2.length co12)) (by (with_reducible repeat (first | apply Kd.Q_alloc | apply Kd.Q_drewN | apply Kd.Q_drew)); exact HO_7.out) (Kd.R_typed HO_5.out) (by decide) hg); have n2_ := Aside0.mk (Kd.R_over' (v := (.slice (some ⟨go12, 0, none⟩) x5_2.length co12)) (by (with_reducible repeat (first | apply Kd.R_alloc | apply Kd.R_drewN | apply Kd.R_drew)); exact HO_8.out) (Kd.R_typed HO_5.out) (by decide) hg); have n3_ := Aside0.mk (Kd.R_over' (v := (.slice (some ⟨go12, 0, none⟩) x5_2.length co12)) (by (with_reducible repeat (first | apply Kd.R_alloc | apply Kd.R_drewN | apply Kd.R_drew)); exact HO_44.out) (Kd.R_typed HO_5.out) (by decide) hg); have n4_ := Aside0.mk ((by rw [hw]; exact below_set (HB.out) GB12.out : Below w.heap.size w w47)); clear HO_5; clear HO_7; clear HO_8; clear HO_44; clear HB; have HO_5 := n0_; have HO_7 := n1_; have HO_8 := n2_; have HO_44 := n3_; have HB := n4_; clear n0_ n1_ n2_ n3_ n4_; clear hg hw hp_) | ((with_reducible refine gate_builtin (b := .append) (xs := #[.tmp 65, .tmp 67]) rfl ?_); at_builtin; refine Kd.Q_append (Kd.int .i64) (w0 := w) w.heap.size rfl (.tmp 65) (.tmp 67) 27 3 (.int .i64 0) 8 rfl Try.underlying27 info3 rfl (by decide) (by omega) u7 x7_2 t215 [.int .i64 t215] (fun k_ => some k_ ≠ (v208 : Value).ownBlock ∧ some k_ ≠ (.slice (some ad214) t211.length co32 : Value).ownBlock) (fun _ => False) rfl rfl ?aP (fun _ hk => hk.elim) ?aF ?aO ?aB ?aS ?aL ?_; (case aP => exact rfl); (case aB => exact (by repeat (first | (with_reducible first | exact HB.out | apply below_alloc | apply pw_below_drewN | apply below_drew1) | exact HB.out))); (case aF => exact (fun k_ hk => ⟨Kd.fresh' (Kd.R_lt (by (with_reducible repeat (first | apply Kd.R_alloc | apply Kd.R_drewN | apply Kd.R_drew)); exact HO_8.out)) k_ hk, Kd.fresh' (Kd.R_lt (by (with_reducible repeat (first | apply Kd.R_alloc | apply Kd.R_drewN | apply Kd.R_drew)); exact HO_44.out)) k_ hk⟩)); (case aO => exact (by (with_reducible repeat (first | apply Kd.Q_alloc | apply Kd.Q_drewN | apply Kd.Q_drew)); exact HO_7.out)); (case aS => exact (below_size (by repeat (first | (with_reducible first | exact HB.out | apply below_alloc | apply pw_below_drewN | apply below_drew1) | exact HB.out)))); (case aL => have := LMc44.out; omega); intro v219 w48 ho hb hg hat; rw [← Ny218.out] at ho; have n0_ := Aside0.mk (Kd.R_over' (by (with_reducible repeat (first | apply Kd.R_alloc | apply Kd.R_drewN | apply Kd.R_drew)); exact HO_5.out) (Kd.Q_typed (by (with_reducible repeat (first | apply Kd.Q_alloc | apply Kd.Q_drewN | apply Kd.Q_drew)); exact HO_7.out)) (by decide) hg); have n1_ := Aside0.mk (Kd.R_after (ok := (fun k_ => some k_ ≠ (.slice (some ad214) t211.length co32 : Value).ownBlock)) (by (with_reducible repeat (first | apply Kd.R_alloc | apply Kd.R_drewN | apply Kd.R_drew)); exact Kd.R_mono HO_8.out (fun _ hk => ⟨hk.2, hk.1⟩)) hg hat); have n2_ := Aside0.mk (Kd.R_after (ok := (fun k_ => some k_ ≠ (v208 : Value).ownBlock)) (by (with_reducible repeat (first | apply Kd.R_alloc | apply Kd.R_drewN | apply Kd.R_drew)); exact Kd.R_mono HO_44.out (fun _ hk => ⟨hk.2, hk.1⟩)) hg hat); have n3_ := Aside0.mk (hb); have n4_ := Aside0.mk (ho); clear HO_5; clear HO_8; clear HO_44; clear HB; clear HO_7; have HO_5 := n0_; have HO_8 := n1_; have HO_44 := n2_; have HB := n3_; have HO220 := n4_; clear n0_ n1_ n2_ n3_ n4_; clear ho hb hg hat))
                                              (try simp only [← hl5_2])
                                              go_roundg k2
                                              case measure => have := HK1.out; have := HK2.out; omega
                                              case rel => exact ⟨(y217), (y218), (wrap64 (x46_2 + 1)), (by first | rfl | (simp; done) | (simp [*]; done)), H', ⟨by have := HK1.out; have := HK2.out; omega⟩, ⟨by (try simp only [hl5_1]); (try simp only [hl5_2]); (with_reducible repeat (first | apply Kd.R_alloc | apply Kd.R_drewN | apply Kd.R_drew)); exact HO_5.out⟩, ⟨by (try simp only [hl5_1]); (try simp only [hl5_2]); (with_reducible repeat (first | apply Kd.Q_alloc | apply Kd.Q_drewN | apply Kd.Q_drew)); exact HO220.out⟩, ⟨by (try simp only [hl5_1]); (try simp only [hl5_2]); (with_reducible repeat (first | apply Kd.R_alloc | apply Kd.R_drewN | apply Kd.R_drew)); exact Kd.R_mono HO_8.out (fun _ hk => ⟨hk.2, hk.1⟩)⟩, ⟨by (try simp only [hl5_1]); (try simp only [hl5_2]); (with_reducible repeat (first | apply Kd.R_alloc | apply Kd.R_drewN | apply Kd.R_drew)); exact Kd.R_mono HO_44.out (fun _ hk => ⟨hk.2, hk.1⟩)⟩, ⟨by repeat (first | (with_reducible first | exact HB.out | apply below_alloc | apply pw_below_drewN | apply below_drew1) | exact HB.out)⟩⟩
                                            · rw [if_neg c44] at H
                                              exact absurd H (by simp)
                                        · rw [if_neg c39] at H
                                          exact absurd H (by simp)
                                      · rw [if_neg c38] at H
                                        exact absurd H (by simp)
                                    · rw [if_neg c37] at H
                                      have c37b0 : decide (0 ≤ t215) = false := decide_eq_false c37
                                      clear c37
                                      have H' := Aside0.mk H
                                      clear H
                                      have p214 : 0 ≤ (x46_2 : Int) := of_decide_eq_true (by first | (with_reducible assumption) | assumption)
                                      have q214 : x46_2 < (t211.length : Int) := of_decide_eq_true (by first | (with_reducible assumption) | assumption)
                                      obtain ⟨ad214, e214, hx214_0⟩ := Kd.at_int (Kd.R_reads' HO_44.out).2.2 x46_2 p214 q214
                                      cases e214
                                      replace p214 := eq_true p214
                                      replace q214 := eq_true q214
                                      go_wp2_with (first | ((with_reducible refine gate_callee (f := 49) rfl ?_); refine goesL_ (some 52) rfl rfl Try.func49 (by kernel_rfl) rfl #[.slice (some ad206) l0.length c0, .int .i64 (rd t211 x46_2)] rfl (by (try simp only [List.map_toArray, List.map_cons, List.map_nil]); first | done | rfl | (simp only [List.length_drop, List.length_take]; rfl)) ?_; (with_reducible refine (provisoref05_Place.calls k2 _ _ l0 (rd t211 x46_2) t215 _ ?side1 ?side2 A36.out).mono ?_); (case side1 => repeat (first | exact (Kd.C_below HR0.out HB.out) | (with_reducible refine Kd.C_alloc ?_ _) | (with_reducible refine Kd.C_drewN ?_ _) | (with_reducible refine Kd.C_drew ?_))); (case side2 => exact HC0.out); rintro e w49 ⟨rfl, hb⟩; refine ⟨_, rfl, ?_⟩; have n0_ := Aside0.mk (Kd.R_below (by (with_reducible repeat (first | apply Kd.R_alloc | apply Kd.R_drewN | apply Kd.R_drew)); exact HO_5.out) hb); have n1_ := Aside0.mk (Kd.Q_below (by (with_reducible repeat (first | apply Kd.Q_alloc | apply Kd.Q_drewN | apply Kd.Q_drew)); exact HO_7.out) hb); have n2_ := Aside0.mk (Kd.R_below (by (with_reducible repeat (first | apply Kd.R_alloc | apply Kd.R_drewN | apply Kd.R_drew)); exact HO_8.out) hb); have n3_ := Aside0.mk (Kd.R_below (by (with_reducible repeat (first | apply Kd.R_alloc | apply Kd.R_drewN | apply Kd.R_drew)); exact HO_44.out) hb); have n4_ := Aside0.mk (below_step (by repeat (first | (with_reducible first | exact HB.out | apply below_alloc | apply pw_below_drewN | apply below_drew1) | exact HB.out)) hb); clear HO_5; clear HO_7; clear HO_8; clear HO_44; clear HB; have HO_5 := n0_; have HO_7 := n1_; have HO_8 := n2_; have HO_44 := n3_; have HB := n4_; clear n0_ n1_ n2_ n3_ n4_; (try clear hb); (try clear hb2); (try clear hk); (try clear hi)))
                                      (try simp only [← hl5_2])
                                      go_roundg k2
                                      case measure => have := HK1.out; have := HK2.out; omega
                                      case rel => exact ⟨(x5_2), (x7_2), (wrap64 (x46_2 + 1)), (by first | rfl | (simp; done) | (simp [*]; done)), H', ⟨by have := HK1.out; have := HK2.out; omega⟩, ⟨by (try simp only [hl5_1]); (try simp only [hl5_2]); (with_reducible repeat (first | apply Kd.R_alloc | apply Kd.R_drewN | apply Kd.R_drew)); exact HO_5.out⟩, ⟨by (try simp only [hl5_1]); (try simp only [hl5_2]); (with_reducible repeat (first | apply Kd.Q_alloc | apply Kd.Q_drewN | apply Kd.Q_drew)); exact HO_7.out⟩, ⟨by (try simp only [hl5_1]); (try simp only [hl5_2]); (with_reducible repeat (first | apply Kd.R_alloc | apply Kd.R_drewN | apply Kd.R_drew)); exact HO_8.out⟩, ⟨by (try simp only [hl5_1]); (try simp only [hl5_2]); (with_reducible repeat (first | apply Kd.R_alloc | apply Kd.R_drewN | apply Kd.R_drew)); exact HO_44.out⟩, ⟨by repeat (first | (with_reducible first | exact HB.out | apply below_alloc | apply pw_below_drewN | apply below_drew1) | exact HB.out)⟩⟩
                                  · rw [if_neg c35] at H
                                    exact absurd H (by simp)
                                · rw [if_neg c34] at H
                                  exact absurd H (by simp)
                              · rw [if_neg c33] at H
                                have c33b0 : decide (x46_2 < (t211.length : Int)) = false := decide_eq_false c33
                                clear c33
                                have H' := Aside0.mk H
                                clear H
                                go_wp2
                                (try simp only [← hl5_1, ← hl5_2])
                                go_roundg k2
                                case measure => have := HK1.out; have := HK2.out; omega
                                case rel => exact ⟨(x5_2), (x7_2), (t207), H', ⟨by have := HK1.out; have := HK2.out; omega⟩, ⟨by (try simp only [hl5_1]); (try simp only [hl5_2]); (with_reducible repeat (first | apply Kd.R_alloc | apply Kd.R_drewN | apply Kd.R_drew)); exact HO_5.out⟩, ⟨by (try simp only [hl5_1]); (try simp only [hl5_2]); (with_reducible repeat (first | apply Kd.Q_alloc | apply Kd.Q_drewN | apply Kd.Q_drew)); exact Kd.Q_mono HO_7.out (fun _ hk => hk.1)⟩, ⟨by (try simp only [hl5_1]); (try simp only [hl5_2]); (with_reducible repeat (first | apply Kd.R_alloc | apply Kd.R_drewN | apply Kd.R_drew)); exact Kd.R_mono HO_8.out (fun _ hk => hk.1)⟩, ⟨by repeat (first | (with_reducible first | exact HB.out | apply below_alloc | apply pw_below_drewN | apply below_drew1) | exact HB.out)⟩⟩
                        · rw [if_neg c24] at H
                          exact absurd H (by simp)
                      · rw [if_neg c23] at H
                        exact absurd H (by simp)
                    · rw [if_neg c22] at H
                      exact absurd H (by simp)
                  · rw [if_neg c21] at H
                    exact absurd H (by simp)
                · rw [if_neg c20] at H
                  have c20b0 : decide (0 < (x7_1.length : Int)) = false := decide_eq_false c20
                  have c20b1 : decide (0 < x7_1.length) = false := decide_eq_false (by omega)
                  clear c20
                  obtain rfl := Option.some.inj H
                  obtain ⟨Ao50, co50, eo50, _⟩ := Kd.Q_slice HO_7.out
                  subst eo50
                  go_wp2
                  go_ret
                  exact ⟨_, by first | rfl | (simp [errW_none, errW_some] <;> rfl) | (simp [*, errW_none, errW_some] <;> rfl), by (with_reducible repeat (first | apply Kd.R_alloc | apply Kd.R_drewN | apply Kd.R_drew)); exact Kd.R_mono HO_8.out (fun _ hk => trivial), by repeat (first | (with_reducible first | exact HB.out | apply below_alloc | apply pw_below_drewN | apply below_drew1) | exact HB.out)⟩
          · rw [if_neg c11] at H
            exact absurd H (by simp)
        · rw [if_neg c10] at H
          exact absurd H (by simp)
    · rw [if_neg c4] at H
      exact absurd H (by simp)
  · rw [if_neg c3] at H
    exact absurd H (by simp)

def slices_Contains_int_int.f (k : Nat) (l0 : List Int) (a1 : Int) : Option (Bool) := (slices_Index_int_int.f k l0 a1).bind fun t221 => (some (decide (t221 ≥ 0)))
set_option maxHeartbeats 8000000 in
set_option maxRecDepth 100000 in
theorem slices_Contains_int_int.calls (k : Nat) (A0 : Option Addr) (c0 : Nat) (l0 : List Int) (a1 : Int) (r : Bool) (w : World) (hr0 : Kd.C (Kd.int .i64) w A0 l0.length l0) (hc0 : l0.length ≤ c0) (h : slices_Contains_int_int.f k l0 a1 = some r) :
    Calls Try.prog 20 #[.slice A0 l0.length c0, .int .i64 a1] w fun e w' => e = .returned (.bool r) ∧ Drawn0 w w' := by
  have HR0 := Aside0.mk hr0
  have HC0 := Aside0.mk hc0
  clear hr0 hc0
  have H : ((slices_Index_int_int.f k l0 a1).bind fun t221 => (some (decide (t221 ≥ 0)))) = some r := h
  clear h
  replace H := Option.bind_eq_some_iff.mp H
  obtain ⟨t221, A30, H⟩ := H
  replace H : (some (decide (t221 ≥ 0))) = some r := H
  have A3 := Aside0.mk A30
  clear A30
  obtain rfl := Option.some.inj H
  go_enter Try.func20, Try.ntmps20
  go_wp2_with (first | ((with_reducible refine gate_callee (f := 16) rfl ?_); refine goesL_ (some 7) rfl rfl Try.func16 (by kernel_rfl) rfl #[.slice A0 l0.length c0, .int .i64 a1] rfl (by (try simp only [List.map_toArray, List.map_cons, List.map_nil]); first | done | rfl | (simp only [List.length_drop, List.length_take]; rfl)) ?_; (with_reducible refine (slices_Index_int_int.calls k _ _ l0 a1 t221 _ ?side1 ?side2 A3.out).mono ?_); (case side1 => repeat (first | exact HR0.out | (with_reducible refine Kd.C_alloc ?_ _) | (with_reducible refine Kd.C_drewN ?_ _) | (with_reducible refine Kd.C_drew ?_))); (case side2 => exact HC0.out); rintro e w' ⟨rfl, ⟨nd, rfl⟩⟩; refine ⟨_, rfl, ?_⟩))
  go_ret
  exact ⟨by first | rfl | (simp; done) | (simp [*]; done), by repeat (first | exact Drawn0.refl _ | apply Drawn0.step)⟩

end Go.Proofs.Ytcffniaieegbgaa.P

end

section
namespace Go.Proofs.Ytcffniaieegbgaa.P
open Go.RowKit Go.Proofs.YtcffniaieegbgaaW.PrintWords Go.Proofs.YtcffniaieegbgaaW.PrintLast Go.Proofs.YtcffniaieegbgaaW.PrintMore
attribute [local go_sem] max2_int min2_int max_two min_two max_three min_three max_four min_four   -- for this text's walks alone
set_option linter.unusedVariables false
set_option linter.unusedSimpArgs false

theorem eqA46 (d : Nat) (w : World) (x0 y0 : Int) (x1 y1 : Int) (x2 y2 : Int) (x3 y3 : Int) :
    (Op.equalIn (d + 2) 46 (.agg #[.int .i64 x0, .int .u8 x1, .int .i64 x2, .int .i64 x3]) (.agg #[.int .i64 y0, .int .u8 y1, .int .i64 y2, .int .i64 y3])).run Try.prog w = .ok (x0 == y0 && (x1 == y1 && (x2 == y2 && (x3 == y3)))) w := by
  refine eqA_of Try.underlying46 (by kernel_rfl) ?_
  refine eqf_cons (by rfl) (by go_simp; rfl) (by go_simp; rfl) (by go_simp) ?_
  refine eqf_cons (by rfl) (by go_simp; rfl) (by go_simp; rfl) (by go_simp) ?_
  refine eqf_cons (by rfl) (by go_simp; rfl) (by go_simp; rfl) (by go_simp) ?_
  exact eqf_last (by rfl) (by go_simp; rfl) (by go_simp; rfl) (by go_simp)
end Go.Proofs.Ytcffniaieegbgaa.P

end

section
namespace Go.Proofs.Ytcffniaieegbgaa.P
open Go.RowKit Go.Proofs.YtcffniaieegbgaaW.PrintWords Go.Proofs.YtcffniaieegbgaaW.PrintLast Go.Proofs.YtcffniaieegbgaaW.PrintMore
attribute [local go_sem] max2_int min2_int max_two min_two max_three min_three max_four min_four   -- for this text's walks alone
set_option linter.unusedVariables false
set_option linter.unusedSimpArgs false

def provisoref05_from.l0 : Nat → Int → List (S35) → Int → Int → Option (Int)
  | 0, _, _, _, _ => none
  | k + 1, x1, x7, x8, x9 => if x9 < x8 then (if 0 ≤ x9 then (if x9 < (x7.length : Int) then (if ((rd_T35 x7 x9).f0) = x1 then (some x9) else (provisoref05_from.l0 k x1 x7 x8 (wrap64 (x9 + 1)))) else (none)) else (none)) else (some (-1))
def provisoref05_from.f (k : Nat) (l0 : List (S35)) (a1 : Int) : Option (Int) := provisoref05_from.l0 k a1 l0 (l0.length : Int) 0
mutual
def provisoref05_leave.l0 : Nat → List (S35) → Int → List Bool → List Int → List Int → Int → Int → Option (List Int × List Bool)
  | 0, _, _, _, _, _, _, _ => none
  | k + 1, x0, x1, x2, x3, x19, x20, x21 => if x21 < x20 then (if 0 ≤ x21 then (if x21 < (x19.length : Int) then ((provisoref05_from.f k x0 (rd x19 x21)).bind fun t265 => (if t265 ≥ 0 then (if 0 ≤ t265 then (if t265 < (x2.length : Int) then (if rdOf false x2 t265 = true then (provisoref05_leave.l0 k x0 x1 x2 x3 x19 x20 (wrap64 (x21 + 1))) else ((provisoref05_leave.f k x0 t265 x2 x3).bind fun bt267 => (provisoref05_leave.l0 k x0 x1 bt267.2 bt267.1 x19 x20 (wrap64 (x21 + 1))))) else (none)) else (none)) else (provisoref05_leave.l0 k x0 x1 x2 x3 x19 x20 (wrap64 (x21 + 1))))) else (none)) else (none)) else (if x3.length < 17592186044416 then (some ((x3 ++ [x1]), x2)) else (none))
def provisoref05_leave.f : Nat → List (S35) → Int → List Bool → List Int → Option (List Int × List Bool)
  | 0, _, _, _, _ => none
  | k + 1, l0, a1, l2, l3 => if 0 ≤ a1 then (if a1 < (l2.length : Int) then (if a1 < (l0.length : Int) then (provisoref05_leave.l0 k l0 a1 (l2.set (a1 : Int).toNat true) l3 ((rd_T35 l0 a1).f2) (((rd_T35 l0 a1).f2).length : Int) 0) else (none)) else (none)) else (none)
end
mutual
def provisoref05_Order.l0 : Nat → List (S35) → List Bool → List Int → List Int → Int → Option (List Int)
  | 0, _, _, _, _, _ => none
  | k + 1, x0, x3, x4, x5, x6 => if x6 ≥ 0 then (if 0 ≤ x6 then (if x6 < (x4.length : Int) then (if x5.length < 17592186044416 then (provisoref05_Order.l0 k x0 x3 x4 (x5 ++ [rd x4 x6]) (wrap64 (x6 - 1))) else (none)) else (none)) else (none)) else (provisoref05_Order.l1 k x3 x5 (x0.length : Int) 0)
def provisoref05_Order.l1 : Nat → List Bool → List Int → Int → Int → Option (List Int)
  | 0, _, _, _, _ => none
  | k + 1, x3, x5, x32, x33 => if x33 < x32 then (if 0 ≤ x33 then (if x33 < (x3.length : Int) then (if rdOf false x3 x33 = true then (provisoref05_Order.l1 k x3 x5 x32 (wrap64 (x33 + 1))) else (if x5.length < 17592186044416 then (provisoref05_Order.l1 k x3 (x5 ++ [x33]) x32 (wrap64 (x33 + 1))) else (none))) else (none)) else (none)) else (some x5)
end
def provisoref05_Order.f (k : Nat) (l0 : List (S35)) : Option (List Int) := if (l0.length : Int) = 0 then (some ([] : List Int)) else (if 0 ≤ (l0.length : Int) then (if ((l0.length : Int) : Int).toNat ≤ 281474976710656 then ((provisoref05_leave.f k l0 0 (List.replicate ((l0.length : Int) : Int).toNat false) ([] : List Int)).bind fun bt274 => (provisoref05_Order.l0 k l0 bt274.2 bt274.1 ([] : List Int) (wrap64 ((bt274.1.length : Int) - 1)))) else (none)) else (none))
end Go.Proofs.Ytcffniaieegbgaa.P

end

section
namespace Go.Proofs.Ytcffniaieegbgaa.P
open Go.RowKit Go.Proofs.YtcffniaieegbgaaW.PrintWords Go.Proofs.YtcffniaieegbgaaW.PrintLast Go.Proofs.YtcffniaieegbgaaW.PrintMore
attribute [local go_sem] max2_int min2_int max_two min_two max_three min_three max_four min_four   -- for this text's walks alone
set_option linter.unusedVariables false
set_option linter.unusedSimpArgs false

def numOf (bs : List Int) : Int := bs.foldl (fun x c => x * 256 + c) 0
theorem num_bound : ∀ (bs : List Int), (∀ x ∈ bs, 0 ≤ x ∧ x ≤ 255) → ∀ z : Int, 0 ≤ z → 0 ≤ bs.foldl (fun x c => x * 256 + c) z ∧ bs.foldl (fun x c => x * 256 + c) z < (z + 1) * 256 ^ bs.length
  | [], _, z, hz => ⟨hz, by simp; omega⟩
  | x :: bs, h, z, hz => by
    have hx := h x List.mem_cons_self
    obtain ⟨h1, h2⟩ := num_bound bs (fun y hy => h y (List.mem_cons_of_mem _ hy)) (z * 256 + x) (by omega)
    refine ⟨h1, Int.lt_of_lt_of_le h2 ?_⟩
    rw [List.length_cons, Int.pow_succ, ← Int.mul_assoc, Int.mul_right_comm]
    exact Int.mul_le_mul_of_nonneg_right (by omega) (Int.pow_nonneg (by decide))
theorem num_take (seg : List Int) (i : Nat) (hi : i < seg.length) : numOf (seg.take (i + 1)) = numOf (seg.take i) * 256 + rd seg (i : Int) := by
  have hr : rd seg (i : Int) = seg[i] := by simp [rd, List.getD_eq_getElem?_getD, hi]
  unfold numOf
  rw [List.take_succ_eq_append_getElem hi, List.foldl_append, hr]
  rfl
theorem num_small (seg : List Int) (hb : ∀ x ∈ seg, 0 ≤ x ∧ x ≤ 255) (h4 : seg.length ≤ 4) : 0 ≤ numOf seg ∧ numOf seg < 4294967296 := by
  have hz := num_bound seg hb 0 (Int.le_refl _)
  have hp : (256 : Int) ^ seg.length ≤ 4294967296 := by
    have : seg.length = 0 ∨ seg.length = 1 ∨ seg.length = 2 ∨ seg.length = 3 ∨ seg.length = 4 := by omega
    rcases this with e | e | e | e | e <;> rw [e] <;> decide
  unfold numOf
  omega
def opnd (seg : List Int) : Int := if seg.length = 4 then (if numOf seg > 2147483647 then numOf seg - 4294967296 else numOf seg) else numOf seg
def decW (op : Int) : Int × Int := (code_widths.f 3 op).getD (0, 0)
theorem decW_is (op : Int) : code_widths.f 3 op = some ((decW op).1, (decW op).2) := by
  obtain ⟨a, b, h, _⟩ := widths_is 0 op
  rw [Nat.zero_add] at h
  unfold decW
  rw [h]
  rfl
theorem decW_range (op : Int) : 0 ≤ (decW op).1 ∧ (decW op).1 ≤ 4 ∧ 0 ≤ (decW op).2 ∧ (decW op).2 ≤ 1 := by
  obtain ⟨a, b, h, h1⟩ := widths_is 0 op
  rw [Nat.zero_add] at h
  unfold decW
  rw [h]
  exact h1
theorem szOf_is (op : Int) : szOf op = if op ≥ 34 then 0 else 1 + (decW op).1 + (decW op).2 := by
  have hr := decW_range op
  unfold szOf code_Size.f
  split
  · rfl
  · rw [decW_is op]
    show wrap64 (wrap64 (1 + (decW op).1) + (decW op).2) = _
    unfold wrap64; omega
def decL (l : List Int) (i : Nat) : Int × Int × Int × Int × Int :=
  if szOf (rd l (i : Int)) = 0 then (0, 0, 0, 0, 40)
  else if (l.length : Int) - (i : Int) < szOf (rd l (i : Int)) then (0, 0, 0, 0, 2)
  else if rd l (i : Int) = 2 ∧ opnd ((l.drop (i + 1)).take (decW (rd l (i : Int))).1.toNat) > 1 then (0, 0, 0, 0, 5)
  else ((i : Int), rd l (i : Int), opnd ((l.drop (i + 1)).take (decW (rd l (i : Int))).1.toNat), opnd (((l.drop (i + 1)).drop (decW (rd l (i : Int))).1.toNat).take (decW (rd l (i : Int))).2.toNat), 0)
def bytesOk (l : List Int) : Bool := l.all fun x => decide (0 ≤ x) && decide (x ≤ 255)
theorem bytesOk_is {l : List Int} (h : bytesOk l = true) : ∀ x ∈ l, 0 ≤ x ∧ x ≤ 255 := fun x hx => by
  have := List.all_eq_true.1 h x hx
  simpa using this
def code_Decode.f (l0 : List Int) (a1 : Int) : Option (Int × Int × Int × Int × Int) := if 0 ≤ a1 ∧ a1 < (l0.length : Int) ∧ bytesOk l0 = true then some (decL l0 a1.toNat) else none
def flow_Scan.l0 : Nat → List Int → List (S46) → Int → Option ((List (S46)) × Int × Int)
  | 0, _, _, _ => none
  | k + 1, x0, x5, x6 => if x6 < (x0.length : Int) then ((code_Decode.f x0 x6).bind fun bt309 => (if bt309.2.2.2.2 = 0 then (if x5.length < 4398046511104 then ((code_Size.f k bt309.2.1).bind fun t318 => (flow_Scan.l0 k x0 (x5 ++ [(⟨bt309.1, bt309.2.1, bt309.2.2.1, bt309.2.2.2.1⟩ : S46)]) (wrap64 (x6 + t318)))) else (none)) else (some (([] : List (S46)), x6, bt309.2.2.2.2)))) else (some (x5, 0, 0))
def flow_Scan.f (k : Nat) (l0 : List Int) : Option ((List (S46)) × Int × Int) := if (l0.length : Int) > 4096 then (some (([] : List (S46)), 0, 4)) else (flow_Scan.l0 k l0 ([] : List (S46)) 0)
end Go.Proofs.Ytcffniaieegbgaa.P

end

section
namespace Go.Proofs.Ytcffniaieegbgaa.P
open Go.RowKit Go.Proofs.YtcffniaieegbgaaW.PrintWords Go.Proofs.YtcffniaieegbgaaW.PrintLast Go.Proofs.YtcffniaieegbgaaW.PrintMore
attribute [local go_sem] max2_int min2_int max_two min_two max_three min_three max_four min_four   -- for this text's walks alone
set_option linter.unusedVariables false
set_option linter.unusedSimpArgs false

def tgts (l : List S46) : List Int := (l.filter fun x => jumpsB x.f1).map (·.f2)
end Go.Proofs.Ytcffniaieegbgaa.P

end

section
namespace Go.Proofs.Ytcffniaieegbgaa.P
open Go.RowKit Go.Proofs.YtcffniaieegbgaaW.PrintWords Go.Proofs.YtcffniaieegbgaaW.PrintLast Go.Proofs.YtcffniaieegbgaaW.PrintMore
attribute [local go_sem] max2_int min2_int max_two min_two max_three min_three max_four min_four   -- for this text's walks alone
set_option linter.unusedVariables false
set_option linter.unusedSimpArgs false

theorem firstAt_lt : ∀ (l : List S46) (j : Nat) (x v : Int), firstAt l j x = some v → ∃ i : Nat, v = ((j + i : Nat) : Int) ∧ i < l.length
  | [], j, x, v, h => by cases h
  | y :: r, j, x, v, h => by
    unfold firstAt at h
    split at h
    · cases h; exact ⟨0, rfl, by simp⟩
    · obtain ⟨i, h1, h2⟩ := firstAt_lt r (j + 1) x v h
      exact ⟨i + 1, by rw [h1]; congr 1; omega, by simpa using h2⟩
theorem nextL_ok {x : S46} (h : I64 x.f2) : ∀ y ∈ nextL x, I64 y := by
  intro y hy
  unfold nextL at hy
  split at hy
  · cases hy
  · split at hy
    · rename_i hp
      rw [srt_mem] at hy
      have hp : 0 ≤ x.f0 ∧ x.f0 < 4096 := by unfold placedB at hp; simpa using hp
      have hz := szOf_range x.f1
      unfold nextKeys at hy
      rcases List.mem_append.1 hy with hy | hy
      · split at hy
        · cases hy
        · rw [List.mem_singleton.1 hy]; constructor <;> omega
      · split at hy
        · rw [List.mem_singleton.1 hy]; exact h
        · cases hy
    · cases hy
theorem below_none {W W1 : World} (hg : W.grownBy W1 none) : Below W.heap.size W W1 := ⟨hg.os, hg.tape, hg.output, hg.size, fun k hk => hg.block k hk (by simp)⟩
structure Mq (w0 : World) (B1 n1 : Nat) (g1 : Int → Option Int) (B2 n2 : Nat) (g2 : Int → Option Int) (W : World) : Prop where
  own1 : IMap W B1 n1 g1
  own2 : IMap W B2 n2 g2
  ne : B1 ≠ B2
  base1 : w0.heap.size ≤ B1
  base2 : w0.heap.size ≤ B2
  below : Below w0.heap.size w0 W
theorem Mq.step {w0 W W1 : World} {B1 n1 B2 n2 : Nat} {g1 g2 : Int → Option Int} (h : Mq w0 B1 n1 g1 B2 n2 g2 W) (hb : Below W.heap.size W W1) : Mq w0 B1 n1 g1 B2 n2 g2 W1 := ⟨h.own1.below hb, h.own2.below hb, h.ne, h.base1, h.base2, below_step h.below hb⟩
theorem Mq.stored {w0 W W1 : World} {B1 n1 B2 n2 n3 : Nat} {g1 g2 g3 : Int → Option Int} (h : Mq w0 B1 n1 g1 B2 n2 g2 W) (h3 : IMap W1 B2 n3 g3) (hg : W.grownBy W1 (some B2)) : Mq w0 B1 n1 g1 B2 n3 g3 W1 :=
  ⟨h.own1.grown hg (fun e => h.ne (by cases e; rfl)), h3, h.ne, h.base1, h.base2, h.below.grown hg h.below.size (fun k hk => by cases hk; exact h.base2)⟩
theorem Mq.grown {w0 W W1 : World} {B1 n1 B2 n2 : Nat} {g1 g2 : Int → Option Int} (h : Mq w0 B1 n1 g1 B2 n2 g2 W) {v : Value} {e : Nat} (ht : ∀ k, v.ownBlock = some k → ∃ cells, W.heap[k]? = some (.cells cells e (0, 0))) (hg : W.grownBy W1 v.ownBlock) (hb : Below w0.heap.size w0 W1) : Mq w0 B1 n1 g1 B2 n2 g2 W1 :=
  ⟨h.own1.grown hg (fun q => by obtain ⟨cs, hc⟩ := ht _ q.symm; exact h.own1.ne hc rfl), h.own2.grown hg (fun q => by obtain ⟨cs, hc⟩ := ht _ q.symm; exact h.own2.ne hc rfl), h.ne, h.base1, h.base2, hb⟩
end Go.Proofs.Ytcffniaieegbgaa.P

end

section
namespace Go.Proofs.Ytcffniaieegbgaa.P
open Go.RowKit Go.Proofs.YtcffniaieegbgaaW.PrintWords Go.Proofs.YtcffniaieegbgaaW.PrintLast Go.Proofs.YtcffniaieegbgaaW.PrintMore
attribute [local go_sem] max2_int min2_int max_two min_two max_three min_three max_four min_four   -- for this text's walks alone
set_option linter.unusedVariables false
set_option linter.unusedSimpArgs false

section
variable {P : Program}
theorem run_append1 (w : World) (base : Nat) (t ty e : TypeId) (i : TypeInfo) (z : Value) (ht : P.underlying t = some (.slice e)) (hi : P.info? e = some i) (hz : i.zero = some z) (hzs : z.cells.size = i.size) (hsz : 0 < i.size)
    (v : Value) (n : Nat) (xs : List Value) (hown : w.ownsRow base e i.size v n xs) (a : Addr) (c : Nat) (news : List Value) (hl : news.length = 1 * i.size) (hnews : ∀ j u, news[j]? = some u → w.cell? (a.add j) = some u) (h1 : ∀ u ∈ news, u.oneCell' = true)
    (h63 : n + 1 ≤ maxLen) (hb1 : i.bytes ≤ 140737488355328) (hfit : Builtin.nextslicecap (n + 1) n * i.bytes ≤ 281474976710656) (hbase : base ≤ w.heap.size) :
    ∃ v' w', (Builtin.append_ #[t, t] ty #[v, .slice (some a) 1 c]).run P w = .ok v' w' ∧ w'.ownsRow base e i.size v' (n + 1) (xs ++ news) ∧ w.grownBy w' v.ownBlock ∧ (v'.ownBlock = v.ownBlock ∨ v'.ownBlock = some w.heap.size) := by
  rcases hown.2 with ⟨rfl, rfl⟩ | ⟨g, cap, cur, rfl, hbg, hg, hnc, hcm, hcs, htake⟩
  · obtain ⟨v', w', h2, h3, h4, _, h5⟩ := run_append_own_at (P := P) w base t ty e i z i.size i.bytes ht hi hz rfl rfl hzs hsz _ 0 xs hown a 1 c news hl hnews h1 (by omega) (by omega) hbase
    exact ⟨v', w', h2, h3, h4, h5⟩
  · have hsmall : n + 1 ≤ 9223372036854775807 := by simp only [maxLen] at h63; omega
    have hlen : (xs ++ news).length = (n + 1) * i.size := by rw [List.length_append, hown.1, hl, Nat.add_mul]
    by_cases hroom : n + 1 ≤ cap
    · have hfit2 : n * i.size + news.length ≤ cur.size := by rw [hl, hcs, ← Nat.add_mul]; exact Nat.mul_le_mul_right _ hroom
      have hr := run_append_room (P := P) w t ty e i ht hi g n cap cur hg a 1 c news hl hnews h1 hroom hfit2
      refine ⟨_, _, hr, ⟨hlen, .inr ⟨g, cap, _, rfl, hbg, setRow_heap w g cur _ e _ hg, hroom, hcm, ?_, ?_⟩⟩, ⟨rfl, rfl, rfl, by simp, fun k _ hk => setRow_other w g k _ (fun e => hk (by simp [Value.ownBlock, e]))⟩, Or.inl rfl⟩
      · simp only [List.size_toArray, List.length_append, List.length_take, List.length_drop, Array.length_toList]
        omega
      · rw [htake, ← hlen]
        exact List.take_left
    · have hcap : cap = n := by omega
      subst hcap
      have holds : ∀ j u, xs[j]? = some u → w.cell? ((⟨g, 0, none⟩ : Addr).add j) = some u := hown.cells (g := g) rfl
      have hr := run_append_grow (P := P) w t ty e i z ht hi hz ⟨g, 0, none⟩ cap cap xs hown.1 holds a 1 c news hl hnews (by omega) (by omega) hfit
      have hge := grownCap_ge w (cap + 1) cap e
      have hcm2 : grownCap w (cap + 1) cap e ≤ maxLen := grownCap_le_maxLen w (cap + 1) cap e h63
      refine ⟨_, _, hr, ⟨hlen, .inr ⟨w.heap.size, _, _, rfl, hbase, heap_alloc_new w.drew _, hge, hcm2, ?_, ?_⟩⟩, ⟨rfl, rfl, rfl, by simp, fun k hk _ => heap_alloc_old w.drew _ hk⟩, Or.inr rfl⟩
      · simp only [Array.size_append, List.size_toArray, size_zeroCells, hzs, hown.1, hl, ← Nat.add_mul]
        congr 1
        omega
      · simp only [Array.toList_append, List.append_assoc]
        rw [← List.append_assoc, ← hlen]
        exact List.take_left
section
variable {ops : Array Oper} {rest : List Oper} {o : Oper} {a : Act} {Q : Exit → Act → World → Prop}
theorem R_append1 {α : Type} (d : Kd α) {w0 W : World} (base : Nat) (hgd : o.guard = none) (s x : Operand) (t e : TypeId) (z : Value) (bytes : Nat)
    (ho : o.op = .call { callee := .builtin .append, args := #[s, x], argTypes := #[t, t] })
    (ht : P.underlying t = some (.slice e)) (hinfo : (P.info? e).map (fun i => (i.zero, i.size, i.bytes)) = some (some z, d.sz, bytes)) (hz : z.cells.size = d.sz) (hs0 : 0 < d.sz) (hb1 : bytes ≤ 140737488355328)
    (v : Value) (xs : List α) (p : α) (cs : List Value) (ok okp : Nat → Prop) (hs : a.eval s = v) (hx : a.eval x = .slice (some ⟨W.heap.size, 0, none⟩) 1 1) (hp : d.M W base okp p cs) (hokp : ∀ k, okp k → ok k ∧ some k ≠ v.ownBlock) (hfresh : ∀ k, W.heap.size ≤ k → ok k)
    (HO : d.R e W base ok v xs) (HB : Below base w0 W) (hbase : base ≤ W.heap.size) (hl : xs.length + 1 ≤ maxLen) (hfit : Builtin.nextslicecap (xs.length + 1) xs.length * bytes ≤ 281474976710656)
    (h : ∀ v1 w1, d.R e w1 base ok v1 (xs ++ [p]) → Below base w0 w1 → W.grownBy w1 v.ownBlock → (v1.ownBlock = v.ownBlock ∨ ∃ b, v1.ownBlock = some b ∧ W.heap.size ≤ b) → wpList P ops Q rest (a.put o.dst v1) w1) :
    wpList P ops Q (o :: rest) a (W.alloc (.cells cs.toArray e)) := by
  obtain ⟨h0, inner, hown, hr⟩ := HO
  obtain ⟨i0, hi, hzz⟩ := Option.map_eq_some_iff.1 hinfo
  simp only [Prod.mk.injEq] at hzz
  obtain ⟨hz0, hz1, hz2⟩ := hzz
  have hcl : cs.length = d.sz := d.K_len (d.K_of_M hp)
  rw [← hz1] at hown hz hs0 hcl
  refine wpList_plain hgd fun K hK => ?_
  obtain ⟨v1, w1, hrun, hown1, hg, hat⟩ := run_append1 (P := P) (W.alloc (.cells cs.toArray e)) base t o.type e i0 z ht hi hz0 hz hs0 v xs.length inner (hown.alloc _) ⟨W.heap.size, 0, none⟩ 1 cs (by rw [hcl]; simp)
    (by simpa using World.news_of_block (cs := cs.toArray) (t := e) (fr := (0, 0)) (heap_alloc_new W (.cells cs.toArray e))) (d.K_one (d.K_of_M hp)) hl (by rw [hz2]; exact hb1) (by rw [hz2]; exact hfit) (by simp; omega)
  unfold Oper.wp execOp
  simp only [ho, resolve, invoke, builtin, Sem.run_bind, Sem.run_pure, Result.andThen_ok, List.map_toArray, List.map_cons, List.map_nil, hs, hx, hrun]
  have hg2 : W.grownBy w1 v.ownBlock := World.grownBy.trans (World.grownBy_alloc W _ _) hg
  have hat2 : v1.ownBlock = v.ownBlock ∨ ∃ b, v1.ownBlock = some b ∧ W.heap.size ≤ b := by
    rcases hat with hat | hat
    · exact .inl hat
    · exact .inr ⟨_, hat, by simp⟩
  rw [hz1] at hown1 hown
  exact hK _ _ (h v1 w1 (Kd.R_appended h0 hr hp hokp hfresh hown1 hg2 hat2) ((HB.alloc hbase _).grown hg (by simp; omega) (own_base hown)) hg2 hat2)
end
end

def followB (x : S46) : Bool := jumpsB x.f1 || endsB x.f1
def follow (l : List S46) : Nat → List Int
  | 0 => []
  | i + 1 => follow l i ++ (if (decide (i + 1 < l.length) && followB (rd_T46 l (i : Int))) = true then [(rd_T46 l ((i + 1 : Nat) : Int)).f0] else [])
def leadK (l : List S46) : List Int := srt (tgts l) ++ follow l l.length
def blkOf (l : List S46) (fr i : Nat) : S35 := ⟨(rd_T46 l (fr : Int)).f0, (rd_T46 l (i : Int)).f0, (nextL (rd_T46 l (i : Int))).filter fun a => (firstAt l 0 a).isSome⟩
def goesOn (l : List S46) (i : Nat) : Bool := decide (i + 1 < l.length) && !decide ((rd_T46 l ((i + 1 : Nat) : Int)).f0 ∈ leadK l)
def blocksL (l : List S46) (fr i : Nat) : Nat → List S35
  | 0 => []
  | d + 1 => if goesOn l i = true then blocksL l fr (i + 1) d else blkOf l fr i :: blocksL l (i + 1) (i + 1) d
theorem ins_length (n : Int) : ∀ l : List Int, (ins n l).length ≤ l.length + 1
  | [] => by simp [ins]
  | x :: r => by
    unfold ins
    split
    · simp
    · split
      · simp
      · have := ins_length n r
        simp
        omega
theorem take_snocI {l : List Int} {i : Nat} (h : i < l.length) : l.take (i + 1) = l.take i ++ [rd l (i : Int)] := by
  rw [List.take_succ_eq_append_getElem h]
  congr 2
  show _ = l.getD (i : Int).toNat 0
  rw [Int.toNat_natCast, List.getD_eq_getElem?_getD, List.getElem?_eq_getElem h]
  rfl
theorem rd_memI {l : List Int} {i : Nat} (h : i < l.length) : rd l (i : Int) ∈ l := by
  have hr : rd l (i : Int) = l[i] := by simp [rd, List.getD_eq_getElem?_getD, h]
  rw [hr]; exact List.getElem_mem h
theorem blk_M {W : World} {base : Nat} {ok : Nat → Prop} {f t : Int} {v : Value} {ns : List Int} (h : Kd.R (Kd.int .i64) 3 W base ok v ns) : Kd.M k35 W base ok (⟨f, t, ns⟩ : S35) [.int .i64 f, .int .i64 t, v] :=
  ⟨[.int .i64 f], [.int .i64 t, v], rfl, rfl, [.int .i64 t], [v], rfl, rfl, v, rfl, h⟩
theorem blk_fits {n : Nat} (h : n ≤ 4398046511104) : Builtin.nextslicecap (n + 1) n * 40 ≤ 281474976710656 := by
  unfold Builtin.nextslicecap
  split
  · omega
  · split
    · omega
    · have h1 : ∀ r c : Nat, n + 1 ≤ c → Builtin.growBy (n + 1) r c = c := fun r c hc => by
        cases r with
        | zero => rfl
        | succ r => unfold Builtin.growBy; rw [if_pos hc]
      unfold Builtin.growBy
      rw [if_neg (by omega), h1 3 _ (by omega)]
      omega
theorem Mq.kept {w0 W W1 : World} {B1 n1 B2 n2 : Nat} {g1 g2 : Int → Option Int} (h : Mq w0 B1 n1 g1 B2 n2 g2 W) {b : Nat} {cs : Array Value} {t : TypeId} (hb : W.heap[b]? = some (.cells cs t (0, 0))) (hk : Kept W W1 (fun k => k = b)) (hl : Below w0.heap.size w0 W1) : Mq w0 B1 n1 g1 B2 n2 g2 W1 :=
  ⟨h.own1.block (hk.2 B1 h.own1.lt (h.own1.ne hb)), h.own2.block (hk.2 B2 h.own2.lt (h.own2.ne hb)), h.ne, h.base1, h.base2, hl⟩
theorem Rws.besides {w0 W W1 : World} {l : List (Nat × TypeId × Array Value)} (h : Rws w0 l W) {v : Value} {e : Nat} (ht : ∀ k, v.ownBlock = some k → ∃ cells, W.heap[k]? = some (.cells cells e (0, 0))) (hne : ∀ p ∈ l, p.2.1 ≠ e) (hg : W.grownBy W1 v.ownBlock) (hb : Below w0.heap.size w0 W1) : Rws w0 l W1 :=
  ⟨fun p hp => ⟨blk_grown (h.lies p hp).1 hg (fun q => by
    obtain ⟨cs, hc⟩ := ht _ q.symm
    rw [(h.lies p hp).1] at hc
    injection hc with hc
    injection hc with _ hc
    exact hne p hp hc), (h.lies p hp).2⟩, h.ne, hb⟩
section
variable {ops : Array Oper} {rest : List Oper} {o : Oper} {a : Act} {Q : Exit → Act → World → Prop}
end
theorem filter_take (p : Int → Bool) {l : List Int} {i : Nat} (h : i < l.length) : (l.take (i + 1)).filter p = (l.take i).filter p ++ (if p (rd l (i : Int)) = true then [rd l (i : Int)] else []) := by
  rw [take_snocI h, List.filter_append]
  congr 1
  cases hp : p (rd l (i : Int)) <;> simp [hp]
theorem nextL_le2 (x : S46) : (nextL x).length ≤ 2 := by
  unfold nextL
  split
  · simp
  · split
    · unfold nextKeys srt
      have h1 := ins_length (x.f0 + szOf x.f1) []
      have h2 := ins_length x.f2 []
      have h3 := ins_length x.f2 (ins (x.f0 + szOf x.f1) [])
      split <;> split <;> simp at * <;> omega
    · simp
section
variable {P : Program} {ops : Array Oper} {rest : List Oper} {o : Oper} {a : Act} {Q : Exit → Act → World → Prop}
theorem S_append1 {α : Type} (d : Kd α) {w0 W : World} (base : Nat) (hgd : o.guard = none) (s x : Operand) (t e : TypeId) (z : Value) (bytes : Nat)
    (ho : o.op = .call { callee := .builtin .append, args := #[s, x], argTypes := #[t, t] })
    (ht : P.underlying t = some (.slice e)) (hinfo : (P.info? e).map (fun i => (i.zero, i.size, i.bytes)) = some (some z, d.sz, bytes)) (hz : z.cells.size = d.sz) (hs0 : 0 < d.sz) (hb1 : bytes ≤ 140737488355328)
    (v : Value) (xs : List α) (p : α) (cs : List Value) (ok okp : Nat → Prop) (hs : a.eval s = v) (hx : a.eval x = .slice (some ⟨W.heap.size, 0, none⟩) 1 1) (hp : d.M W base okp p cs) (hokp : ∀ k, okp k → ok k ∧ some k ≠ v.ownBlock) (hfresh : ∀ k, W.heap.size ≤ k → ok k)
    (HO : Kd.S d e W base (fun k => ok k ∧ ¬ okp k) v xs) (HB : Below base w0 W) (hbase : base ≤ W.heap.size) (hl : xs.length + 1 ≤ maxLen) (hfit : Builtin.nextslicecap (xs.length + 1) xs.length * bytes ≤ 281474976710656)
    (h : ∀ v1 w1, Kd.S d e w1 base ok v1 (xs ++ [p]) → Below base w0 w1 → W.grownBy w1 v.ownBlock → (v1.ownBlock = v.ownBlock ∨ ∃ b, v1.ownBlock = some b ∧ W.heap.size ≤ b) → wpList P ops Q rest (a.put o.dst v1) w1) :
    wpList P ops Q (o :: rest) a (W.alloc (.cells cs.toArray e)) := by
  obtain ⟨f, hf, hR⟩ := Kd.S_tag HO xs.length okp (fun _ hk h2 => h2.2 hk)
  refine R_append1 (Kd.tag f d) base hgd s x t e z bytes ho ht hinfo hz hs0 hb1 v xs.zipIdx (p, xs.length) cs ok okp hs hx (d.M_mono (fun k hk => ⟨hk, hf k hk⟩) hp) hokp hfresh (Kd.R_mono hR (fun _ hk => hk.1)) HB hbase (by rw [List.length_zipIdx]; exact hl) (by rw [List.length_zipIdx]; exact hfit) ?_
  intro v1 w1 hr
  rw [← Kd.zip_snoc] at hr
  exact h v1 w1 ⟨f, hr⟩
end
end Go.Proofs.Ytcffniaieegbgaa.P

end

section
namespace Go.Proofs.Ytcffniaieegbgaa.P
open Go.RowKit Go.Proofs.YtcffniaieegbgaaW.PrintWords Go.Proofs.YtcffniaieegbgaaW.PrintLast Go.Proofs.YtcffniaieegbgaaW.PrintMore
attribute [local go_sem] max2_int min2_int max_two min_two max_three min_three max_four min_four   -- for this text's walks alone
set_option linter.unusedVariables false
set_option linter.unusedSimpArgs false

def placeI (l : List S46) (a : Int) : Int := (firstAt l 0 a).getD (-1)
def riseTo (l : List S46) : Nat → Bool
  | 0 => true
  | i + 1 => riseTo l i && !(decide (0 < i) && decide ((rd_T46 l (i : Int)).f0 ≤ (rd_T46 l ((i - 1 : Nat) : Int)).f0))
theorem riseTo_no {l : List S46} {i : Nat} (h : riseTo l i = false) : ∀ d, riseTo l (i + d) = false
  | 0 => h
  | d + 1 => by rw [show i + (d + 1) = (i + d) + 1 by omega, riseTo, riseTo_no h d]; rfl
def markR (l : List S46) : Nat → List Bool
  | 0 => List.replicate l.length false
  | i + 1 =>
    let x := rd_T46 l (i : Int)
    let m1 := if i = 0 then (markR l i).set i true else markR l i
    let m2 := if ((jumpsB x.f1 || endsB x.f1) && decide (i + 1 < l.length)) = true then m1.set (i + 1) true else m1
    if (jumpsB x.f1 && decide (0 ≤ placeI l x.f2)) = true then m2.set (placeI l x.f2).toNat true else m2
theorem markR_len (l : List S46) : ∀ i, (markR l i).length = l.length
  | 0 => by simp [markR]
  | i + 1 => by
    have ih := markR_len l i
    simp only [markR]
    split <;> split <;> split <;> simp [ih]
def outR (l : List S46) (m : List Bool) : Nat → List S35
  | 0 => []
  | i + 1 =>
    let x := rd_T46 l (i : Int)
    let o := if m.getD i false = true then outR l m i ++ [⟨x.f0, 0, []⟩] else outR l m i
    o.set (o.length - 1) ⟨(o.getD (o.length - 1) z35).f0, x.f0, if i + 1 = l.length ∨ m.getD (i + 1) false = true then (nextL x).filter (fun a => decide (0 ≤ placeI l a)) else []⟩
def okR (k : Nat) (l : List S46) : Bool := l.all fun x => decide (provisoref05_Next.f k x.f0 x.f1 x.f2 x.f3 = some (nextL x)) && (decide (provisoref05_Place.f k l x.f2 = some (placeI l x.f2)) && (nextL x).all fun b => decide (provisoref05_Place.f k l b = some (placeI l b)))
theorem okR_at {k : Nat} {l : List S46} (h : okR k l = true) {i : Nat} (hi : i < l.length) : provisoref05_Next.f k (rd_T46 l (i : Int)).f0 (rd_T46 l (i : Int)).f1 (rd_T46 l (i : Int)).f2 (rd_T46 l (i : Int)).f3 = some (nextL (rd_T46 l (i : Int))) ∧ provisoref05_Place.f k l (rd_T46 l (i : Int)).f2 = some (placeI l (rd_T46 l (i : Int)).f2) ∧ ∀ b ∈ nextL (rd_T46 l (i : Int)), provisoref05_Place.f k l b = some (placeI l b) := by
  have h9 := List.all_eq_true.1 h _ (List.getElem_mem hi)
  have hx : rd_T46 l (i : Int) = l[i] := by unfold rd_T46; rw [Int.toNat_natCast, List.getD_eq_getElem?_getD, List.getElem?_eq_getElem hi]; rfl
  rw [← hx] at h9
  rw [Bool.and_eq_true, Bool.and_eq_true] at h9
  exact ⟨of_decide_eq_true h9.1, of_decide_eq_true h9.2.1, fun b hb => of_decide_eq_true (List.all_eq_true.1 h9.2.2 b hb)⟩
def provisoref05_Blocks.f (k : Nat) (l0 : List S46) : Option (List S35) := if l0.length < 4398046511104 ∧ okR k l0 = true then (if riseTo l0 l0.length = true then some (outR l0 (markR l0 l0.length) l0.length) else some []) else none
theorem markR_step {l : List S46} {i : Nat} {x : S46} (hx : x = rd_T46 l (i : Int)) : markR l (i + 1) = if (jumpsB x.f1 && decide (0 ≤ placeI l x.f2)) = true then (if ((jumpsB x.f1 || endsB x.f1) && decide (i + 1 < l.length)) = true then (if i = 0 then (markR l i).set i true else markR l i).set (i + 1) true else (if i = 0 then (markR l i).set i true else markR l i)).set (placeI l x.f2).toNat true else (if ((jumpsB x.f1 || endsB x.f1) && decide (i + 1 < l.length)) = true then (if i = 0 then (markR l i).set i true else markR l i).set (i + 1) true else (if i = 0 then (markR l i).set i true else markR l i)) := by rw [hx]; rfl
theorem add0 (g m : Nat) : (⟨g, 0, none⟩ : Addr).add m = ⟨g, m, none⟩ := by
  unfold Addr.add
  split
  · rename_i h; first | (subst h; rfl) | (rw [h]) | simp_all
  · simp
theorem placeI_lt {l : List S46} {a : Int} (h : 0 ≤ placeI l a) : placeI l a < (l.length : Int) := by
  unfold placeI at h ⊢
  cases hf : firstAt l 0 a with
  | none => rw [hf] at h; exact absurd h (by decide)
  | some v => have := firstAt_lt l 0 a v hf; show v < _; omega
section
variable {ops : Array Oper} {rest : List Oper} {o : Oper} {a : Act} {Q : Exit → Act → World → Prop}
theorem bool_store (hgd : o.guard = none) {p x : Operand} (ho : o.op = .store 4 p x) (hN : o.dst = none) {w0 W : World} {base g n cap : Nat} {ok : Nat → Prop} {xs : List Bool} {b : Bool} (i : Nat) (HO : Kd.R Kd.bool 4 W base ok (.slice (some ⟨g, 0, none⟩) n cap) xs) (hi : i < n) (HB : Below base w0 W) (haddr : a.eval p = .pointer (some ⟨g, i, none⟩)) (hx : a.eval x = .bool b)
    (h : ∀ w1, Kd.R Kd.bool 4 w1 base ok (.slice (some ⟨g, 0, none⟩) n cap) (xs.set i b) → Below base w0 w1 → W.grownBy w1 (some g) → wpList Try.prog ops Q rest a w1) : wpList Try.prog ops Q (o :: rest) a W := by
  obtain ⟨c, hcl, _, hcc⟩ := Kd.R_getA HO false (i : Int) (by omega) (by omega)
  obtain ⟨q, rfl⟩ := List.length_eq_one_iff.1 (hcl.trans rfl)
  refine Kd.R_store Kd.bool base hN hgd 4 p x ho 4 (i : Int) 0 xs b (.bool b) [.bool b] [q] ok (fun _ => False) haddr (by show i = i * 1 + 0; omega) hx rfl (by kernel_rfl) (by intro q hq; rw [List.mem_singleton.1 hq]; rfl) HO (by omega) (by omega) rfl (fun j u hj => by have := hcc j u hj; rw [add0] at this; exact this) (by show 0 + 1 ≤ 1; omega) rfl (fun _ hk => hk.elim) HB ?_
  intro w1 h1 h2 h3
  exact h w1 (by rw [Int.toNat_natCast] at h1; exact h1) h2 h3
end
theorem set_true (m : List Bool) (j : Nat) (h : m.getD 0 false = true) : (m.set j true).getD 0 false = true := by
  cases m with
  | nil => exact h
  | cons b m =>
    cases j with
    | zero => rfl
    | succ j => exact h
theorem markR_zero (l : List S46) (hl : 0 < l.length) : ∀ i, (markR l (i + 1)).getD 0 false = true
  | 0 => by
    have h1 : ((markR l 0).set 0 true).getD 0 false = true := by
      have := markR_len l 0
      cases hm : markR l 0 with
      | nil => rw [hm, List.length_nil] at this; omega
      | cons b m => rfl
    rw [markR_step rfl, if_pos rfl]
    split <;> split <;> first | exact set_true _ _ (set_true _ _ h1) | exact set_true _ _ h1 | exact h1
  | i + 1 => by
    have h1 := markR_zero l hl i
    rw [markR_step rfl, if_neg (Nat.succ_ne_zero i)]
    split <;> split <;> first | exact set_true _ _ (set_true _ _ h1) | exact set_true _ _ h1 | exact h1
def addR (l : List S46) (m : List Bool) (i : Nat) : List S35 := if m.getD i false = true then outR l m i ++ [⟨(rd_T46 l (i : Int)).f0, 0, []⟩] else outR l m i
def nxR (l : List S46) (m : List Bool) (i : Nat) : List Int := if i + 1 = l.length ∨ m.getD (i + 1) false = true then (nextL (rd_T46 l (i : Int))).filter (fun a => decide (0 ≤ placeI l a)) else []
theorem outR_step (l : List S46) (m : List Bool) (i : Nat) : outR l m (i + 1) = (addR l m i).set ((addR l m i).length - 1) ⟨((addR l m i).getD ((addR l m i).length - 1) z35).f0, (rd_T46 l (i : Int)).f0, nxR l m i⟩ := rfl
theorem outR_len (l : List S46) (m : List Bool) : ∀ i, (outR l m i).length ≤ i
  | 0 => Nat.le_refl _
  | i + 1 => by
    have ih := outR_len l m i
    rw [outR_step, List.length_set]
    unfold addR
    split
    · rw [List.length_append, List.length_singleton]; omega
    · omega
theorem addR_pos (l : List S46) (m : List Bool) (h0 : m.getD 0 false = true) : ∀ i, 0 < (addR l m i).length
  | 0 => by unfold addR; rw [if_pos h0]; simp
  | i + 1 => by
    have ih := addR_pos l m h0 i
    have h1 : 0 < (outR l m (i + 1)).length := by rw [outR_step, List.length_set]; exact ih
    unfold addR
    split
    · rw [List.length_append]; omega
    · exact h1
section
variable {P : Program} {ops : Array Oper} {rest : List Oper} {o : Oper} {a : Act} {Q : Exit → Act → World → Prop}
theorem h_store {α : Type} (d : Kd α) {w0 W : World} (base : Nat) (hN : o.dst = none) (hgd : o.guard = none) (t : TypeId) (p x : Operand) (ho : o.op = .store t p x) (e : TypeId) {g n cap o' : Nat} (i : Int) (j : Nat) (xs : List α) (u : Value) (seg c : List Value) (ok oki : Nat → Prop)
    (haddr : a.eval p = .pointer (some ⟨g, o', none⟩)) (hoff : o' = i.toNat * d.sz + j) (hx : a.eval x = u) (hu : u.cells.toList = seg) (ht : (P.info? t).map (·.size) = some seg.length) (hone : ∀ q ∈ seg, q.oneCell' = true)
    (HO : Kd.H d e W base ok (.slice (some ⟨g, 0, none⟩) n cap) xs i oki c) (h0 : 0 ≤ i) (hi : i < n) (hj : j + seg.length ≤ d.sz) (HB : Below base w0 W)
    (h : ∀ w1, Kd.H d e w1 base ok (.slice (some ⟨g, 0, none⟩) n cap) xs i oki (c.take j ++ seg ++ c.drop (j + seg.length)) → Below base w0 w1 → W.grownBy w1 (some g) → wpList P ops Q rest a w1) : wpList P ops Q (o :: rest) a W := by
  obtain ⟨rows, _, hraw, hcl, hco, hcc, hback⟩ := Kd.H_raw HO h0 hi
  refine Kd.R_store (Kd.raw d.sz) base hN hgd t p x ho e i j rows (c.take j ++ seg ++ c.drop (j + seg.length)) u seg c (fun _ => True) (fun _ => False) haddr hoff hx hu ht hone hraw h0 hi hcl hcc hj
    ⟨rfl, by
      show (c.take j ++ seg ++ c.drop (j + seg.length)).length = d.sz
      simp only [List.length_append, List.length_take, List.length_drop]; omega, fun u hu => by
      rcases List.mem_append.1 hu with hu | hu
      · rcases List.mem_append.1 hu with hu | hu
        · exact hco u (List.mem_of_mem_take hu)
        · exact hone u hu
      · exact hco u (List.mem_of_mem_drop hu)⟩ (fun _ hk => hk.elim) HB ?_
  intro w1 hr hb hg
  exact h w1 (hback w1 _ hg hr) hb hg
end
theorem blk_parts {W : World} {base : Nat} {ok : Nat → Prop} {b : S35} {c : List Value} (h : Kd.M k35 W base ok b c) : ∃ v, c = [.int .i64 b.f0, .int .i64 b.f1, v] ∧ Kd.R (Kd.int .i64) 3 W base ok v b.f2 := by
  obtain ⟨c1, c2, rfl, h1, h2⟩ := h
  obtain ⟨c3, c4, rfl, h3, h4⟩ := h2
  obtain ⟨v, rfl, h5⟩ := h4
  exact ⟨v, by rw [h1, h3]; rfl, h5⟩
theorem h_typed {α : Type} {d : Kd α} {e : Nat} {W : World} {base : Nat} {ok oki : Nat → Prop} {v : Value} {xs : List α} {i : Int} {c : List Value} (h : Kd.H d e W base ok v xs i oki c) : ∀ k, v.ownBlock = some k → ∃ cells, W.heap[k]? = some (.cells cells e (0, 0)) := by
  obtain ⟨_, f, hR⟩ := h
  exact Kd.R_typed hR
end Go.Proofs.Ytcffniaieegbgaa.P
end

